/-
  Texts of this proof, joined: SsF, SsG, SsH, SsI, SsJ, SsL, SsK, StA, StB, SrB, SrF, SrG, SrH, SrC, SrI, SrJ, StC, StD, StE, SsM, StF.
  Conditions: none.
-/
import Derived.Test.YtgiadjbiimkbiaaGreatDoorAd
import Derived.Test.YtgiadjbiimkbiaaGreatDoorAb
set_option linter.unusedSimpArgs false
set_option linter.unnecessarySimpa false
set_option linter.unusedVariables false
open List renaming append_assoc->Ja,prefix_append->Eh,prefix_refl->Ei,length_take->K5,drop_eq_getElem_cons->J9,getD->Ko,getElem?_eq_getElem->JH,length_map->Jo,getLastD_eq_getLast?->Bu,getLast?_append->Ej,getLast?_cons_cons->El,getLast?_singleton->Em,cons_append->Kh,nil_append->Je,getD_cons_zero->VJ,getD_cons_succ->Kn,map_eq_nil_iff->VD,getElem_mem->VA,getElem?_map->VE,length_nil->JN,eq_nil_of_length_eq_zero->Kg,length_append->Jc,map_cons->Ke,map_nil->Vj,set_cons_zero->VZ,set_cons_succ->Kj,mem_singleton->VM,foldl_cons->Es,length_cons->KY,length_singleton->JA,filterMap_cons->VB,filterMap_nil->Et,getElem?_cons_zero->Kz,getElem?_cons_succ->KN,map_append->Vr,mem_append->JR,drop_eq_nil_of_le->Eu,length_pos_iff->Bc,range->KQ,length_range->Ev,mem_cons_of_mem->Jg,mem_cons_self->Jf,mem_map_of_mem->Bp,append_nil->Jz,all_eq_true->JC,mem_range->JD,length_dropLast->Ex,dropLast_subset->Ey,getLast?_eq_some_getLast->Ez,getLast_mem->EA,length_drop->K6,length_eq_zero_iff->EB,sum_cons->ED,mem_cons->KX,flatten_nil->EE,flatten_cons->Vu,map_map->EF,map_congr_left->EG,map->EH,drop_zero->Vm,drop_length->J8,dropWhile_sublist->EJ,mem_reverse->Eg,mem_map->JP,sum_append->EK,contains_iff_mem->J6,any_eq_false->EL,length_flatten->EM,length->EN,mem_flatten->ES
open Nat renaming mul_one->V5,le_trans->Vd,le_of_ble_eq_true->VF,zero_add->Jq,zero_mul->K8,add_zero->K7,zero_le->Jr,le_refl->KM,mod_lt->Km,le_of_lt->Bz,le_of_eq->EO
open Option renaming some_or->En,getD_some->Eo
open Go.AM.AHeap renaming set_none->VU,ne_some->VW,set_same->Vg,set_set->VX,set_ne->Vf
open Go.AM.Sub renaming none->VV,refl->Vh,trans->Ba,set->Vi,set_both->EI
open Go.AM.Slots renaming put->VG,get->VH,keep->VI
open Go.AM.AVal renaming cells->VY
open Go.AM.Sep renaming lay->BL,unfold->Ep,nest->Er,fold->BF,emp->BU
open Go.AM.Awp renaming forget->Bq
open Int renaming toNat_zero->Bg,tmod->Ed,tmod_eq_emod_of_nonneg->Ee,natCast_emod->Ef,toNat_natCast->VN,le_refl->EC,tdiv_eq_ediv_of_nonneg->EP,natCast_ediv->EQ
open Bool renaming and_eq_true->Ky,or_eq_true->JF,not_eq_true'->Ji,and_eq_false_iff->VO,or_eq_false_iff->VL,not_eq_false'->VK,and_true->J4,true_and->VP,or_assoc->Ew,not_false->Bd,not_true->Be,eq_false_iff->ER
open Go.AM.IsL renaming own->Bh
open UInt8 renaming le_iff_toNat_le->BR
open Go.Stm.StC renaming phrases->BZ,bodies->Ea
open Go.Stm.ParseR renaming one->ET
namespace Go.Stm
open Go.Col (Str)
open Go.Tok
theorem qoF(forms:List Str)(b:BuC)(y:YC):b.text<+:(XD forms b y).text:=by
 have:(XD forms b y).text=b.text++[32]++(Wy (forms.getD (y.form.toNat%forms.length) []) y.short true++Zd y.ops):=by
  unfold XD;simp only;split<;>rfl
 rw[this,Ja];exact Eh _ _
theorem qbF(forms:List Str):∀(l:List YC) (b:BuC),b.text<+:(l.foldl (XD forms) b).text
 |[],b=>Ei _
 |y::l,b=>(qoF forms b y).trans (qbF forms l _)
theorem qiy{α:Type}{l:List α}{n i:Nat}{d:α}(hi:i<l.length)(hn:i<n):(l.take n).drop i=l.getD i d::(l.take n).drop (i+1):=by
 have h:i<(l.take n).length:=by rw[K5];omega
 rw[J9 h,List.getElem_take,Ko,JH hi];rfl
end Go.Stm
namespace Go.Proofs.YtgiadjbiimkbiaaGreatDoor
open Go.AM
open Go.Proofs
open Go.Col (Str FaultC okF)
open Go.Tok (TokC)
open Go.Stm
open Go.RowKit (Below)
set_option maxRecDepth 100000
def yC(q:YC×AVal):List AVal:=[.int .u8 q.1.form.toNat,q.2, .int .u8 q.1.short.toNat]
def zC(q:ZC×AVal×AVal):List AVal:=[.int .u8 q.1.1.toNat,q.2.1,q.2.2, .int .u8 q.1.2.2.2.toNat]
def xC(q:XC×AVal×AVal):List AVal:=[.int .u8 q.1.verb.toNat,q.2.1,q.2.2, .bool q.1.cut]
def YsV(wz:World)(h:AHeap)(v:AVal)(l:List YC):Prop:=∃qs:List (YC×AVal),l=qs.map (·.1)/\IsL wz h 3 v (qs.map yC)/\∀q∈qs,IsL wz h 1 q.2 (q.1.ops.map u8C)
def ZsV(wz:World)(S:AVal->List XC->Prop)(h:AHeap)(v:AVal)(l:List ZC):Prop:=∃qs:List (ZC×AVal×AVal),l=qs.map (·.1)/\IsL wz h 4 v (qs.map zC)/\∀q∈qs,IsL wz h 1 q.2.1 (q.1.2.1.map u8C)/\S q.2.2 q.1.2.2.1
def XsV(wz:World):Nat->AHeap->AVal->List XC->Prop
 |0,h,v,l=>l=[]/\IsL wz h 4 v []
 |d+1,h,v,l=>∃qs:List (XC×AVal×AVal),l=qs.map (·.1)/\IsL wz h 4 v (qs.map xC)/\∀q∈qs,YsV wz h q.2.1 q.1.p/\ZsV wz (XsV wz d h) h q.2.2 q.1.b
theorem YsV.mono{wz:World}{h h':AHeap}{v:AVal}{l:List YC}(hp:YsV wz h v l)(hs:AM.Sub h h'):YsV wz h' v l:=by
 obtain⟨qs,e,a,b⟩:=hp;exact⟨qs,e,a.mono hs,fun q hq=>(b q hq).mono hs⟩
theorem ZsV.mono{wz:World}{h h':AHeap}{S S':AVal->List XC->Prop}{v:AVal}{l:List ZC}(hp:ZsV wz S h v l)(hs:AM.Sub h h')(hS:∀v l,S v l->S' v l):ZsV wz S' h' v l:=by
 obtain⟨qs,e,a,b⟩:=hp;exact⟨qs,e,a.mono hs,fun q hq=>⟨(b q hq).1.mono hs,hS _ _ (b q hq).2⟩⟩
theorem XsV.mono{wz:World}{h h':AHeap}(hs:AM.Sub h h'):∀{d:Nat} {v:AVal} {l:List XC},XsV wz d h v l->XsV wz d h' v l
 |0,_,_,hp=>⟨hp.1,hp.2.mono hs⟩
 |d+1,_,_,⟨qs,e,a,b⟩=>⟨qs,e,a.mono hs,fun q hq=>⟨(b q hq).1.mono hs,(b q hq).2.mono hs fun _ _=>XsV.mono hs⟩⟩
theorem YsV.shape{wz:World}{h:AHeap}{v:AVal}{l:List YC}(hp:YsV wz h v l):v.live=true/\v.scal=true/\v.cells=[v]:=by obtain⟨_,_,a,_⟩:=hp;exact⟨a.live,a.scal,a.cells⟩
theorem ZsV.shape{wz:World}{h:AHeap}{S:AVal->List XC->Prop}{v:AVal}{l:List ZC}(hp:ZsV wz S h v l):v.live=true/\v.scal=true/\v.cells=[v]:=by obtain⟨_,_,a,_⟩:=hp;exact⟨a.live,a.scal,a.cells⟩
def qsp:YC×AVal:=(noY, .nilSlice)
theorem y_at{wz:World}{h:AHeap}{lc:AM.Loc}{o n:Nat}{c:Cap}{qs:List (YC×AVal)}(ht:IsL wz h 3 (.slice lc o n c) (qs.map yC)){i:Nat}(hi:i<qs.length):
 rd wz h lc (o+i*3)= .int .u8 (qs.getD i qsp).1.form.toNat/\rd wz h lc (o+i*3+1)=(qs.getD i qsp).2/\rd wz h lc (o+i*3+2)= .int .u8 (qs.getD i qsp).1.short.toNat:=by
 have he:=ht.elem (i:=i) (by rw[Jo];exact hi);rw[getD_map qsp hi]at he;simp only[Qd,yC,List.cons.injEq,and_true]at he;exact he
def qeF(l:List Str):Prop:=l.length<=1000/\∀f∈l,f.length<=500/\asciiB f=true
theorem frm_at{wz:World}{h:AHeap}{lc:AM.Loc}{o n:Nat}{c:Cap}{l:List Str}(hv:IsL wz h 1 (.slice lc o n c) (l.map strC)){i:Nat}(hi:i<l.length):rd wz h lc (o+i)= .str (l.getD i []):=by
 have:=hv.at0 (i:=i) (by rw[Jo];exact hi) (by decide);rw[V5]at this;rw[this,getD_map ([]:Str) hi];rfl
structure StH where
 f:Str
 H:AHeap
structure PhG where
 i:Nat
 b:BuC
 pv:AVal
 pp:AHeap
 tp:AHeap
 E:AHeap
 H:AHeap
structure BuS(wz:World)(d:Nat)(B:AHeap)(kb:Nat)(b:BuC)(pv bv:AVal)(pp tp bp E:AHeap)(H:AHeap):Prop where
 sep:AM.Sep [B,one kb (buB b.text b.cur pv bv),pp,tp,bp,E] H
 cur:CurS wz d b.cur pv bv pp tp bp E
def qoh(pp:AHeap):Prop:=∀k b,pp k=some b->isG (b.cells.getLastD .dead)=true
theorem qgS{kh:Nat}{F:List AVal}{w tv:AVal}(h:isG tv=true):qoh (one kh ⟨F++[w,tv],0⟩):=fun k b hk=>by
 obtain⟨rfl,rfl⟩:=qiY hk;simp only[Bu,Ej,El,Em,En,Eo];exact h
theorem lastG_of{kh:Nat}{F:List AVal}{w tv:AVal}(h:qoh (one kh ⟨F++[w,tv],0⟩)):isG tv=true:=by
 have:=h kh _ (one_at kh _);simp only[Bu,Ej,El,Em,En,Eo]at this;exact this
theorem qdf(ps:List PhrC)(w:Str)(ts l:List TokC):qaB (ps++[⟨w,ts⟩]) l=ps++[⟨w,ts++l⟩]:=by simp[qaB]
theorem lawToks_16(s:Str)(h:s.length<=16):(Xg s).length<=17:=by rw[qdI];exact Vd (fields_few s) (by omega)
set_option maxHeartbeats 16000000 in
theorem qsR(wz:World)(hm:MaxL wz)(ha:Asp wz)(B H₀:AHeap)(kb:Nat)(x:XC)(xp xb fv:AVal)(forms:List Str)(text verb:Str)
 (hS:AM.Sep [B,one kb (buB text ⟨verb,0,0,[],[]⟩ .nilSlice .nilSlice)] H₀) (hY:YsV wz B xp x.p) (hxl:xb.live=true) (hxs:xb.scal=true) (hxc:xb.cells=[xb]) (hF:IsL wz B 1 fv (forms.map strC)) (hFo:qeF forms) (hPl:x.p.length<=1000000)
 (hT:(Za x ⟨text,⟨verb,0,0,[],[]⟩⟩ forms).text.length<=1000000000):
 ACall Tryz.prog wz 53 [.agg [.int .u8 x.verb.toNat,xp,xb, .bool x.cut], .ptr (.own kb) 0,fv] H₀ (fun _ h'=>∃pv pp tp E,BuS wz 0 B kb (Za x ⟨text,⟨verb,0,0,[],[]⟩⟩ forms) pv .nilSlice pp tp emp E h'):=by
 obtain⟨hyl,hys,hyc⟩:=hY.shape;have hfl:=hF.live;have nf:∀H:AHeap,Zh Tryz.prog H 22 fv=⟨True, .int .i64 forms.length⟩:=fun H=>by have:=hF.len Tryz.underlying22 H;rwa [Jo]at this
 obtain⟨qs,hqe,hqL,hqo⟩:=id hY;have hpl:x.p.length=qs.length:=by rw[hqe,Jo]
 have ny:∀H:AHeap,Zh Tryz.prog H 28 xp=⟨True, .int .i64 qs.length⟩:=fun H=>by have:=hqL.len Tryz.underlying28 H;rwa [Jo]at this
 have hs_H₀:AM.Sub B H₀:=hS.in_ (i:=0) rfl;have eb_b:H₀ kb=some _:=hS.at_ (i:=1) rfl;refine Ql (n:=136) (rs:=[]) Tryz.func53 rfl rfl rfl rfl (VF rfl) ?_;simp only[Qm];refine awp_rseq [1,2,3] (by rfl) fun K hK=>?_;refine Ue (by rfl) (by rfl) (by rfl) fun k0q0 hk0q0=>?_;have hn_0q0:H₀ k0q0=none:=by first|assumption|(simp only[VU]at hk0q0;simp only[hk0q0])
 have hf_0q0:B k0q0=none:=VV hs_H₀ hn_0q0;have ne_0q0_b:k0q0≠kb:=VW hn_0q0 eb_b;skip;simp+decide only[qa,ev,putD,VG,VH,VI,Ka,VY,Jq,Nat.reduceAdd];apply hK;clear hK K;obtain⟨X,hX⟩:∃X:Blk,X=⟨[.int .u8 x.verb.toNat,xp,xb, .bool x.cut],0⟩:=⟨_,rfl⟩
 have hS1:=BL hS hk0q0 X;simp only[Kh,Je]at hS1;obtain⟨H1,hH1⟩:∃H1,H1=H₀.set k0q0 X:=⟨_,rfl⟩
 rw[<-hH1]at hS1;refine Bq (h':=H1) (by rw[hH1,hX];exact Vh _) ?_;have hs_H1:AM.Sub B H1:=hS1.in_ (i:=0) rfl;have eb_b:=hS1.at_ (i:=1) rfl;have eb_0q0:H1 k0q0=some ⟨[.int .u8 x.verb.toNat,xp,xb, .bool x.cut],0⟩:=by rw[<-hX];exact hS1.at_ (i:=2) rfl
 have ne_0q0_b:k0q0≠kb:=hS1.ne (i:=2) (j:=1) rfl rfl (by decide);refine awp_rseq [1,2,3,6] (by rfl) fun K hK=>?_;simp+decide only[qa,ev,qK,qG,putD,VG,VI,Ka,Kb,↓qf,qc];apply hK;clear hK K;refine qF ?_;refine awp_rseq [1,2,3,6,14] (by rfl) fun K hK=>?_;simp+decide only[qa,ev,qK,qG,putD,VG,VH,VI,Ka,Kb,↓qC,qi,qfj,↓qI,Qc,qj qpF,↓QB,Qo,↓qo,qh,qE,cond_false,qz,Yk,Qj wz eb_0q0,VJ,Kn,Jq,hyl,ny];apply hK;clear hK K;refine Yy [1,2,3,6] (fun g:StH=>[(1, .ptr (.own kb) 0),(2,fv),(3, .ptr (.own k0q0) 0),(6, .str g.f)]) (fun g:StH=>g.H) (fun g:StH=>g.f=(if x.p=[]then[]else Zd (x.p.getD 0 noY).ops)/\AM.Sep [B,one kb (buB text ⟨verb,0,0,[],[]⟩ .nilSlice .nilSlice),one k0q0 X] g.H) ?_ ?_
 ·refine qM (b:=_) rfl (fun hb1=>?_) (fun hb1=>?_)
  ·try simp only[decide_eq_true_eq]at hb1
   have hq0:0<qs.length:=by omega
   obtain⟨lc,o,cc,hpe⟩:=hqL.open (fun e=>by rw[VD]at e;rw[e]at hq0;cases hq0);have hq2:=hqL.mono hs_H1;rw[hpe]at hq2;obtain⟨e0,e1,e2⟩:=y_at hq2 hq0;simp only[K8,K7]at e0 e1 e2;obtain⟨q,hqq⟩:∃q,q=qs.getD 0 qsp:=⟨_,rfl⟩
   rw[<-hqq]at e0 e1 e2;have hqm:q∈qs:=by rw[hqq,Ko,JH hq0];exact VA hq0
   have hqv:=hqo q hqm;have hql:=hqv.live;have hx0:x.p.getD 0 noY=q.1:=by rw[hqe,hqq,Ko,Ko,VE,JH hq0];rfl
   have hne:x.p≠[]:=fun e=>by rw[e,JN]at hpl;omega
   refine Xa [1,2,3,6] (by rfl) ?_;simp+decide only[ev,qK,qG,putD,VG,VH,Ka,Kb,↓qC,qi,qfj,↓qI,Qc,qj qpF,↓qZ,qA Tryz.underlying28 sz34,fa34_1,qj ag32,Qj wz eb_0q0,VJ,Kn,Jq,Xv,hpe,e1,hql,Bg,K8,K7,Jo];repeat (with_reducible refine And.intro ?_ ?_;· first|trivial|omega|(intro hg;simp only[Ky,JF,Ji,VO,VL,VK,decide_eq_true_eq,decide_eq_false_iff_not,Xd]at hg;omega))
   refine qY (by rfl) (by rfl) (qju wz _ q.2 q.1.ops (hqv.mono hs_H1)) fun x3q5 h3q5 hx3q5=>?_;obtain⟨rfl,hs3⟩:=hx3q5;simp+decide only[qa,ev,putD,VG,VH,VI,Ka,Kb,↓qf,qc];try simp only[qR]
   first
   |exact⟨⟨Zd q.1.ops,_⟩,rfl,Vh _,by rw[if_neg hne,hx0],hS1.forget hs3⟩
   |exact⟨⟨[],H1⟩,rfl,Vh _,by rw[if_pos hne],hS1⟩
  ·try simp only[decide_eq_false_iff_not]at hb1
   have hne:x.p=[]:=Kg (by omega);refine qV ?_;try simp only[qR]
   first
   |exact⟨⟨Zd q.1.ops,_⟩,rfl,Vh _,by rw[if_neg hne,hx0],hS1.forget hs3⟩
   |exact⟨⟨[],H1⟩,rfl,Vh _,by rw[if_pos hne],hS1⟩
 ·rintro⟨f0,H2⟩ ⟨hf0,hS2⟩
  simp only at hf0 hS2|-
  have hs_H2:AM.Sub B H2:=hS2.in_ (i:=0) rfl;have eb_b:=hS2.at_ (i:=1) rfl;have eb_0q0:H2 k0q0=some ⟨[.int .u8 x.verb.toNat,xp,xb, .bool x.cut],0⟩:=by rw[<-hX];exact hS2.at_ (i:=2) rfl
  have hfE:ZZ x verb=if verb=IFv/\f0=[]then[32,65]else f0:=by rw[hf0];rfl
  refine qF ?_;skip;refine awp_rseq [1,2,3,6,30] (by rfl) fun K hK=>?_;simp+decide only[qa,ev,qK,qG,putD,VG,VH,VI,Ka,Kb,↓qg,qd,↓Qv,Qk,QE,↓qC,qi,YR,WY,↓qI,Qc,qj ag9,↓qo,qh,Qy,cond_false,Qp,XP,↓Xc,agP,Qs,qW,qP,qH,implies_true,↓QJ,XL,XM,↓QC,Qr,Qe,QT,QH,Qj wz eb_b,VJ,Kn,Jq,Nat.reduceAdd,Qw];apply hK;clear hK K;refine Yy [1,2,3,6] (fun z:Str=>[(1, .ptr (.own kb) 0),(2,fv),(3, .ptr (.own k0q0) 0),(6, .str z)]) (fun z:Str=>H2) (fun z:Str=>z=ZZ x verb) ?_ ?_
  ·refine qM (b:=_) rfl (fun hb2=>?_) (fun hb2=>?_)
   ·try simp only[decide_eq_true_eq,Ky]at hb2
    have hz:ZZ x verb=[32,65]:=by rw[hfE];exact if_pos hb2
    refine Xa [1,2,3,6] (by rfl) ?_;simp+decide only[qa,ev,qK,qG,putD,VG,VI,Ka,Kb,↓qf,qc];try simp only[qR]
    first
    |exact⟨[32,65],rfl,Vh _,hz.symm⟩
    |exact⟨f0,rfl,Vh _,hz.symm⟩
   ·try simp only[decide_eq_false_iff_not,VO]at hb2
    have hz:ZZ x verb=f0:=by rw[hfE];exact if_neg (fun e=>by rcases hb2 with q|q;exact q e.1;exact q e.2)
    refine qV ?_;try simp only[qR]
    first
    |exact⟨[32,65],rfl,Vh _,hz.symm⟩
    |exact⟨f0,rfl,Vh _,hz.symm⟩
  ·rintro z rfl
   obtain⟨f1,hf1⟩:∃f1,f1=ZZ x verb:=⟨_,rfl⟩
   rw[<-hf1];have hfw:=wordsE_ok (x.p.getD 0 noY).ops;have hf16:f1.length<=16/\asciiB f1=true:=by
    rw[hf1,hfE];split
    ·exact⟨by decide,by decide⟩
    ·rw[hf0]
     split
     ·exact⟨by decide,rfl⟩
     ·exact hfw
   obtain⟨b2,hb2E⟩:∃b2:BuC,b2=⟨text++[32]++f1,⟨verb,0,0,[⟨[],Xg f1⟩],[]⟩⟩:=⟨_,rfl⟩
   have hfin:Za x ⟨text,⟨verb,0,0,[],[]⟩⟩ forms=if forms=[]then b2 else((x.p.take 5).drop 1).foldl (XD forms) b2:=by
    unfold Za WC;simp only;rw[hb2E,hf1]
   obtain⟨R,hRR⟩:∃R,R=Za x ⟨text,⟨verb,0,0,[],[]⟩⟩ forms:=⟨_,rfl⟩
   rw[<-hRR]at hfin hT|-
   have hpre:b2.text<+:R.text:=by
    rw[hfin];split
    ·exact Ei _
    ·exact qbF _ _ _
   have ht2:=hpre.length_le;have htx:text.length<=1000000000:=by rw[hb2E]at ht2;simp only[Jc]at ht2;omega
   have hS2a:AM.Sep ([B,one k0q0 X]++[one kb (buB text ⟨verb,0,0,[],[]⟩ .nilSlice .nilSlice)]) H2:=hS2.perm (.cons _ (List.Perm.swap _ _ _));have hS2b:=hS2a.fold;refine awp_rseq [1,2,3,6] (by rfl) fun K hK=>?_;simp+decide only[ev,putD,VG,VH,Ka,Kb,↓qg,qd];refine qY (by rfl) (by rfl) (qmn wz (WB [B,one k0q0 X]) H2 kb text f1 ⟨verb,0,0,[],[]⟩ .nilSlice .nilSlice hS2b htx (by omega)) fun x6q2 h6q2 hx6q2=>?_;have hS6:=Ep hS2a.left hx6q2;simp only[Kh,Je]at hS6;have hs_h6:AM.Sub B h6q2:=hS6.in_ (i:=0) rfl;simp+decide only[qa,putD,VG,VI,Ka];apply hK;clear hK K;have eb_b:=hS6.at_ (i:=2) rfl;have eb_0q0:h6q2 k0q0=some ⟨[.int .u8 x.verb.toNat,xp,xb, .bool x.cut],0⟩:=by rw[<-hX];exact hS6.at_ (i:=1) rfl
   refine awp_rseq [1,2,3] (by rfl) fun K hK=>?_;simp+decide only[ev,putD,VG,VH,Ka,Kb,↓qg,qd];refine qY (by rfl) (by rfl) (qct wz hm ha _ f1 (by omega) hf16.2) fun x7q2 h7q2 hx7q2=>?_;obtain⟨p7,hrow7,hG7,hS7⟩:=hx7q2;have hS8:=Er hS6 hS7;simp only[Kh,Je]at hS8;have hs_7:AM.Sub h6q2 h7q2:=hS7.in_ (i:=0) rfl;have hsc:Sc x7q2=True:=by rcases hrow7 with⟨rfl,_⟩|⟨_,_,rfl,_⟩<;>exact eq_true trivial
   have hl7:=hrow7.live;have hs_h7q2:Sub B h7q2:=Ba zqC hs_7;have hr_h7q2:Sub h6q2 h7q2:=Ba zqC hs_7;have eb_b:=hs_7 kb _ zqA;have eb_0q0:=hs_7 k0q0 _ zqA;simp+decide only[ev,qK,qG,putD,VG,VH,Ka,Kb,↓Zo,↓Xz,qrC,evP,Ke,Vj,hsc];refine Qh (cs:=[.str [],x7q2]) (by kernel_rfl) fun k7q4 hk7q4=>?_;have hn_7q4:h7q2 k7q4=none:=by first|assumption|(simp only[VU]at hk7q4;simp only[hk7q4])
   have hf_7q4:B k7q4=none:=VV hs_h7q2 hn_7q4;have ne_7q4_b:k7q4≠kb:=VW hn_7q4 eb_b;have ne_7q4_0q0:k7q4≠k0q0:=VW hn_7q4 eb_0q0;simp+decide only[ev,putD,VG,VH,Ka,Kb,↓Qv,Qk,QE,↓qC,qi,YR,Zz,Jq,Nat.reduceAdd];refine Qi (by rfl) (by rfl) zqA sz79 (by rfl) (by rfl) zqD (Jr _) (by first|rfl|(simp+decide only[ev,putD,VG,VH,Ka,VY,QU,J4,VP,hys,hxs,qbV,YT,qrb])) ?_;simp only[VY];simp+decide only[qa,ev,putD,VH,VI,Ka,setAt,VZ,Kj];apply hK;clear hK K;have hS9:=BL hS8 hn_7q4 (⟨[.str [],x7q2],0⟩:Blk);simp only[Kh,Je]at hS9;have hS10:=hS9.put (i:=2) rfl (buB b2.text b2.cur (.slice (.own k7q4) 0 1 (.exact 1)) .nilSlice);simp only[Kj,VZ]at hS10;have hS11:AM.Sep [B,one k0q0 X,one kb (buB b2.text b2.cur (.slice (.own k7q4) 0 1 (.exact 1)) .nilSlice),one k7q4 ⟨[.str [],x7q2],0⟩,p7,emp] _:=hS10.emp.pick [0,1,2,4,3,5] (by decide) (by simp);obtain⟨H8,hH8⟩:∃H8,H8=(h7q2.set k7q4 ⟨[.str [],x7q2],0⟩).set kb (buB b2.text b2.cur (.slice (.own k7q4) 0 1 (.exact 1)) .nilSlice):=⟨_,rfl⟩
   rw[<-hH8]at hS11;refine Bq (h':=H8) (by rw[hH8,hb2E];exact Vh _) ?_;have hcur:CurS wz 0 b2.cur (.slice (.own k7q4) 0 1 (.exact 1)) .nilSlice (one k7q4 ⟨[.str [],x7q2],0⟩) p7 emp emp:=by
    rw[hb2E];refine⟨⟨[],[],Xg f1,x7q2,rfl,GrowV.new rfl (.inl rfl) (xs:=[[.str [],x7q2]]) (fun y hy=>by rw[VM.1 hy];rfl) ?_ rfl,hrow7,fun q hq=>by cases hq⟩,⟨[],rfl, .nil,fun b hb=>by cases hb⟩⟩;show AM.allLive [.str [],x7q2]=true
    rw[AM.allLive,AM.allLive,hl7];rfl
   have hs_H8:AM.Sub B H8:=hS11.in_ (i:=0) rfl;have eb_b:=hS11.at_ (i:=2) rfl;have eb_0q0:H8 k0q0=some ⟨[.int .u8 x.verb.toNat,xp,xb, .bool x.cut],0⟩:=by rw[<-hX];exact hS11.at_ (i:=1) rfl
   have hfew:∀p∈b2.cur.phrases,p.toks.length<=17:=fun p hp=>by
    rw[hb2E]at hp;rw[VM.1 hp];exact lawToks_16 f1 hf16.1
   refine awp_rseq [1,2,3,7] (by rfl) fun K hK=>?_;simp+decide only[qa,ev,qK,qG,putD,VG,VI,Ka,Kb,↓qf,qc];apply hK;clear hK K;refine Qb ?_;refine QN [1,2,3,7] (fun g:PhG=>[(1, .ptr (.own kb) 0),(2,fv),(3, .ptr (.own k0q0) 0),(7, .int .i64 g.i)]) (fun g:PhG=>g.H) (fun g:PhG=>AM.Sep [B,one k0q0 X,one kb (buB g.b.text g.b.cur g.pv .nilSlice),g.pp,g.tp,g.E] g.H/\CurS wz 0 g.b.cur g.pv .nilSlice g.pp g.tp emp g.E/\qoh g.pp/\1<=g.i/\g.i<=5/\(g.i<=qs.length\/g.i=1)/\R=(if forms=[]then g.b else((x.p.take 5).drop g.i).foldl (XD forms) g.b)/\g.b.cur.phrases.length<=g.i/\(∀p∈g.b.cur.phrases,p.toks.length<=17*g.i)) (fun g:PhG=>5-g.i) ⟨1,b2,_,_,p7,emp,H8⟩ (by rfl) (Vh _) ⟨hS11,hcur,qgS (F:=[]) hG7,KM _,(by simp only;omega), .inr rfl,hfin,by rw[hb2E];exact KM _,hfew⟩ ?_;rintro⟨i,b,pv,pp,tp,E,H⟩ ⟨hS,hc,hLG,hi1,hi5,hiq,hg,hph,hpt⟩;simp only at hS hc hLG hi1 hi5 hiq hg hph hpt|-
   have hs_H:AM.Sub B H:=hS.in_ (i:=0) rfl;have eb_b:=hS.at_ (i:=2) rfl;have eb_0q0:H k0q0=some ⟨[.int .u8 x.verb.toNat,xp,xb, .bool x.cut],0⟩:=by rw[<-hX];exact hS.at_ (i:=1) rfl
   refine qF ?_;refine awp_rseq [1,2,3,7,55] (by rfl) fun K hK=>?_;simp+decide only[qa,ev,qK,qG,putD,VG,VH,VI,Ka,Kb,↓qg,qd,↓qC,qi,qfj,↓qI,Qc,qj qpF,↓QB,Qo,↓qo,qh,qN,cond_false,qz,Xt,↓Xc,agP,Qs,qW,qP,qH,implies_true,↓QJ,qE,XL,XM,↓QC,Qr,Qe,QT,QH,↓qal,qcW,qcY,Yk,Qj wz eb_0q0,VJ,Kn,Jq,hyl,ny,nf];apply hK;clear hK K;refine qM (b:=_) rfl (fun hb3=>?_) (fun hb3=>?_)
   ·try simp only[decide_eq_true_eq,Ky]at hb3
    obtain⟨⟨hiq1,hi51⟩,hf1⟩:(i<qs.length/\i<5)/\0<forms.length:=by omega
    have hfne:forms≠[]:=fun e=>by rw[e]at hf1;cases hf1
    rw[if_neg hfne,qiy (d:=noY) (by omega) hi51,Es]at hg;obtain⟨lc,o,cc,hpe⟩:=hqL.open (fun e=>by rw[VD]at e;rw[e]at hiq1;cases hiq1);obtain⟨lf,of,cf,hfe⟩:=hF.open (fun e=>hfne (VD.1 e));have hq2:=hqL.mono hs_H;rw[hpe]at hq2;obtain⟨e0,e1,e2⟩:=y_at hq2 hiq1;obtain⟨q,hqq⟩:∃q,q=qs.getD i qsp:=⟨_,rfl⟩
    rw[<-hqq]at e0 e1 e2;have hqm:q∈qs:=by rw[hqq,Ko,JH hiq1];exact VA hiq1
    have hqv:=hqo q hqm;have hql:=hqv.live;have hxi:x.p.getD i noY=q.1:=by rw[hqe,hqq,Ko,Ko,VE,JH hiq1];rfl
    rw[hxi]at hg;obtain⟨m,hm8⟩:∃m,m=q.1.form.toNat%forms.length:=⟨_,rfl⟩
    have hml:m<forms.length:=by rw[hm8];exact Km _ hf1
    have hF2:=hF.mono hs_H;rw[hfe]at hF2;have ef:=frm_at hF2 hml;obtain⟨form,hform⟩:∃form,form=forms.getD m []:=⟨_,rfl⟩
    rw[<-hform]at ef;have hfo:=hFo.2 form (by rw[hform,Ko,JH hml];exact VA hml);have hfn:=hFo.1;have hb8:q.1.form.toNat<256:=q.1.form.toNat_lt;have hwb:IntKind.i64.wrap (q.1.form.toNat:Int)=(q.1.form.toNat:Int):=wrap_i64 (by omega) (by omega);have hrem:Ed (q.1.form.toNat:Int) (forms.length:Int)=(m:Int):=by rw[Ee (by omega),hm8];exact(Ef _ _).symm
    have hwm:IntKind.i64.wrap (m:Int)=(m:Int):=wrap_i64 (by omega) (by omega);have hib:(0<=(i:Int)/\(i:Int)<(qs.length:Int))=True:=eq_true ⟨by omega,by omega⟩;have hmb:(0<=(m:Int)/\(m:Int)<(forms.length:Int))=True:=eq_true ⟨by omega,by omega⟩;have hwi:IntKind.i64.wrap ((i:Int)+1)=((i+1:Nat):Int):=by rw[wrap_i64 (by omega) (by omega)];omega
    obtain⟨ow,how⟩:∃ow,ow=Zd q.1.ops:=⟨_,rfl⟩
    obtain⟨how16,howa⟩:=wordsE_ok q.1.ops;rw[<-how]at how16 howa;obtain⟨sw,hsw⟩:∃sw,sw=Wy form q.1.short true:=⟨_,rfl⟩
    have hstep:XD forms b q.1=if Yr form=[]then{text:=b.text++[32]++(sw++ow),cur:={b.cur with phrases:=qaB b.cur.phrases (Xg ow)}}else{text:=b.text++[32]++(sw++ow),cur:={b.cur with phrases:=b.cur.phrases++[⟨Yr form,Xg ow⟩]}}:=by
     unfold XD WC;simp only;rw[<-hm8,<-hform,<-hsw,<-how]
    have hpreB:b.text++[32]++(sw++ow)<+:R.text:=by
     have h1:(XD forms b q.1).text=b.text++[32]++(sw++ow):=by rw[hstep];split<;>rfl
     rw[<-h1,hg];exact qbF _ _ _
    have hlenB:=hpreB.length_le;simp only[Jc,KY,JN]at hlenB;refine qV ?_;change Awp _ _ _ _ _ _ _;refine qF ?_;refine Qb ?_;refine awp_rseq [1,2,3,7,8] (by rfl) fun K hK=>?_;simp+decide only[ev,putD,VG,VH,Ka,Kb,↓qg,qd,↓qC,qi,qfj,↓qI,Qc,qj qpF,↓qZ,qA Tryz.underlying28 sz34,fa34_0,qj ag5,↓qdd _ _ _ (qmb Tryz.underlying5 Tryz.underlying3),qaC,qej Tryz.underlying5 Tryz.underlying3,↓QB,Qo,Xr Tryz.underlying22,↓qo,qh,qN,cond_false,qz,qgN,ne_eq,Qj wz eb_0q0,VJ,Kn,Jq,QL,Xv,hpe,hfe,e0,hib,hwb,hrem,VN,K7,Jq,Jo];try simp+decide only[qa,ev,putD,VG,VH,VI,Ka,Kb,Qc,qA Tryz.underlying22 sz9,↓qI,qj ag9,↓qf,qc,Qw,ef,hmb,VN,V5]
    repeat (with_reducible refine And.intro ?_ ?_;· first|trivial|omega|(intro hg;simp only[Ky,JF,Ji,VO,VL,VK,decide_eq_true_eq,decide_eq_false_iff_not,Xd]at hg;omega))
    apply hK;clear hK K;refine awp_rseq [1,2,3,7,8,9] (by rfl) fun K hK=>?_;simp+decide only[ev,putD,VG,VH,Ka,Kb,↓qC,qi,qfj,↓qI,Qc,qj qpF,↓qg,qd,↓qZ,qA Tryz.underlying28 sz34,fa34_1,qj ag32,Qj wz eb_0q0,VJ,Kn,Jq,Xv,hpe,e1,hql,hib,VN,Jo];refine qY (by rfl) (by rfl) (qju wz _ q.2 q.1.ops (hqv.mono hs_H)) fun x12q6 h12q6 hx12q6=>?_;obtain⟨rfl,hs12⟩:=hx12q6;rw[<-how];have hs_h12q6:Sub B h12q6:=Ba zqC hs12;have hr_h12q6:Sub H h12q6:=Ba zqC hs12;have eb_b:=hs12 kb _ zqA;have eb_0q0:=hs12 k0q0 _ zqA;simp+decide only[qa,ev,putD,VG,VH,VI,Ka,Kb,↓qf,qc];apply hK;clear hK K;have hS12:=hS.forget hs12;have hq12:=hqL.mono (hs_H.trans hs12);rw[hpe]at hq12;have e2':=(y_at hq12 hiq1).2.2;rw[<-hqq]at e2';refine awp_rseq [1,2,3,7,8,9] (by rfl) fun K hK=>?_;simp+decide only[ev,putD,VG,VH,Ka,Kb,↓qg,qd,↓qC,qi,qfj,↓qI,Qc,qj qpF,↓qZ,qA Tryz.underlying28 sz34,fa34_2,qj ag5,Qj wz eb_0q0,VJ,Kn,Jq,QL,Xv,hpe,e2',hib,VN,Jo];refine qY (by rfl) (by rfl) (qmm wz ha _ form q.1.short true hfo.1 hfo.2) fun x13q8 h13q8 hx13q8=>?_;obtain⟨rfl,hs13⟩:=hx13q8;rw[<-hsw];have hS13:AM.Sep ([B,one k0q0 X,pp,tp,E]++[one kb (buB b.text b.cur pv .nilSlice)]) h13q8:=(hS12.forget hs13).pick [0,1,3,4,5,2] (by decide) (by simp);have hS13b:=hS13.fold;have hs_h13q8:Sub B h13q8:=Ba zqC hs13;have hr_h13q8:Sub h12q6 h13q8:=Ba zqC hs13;have eb_b:=hs13 kb _ zqA;have eb_0q0:=hs13 k0q0 _ zqA;simp+decide only[ev,putD,VG,VH,Ka,Kb,↓qg,qd,↓qo,qh,qN,cond_false,Qp,YK];repeat (with_reducible refine And.intro ?_ ?_;· first|trivial|omega|(intro hg;simp only[Ky,JF,Ji,VO,VL,VK,decide_eq_true_eq,decide_eq_false_iff_not,Xd]at hg;omega))
    refine qY (by rfl) (by rfl) (qmn wz (WB [B,one k0q0 X,pp,tp,E]) h13q8 kb b.text (sw++ow) b.cur pv .nilSlice hS13b (by omega) (by rw[Jc];omega)) fun x13q11 h13q11 hx13q11=>?_;have hS14:=Ep hS13.left hx13q11;simp only[Kh,Je]at hS14;have hs_14:AM.Sub B h13q11:=hS14.in_ (i:=0) rfl;simp+decide only[qa,putD,VG,VI,Ka];apply hK;clear hK K;refine qF ?_;have eb_b:=hS14.at_ (i:=5) rfl;have eb_0q0:h13q11 k0q0=some ⟨[.int .u8 x.verb.toNat,xp,xb, .bool x.cut],0⟩:=by rw[<-hX];exact hS14.at_ (i:=1) rfl
    refine awp_rseq [1,2,3,7,8,9,92] (by rfl) fun K hK=>?_;simp+decide only[ev,putD,VG,VH,Ka,Kb,↓qg,qd];refine qY (by rfl) (by rfl) (qjy wz ha _ form hfo.1 hfo.2) fun x14q1 h14q1 hx14q1=>?_;obtain⟨rfl,hs14⟩:=hx14q1;have hS15:=hS14.forget hs14;obtain⟨b',hb'E⟩:∃b',b'=XD forms b q.1:=⟨_,rfl⟩
    rw[<-hb'E]at hstep hg;have hgN:R=if forms=[]then b' else((x.p.take 5).drop (i+1)).foldl (XD forms) b':=by rw[if_neg hfne];exact hg
    have how17:=lawToks_16 ow how16;have hs_h14q1:Sub B h14q1:=Ba zqC hs14;have hr_h14q1:Sub h13q11 h14q1:=Ba zqC hs14;have eb_b:=hs14 kb _ zqA;have eb_0q0:=hs14 k0q0 _ zqA;simp+decide only[qa,ev,qK,qG,putD,VG,VH,VI,Ka,Kb,↓qo,qh,Qy,cond_false,Qp,XP];apply hK;clear hK K;refine qM (b:=_) rfl (fun hb4=>?_) (fun hb4=>?_)
    ·try simp only[decide_eq_true_eq]at hb4
     rw[if_pos hb4]at hstep;obtain⟨qp,w,ts,tv,hph',hg',hgt,hqE⟩:=hc.ph;obtain⟨kh,ch,rfl,hch,rfl⟩:=qep hg';have hGt:=lastG_of hLG;have eb_h:h14q1 kh=some _:=hS15.at_ (i:=2) rfl;have ne_h_b:kh≠kb:=hS15.ne (i:=2) (j:=5) rfl rfl (by decide);have nph:∀H:AHeap,Zh Tryz.prog H 79 (.slice (.own kh) 0 (qp.length+1) ch)=⟨True, .int .i64 ((qp.length+1:Nat):Int)⟩:=fun H=>by
      have:=(hg'.isL (wz:=wz) (Vh _)).len Tryz.underlying79 H
      rwa [Jc,Jo,JA]at this
     rw[hph',Jc,Jo,JA]at hph;have hwn:IntKind.i64.wrap (((qp.length+1:Nat):Int)-1)=(qp.length:Int):=by rw[wrap_i64 (by omega) (by omega)];omega
     have htl:=hgt.live;have htsl:ts.length<=17*i:=hpt ⟨w,ts⟩ (by rw[hph'];simp);refine awp_rseq [1,2,3,7,9,10] (by rfl) fun K hK=>?_;simp+decide only[qa,ev,qK,qG,putD,VG,VH,VI,Ka,Kb,↓qg,qd,↓Qv,Qk,QE,↓qC,qi,YR,Zz,↓qI,Qc,qj qba,↓QB,Qo,Xr Tryz.underlying79,↓qo,qh,qE,cond_false,qz,Wl,↓qf,qc,Qj wz eb_b,VJ,Kn,Jq,Nat.reduceAdd,Xv,hwn];apply hK;clear hK K;obtain⟨cs,hcs⟩:∃cs,cs=(qp.map phC).flatten++[AVal.str w,tv]:=⟨_,rfl⟩
     have hcg:cs.getD (qp.length*2+1) .dead=tv:=by rw[hcs];exact qnn qp w tv
     have hcl:cs.length=qp.length*2+2:=by rw[hcs,Jc,qcL];rfl
     rw[<-hcs]at eb_h hS15;have etv:rd wz h14q1 (.own kh) (qp.length*2+1)=tv:=by rw[Qj wz eb_h];exact hcg
     have eb_b:=hS15.at_ (i:=5) rfl;obtain⟨KB,hKB⟩:∃KB,KB=one kb (buB (b.text++[32]++(sw++ow)) b.cur (.slice (.own kh) 0 (qp.length+1) ch) .nilSlice):=⟨_,rfl⟩
     have eone:KB kb=some (buB (b.text++[32]++(sw++ow)) b.cur (.slice (.own kh) 0 (qp.length+1) ch) .nilSlice):=by rw[hKB];exact one_at _ _
     have hKS:AM.Sub KB h14q1:=by rw[hKB];exact hS15.in_ (i:=5) rfl
     refine qfr [0,1,2,3,4,5,6,7,8,9,10,11,12,13,14,15,16,17,18,19,20] [2,2,2,2,2,2,0,0,0,0,0,0,0,0,0,0,0,0,0,0,0] [none,none,none,none,none,none,none,none,none,none,none,none,none,none,none,none,none,some 16,some 17,some 18,some 19] 17 (KB) [1,2,3,7] mixed (by kernel_rfl) (by rfl) (hKS) fun K hK=>?_;simp only[Yi,VB,Et,Kz,KN];simp+decide only[qa,ev,putD,VG,VH,Ka,Kb,Uy,Uw,WO,Ub,Wv,↓qg,qd,↓Qv,Qk,QE,↓qC,qi,YR,Zz,↓qI,Qc,qj qba,↓qZ,qA Tryz.underlying79 qab,UT,qj qam,Qj wz eb_b,VJ,Kn,Jq,Nat.reduceAdd,Xv,Qj wz eone,htl,etv,VN,Jq];repeat (with_reducible refine And.intro ?_ ?_;· first|trivial|omega|(intro hg;simp only[Ky,JF,Ji,VO,VL,VK,decide_eq_true_eq,decide_eq_false_iff_not,Xd]at hg;omega))
     refine qY (by rfl) (by rfl) (qct wz hm ha _ ow (by omega) howa) fun x16q16 h16q16 hx16q16=>?_;obtain⟨p16,hrow16,hG16,hSp16⟩:=hx16q16;have hS16:=Er hS15 hSp16;have hs_16:AM.Sub h14q1 h16q16:=hSp16.in_ (i:=0) rfl;simp only[Kh,Je]at hS16;rw[qa];refine And.intro (by first|exact Vh _|assumption|exact Vi (by assumption)) ?_;simp+decide only[putD,VG,if_false];refine Zj (es:=5) (v:=tv) (p:=tp) (xs:=ts.map Xy) (ys:=(Xg ow).map Xy) (i:=3) (by rfl) (by rfl) Tryz.underlying39 Tryz.underlying39 (fun k e=>by cases e) Yl qfo qdo (by rfl) (by decide) (by rfl) hgt hGt rfl hS16 (by rfl) (hrow16.isL (hS16.in_ (i:=6) rfl)) (qbd _) (by simp only[Jo];omega) (by simp only[Jo];omega) fun tv2 tp2 h17 hg2 hG2 hS2=>?_;rw[<-Vr]at hg2;have hKS17:AM.Sub KB h17:=by rw[hKB];exact hS2.in_ (i:=5) rfl
     rw[qa];refine And.intro (by first|exact Vh _|assumption|exact Vi (by assumption)) ?_;simp+decide only[qa,putD,VG,VH,Ka,Kb,Qc,qA Tryz.underlying79 qab,UT,Jq,VN,Jq];repeat (with_reducible refine And.intro ?_ ?_;· first|trivial|omega|(intro hg;simp only[Ky,JF,Ji,VO,VL,VK,decide_eq_true_eq,decide_eq_false_iff_not,Xd]at hg;omega))
     refine Qi (v:=tv2) (by rfl) (by rfl) (hS2.at_ (i:=2) rfl) sz39 hg2.live (by rw[hg2.cells];rfl) (by simp only;omega) (Jr _) (by rw[hg2.cells];simp[QU,hg2.scal]) ?_;have ecs:(⟨setAt cs (qp.length*2+1) tv2.cells,0⟩:Blk)=⟨(qp.map phC).flatten++[AVal.str w,tv2],0⟩:=by rw[hg2.cells,hcs,qiI _ _ _ _ _ (qcL qp)]
     have hS17':=hS2.put (i:=2) rfl ⟨(qp.map phC).flatten++[AVal.str w,tv2],0⟩;rw[<-ecs]at hS17';simp only[VZ,Kj]at hS17';have hKS18:AM.Sub KB (h17.set kh ⟨setAt cs (qp.length*2+1) tv2.cells,0⟩):=by rw[hKB];exact hS17'.in_ (i:=5) rfl
     have hc17:CurS wz 0 b'.cur (.slice (.own kh) 0 (qp.length+1) ch) .nilSlice (one kh ⟨(qp.map phC).flatten++[AVal.str w,tv2],0⟩) tp2 emp E:=by
      rw[hstep];exact⟨⟨qp,w,ts++Xg ow,tv2,by simp only;rw[hph',qdf],qhG hg' rfl hch hg2.live,hg2,hqE⟩,hc.bd⟩
     have hS17:AM.Sep [B,one k0q0 X,one kb (buB b'.text b'.cur (.slice (.own kh) 0 (qp.length+1) ch) .nilSlice),one kh ⟨(qp.map phC).flatten++[AVal.str w,tv2],0⟩,tp2,E] (h17.set kh ⟨setAt cs (qp.length*2+1) tv2.cells,0⟩):=by
      have:=hS17'.pick [0,1,5,2,3,4] (by decide) (by simp);rw[hstep,<-ecs];exact this
     have hL17:qoh (one kh ⟨(qp.map phC).flatten++[AVal.str w,tv2],0⟩):=qgS hG2;have hph17:b'.cur.phrases.length<=i+1:=by
      rw[hstep];simp only;rw[hph',qdf,Jc,Jo,JA];omega
     have hpt17:∀p∈b'.cur.phrases,p.toks.length<=17*(i+1):=fun p hp=>by
      rw[hstep]at hp;simp only at hp;rw[hph',qdf]at hp;rcases JR.1 hp with hp|hp
      ·exact Vd (hpt p (by rw[hph'];exact List.mem_append_left _ hp)) (by omega)
      ·rw[VM.1 hp]
       simp only[Jc];omega
     rw[qa];refine And.intro (by first|exact Vh _|assumption|exact Vi (by assumption)) ?_;simp+decide only[putD,VI,Ka,VY];skip;apply hK;clear hK K;refine QI ?_;change Awp _ _ _ _ _ _ _;refine Xa [1,2,3,7] (by rfl) ?_;simp+decide only[qa,ev,qK,qG,putD,VG,VH,VI,Ka,Kb,↓qg,qd,↓qo,qh,qE,cond_false,qz,QW,↓qf,qc,hwi];try simp only[qR]
     exact⟨⟨i+1,b',_,_,_,_,_⟩,by first|rfl|(rw[hfe];simp only[Jo];rfl),Vh _,⟨hS17,hc17,hL17,by simp only;omega,by simp only;omega, .inl (by simp only;omega),hgN,hph17,hpt17⟩,by simp only;omega⟩
    ·try simp only[decide_eq_false_iff_not]at hb4
     rw[if_neg hb4]at hstep;obtain⟨cw,hcw⟩:∃cw,cw=Yr form:=⟨_,rfl⟩
     rw[<-hcw]at hstep;obtain⟨qp,w,ts,tv,hph',hg',hgt,hqE⟩:=hc.ph;have hpvl:=hg'.live;rw[hph',Jc,Jo,JA]at hph;refine qV ?_;change Awp _ _ _ _ _ _ _;refine qak [0,1,2,3,4,5,6,8,7,9,10,11,12,13,14,15,16] [2,0,0,0,0,0,0,0,0,0,0,0,0,0,0,0,0] [none,none,none,none,none,none,none,none,none,some 8,some 9,some 10,some 11,some 12,some 13,some 14,some 15] 12 (B) mixed (by kernel_rfl) (by rfl) (hS15.in_ (i:=0) rfl) ?_;simp only[Yi,VB,Et,Kz,KN];simp+decide only[qa,ev,putD,VG,VH,Ka,Kb,Uy,Uw,WO,Ub,Wv,↓qg,qd,↓Qv,Qk,QE,↓qC,qi,YR,Zz,↓qI,Qc,qj qba,Qj wz eb_b,VJ,Kn,Jq,Nat.reduceAdd,hpvl];refine qY (by rfl) (by rfl) (qjy wz ha _ form hfo.1 hfo.2) fun x17q7 h17q7 hx17q7=>?_;obtain⟨rfl,hs17⟩:=hx17q7;rw[<-hcw];have hs_h17q7:Sub B h17q7:=Ba zqC hs17;have hr_h17q7:Sub h14q1 h17q7:=Ba zqC hs17;have eb_b:=hs17 kb _ zqA;have eb_0q0:=hs17 k0q0 _ zqA;rw[qa];refine And.intro (by first|exact Vh _|assumption|exact Vi (by assumption)) ?_;simp+decide only[putD,VG,Ka];refine qY (by rfl) (by rfl) (qct wz hm ha _ ow (by omega) howa) fun x17q9 h17q9 hx17q9=>?_;obtain⟨p17,hrow17,hG17,hSp17⟩:=hx17q9;have hS16:=Er (hS15.forget hs17) hSp17;have hs_17:AM.Sub h17q7 h17q9:=hSp17.in_ (i:=0) rfl;simp only[Kh,Je]at hS16;have hsc17:Sc x17q9=True:=by rcases hrow17 with⟨rfl,_⟩|⟨_,_,rfl,_⟩<;>exact eq_true trivial
     have hl17:=hrow17.live;have hs_h17q9:Sub B h17q9:=Ba zqC hs_17;have hr_h17q9:Sub h17q7 h17q9:=Ba zqC hs_17;have eb_b:=hs_17 kb _ zqA;have eb_0q0:=hs_17 k0q0 _ zqA;rw[qa];refine And.intro (by first|exact Vh _|assumption|exact Vi (by assumption)) ?_;simp+decide only[qa,ev,qK,qG,putD,VG,VH,Ka,Kb,Wv,↓Zo,↓Xz,qsV,evP,Ke,Vj,hsc17];refine Qh (cs:=[.str cw,x17q9]) (by kernel_rfl) fun k17q11 hk17q11=>?_;have hn_17q11:h17q9 k17q11=none:=by first|assumption|(simp only[VU]at hk17q11;simp only[hk17q11])
     have hf_17q11:B k17q11=none:=VV hs_h17q9 hn_17q11;have ne_17q11_b:k17q11≠kb:=VW hn_17q11 eb_b;have ne_17q11_0q0:k17q11≠k0q0:=VW hn_17q11 eb_0q0;rw[qa];refine And.intro (by first|exact Vh _|assumption|exact Vi (by assumption)) ?_;simp+decide only[putD,VG,if_false];refine ZM (es:=2) (v:=pv) (p:=pp) (xs:=qp.map phC++[[.str w,tv]]) (ys:=[[.str cw,x17q9]]) (i:=2) (by rfl) (by rfl) Tryz.underlying79 Tryz.underlying79 (fun k e=>by cases e) qab by84 qrJ (by rfl) (by decide) (by rfl) hg' rfl (hS16.forget (Vi hn_17q11)) (by rfl) (Bh (Vg _ _ _) (fun x hx=>by rw[VM.1 hx];rfl) (by rfl) (by show allLive [AVal.str cw,x17q9]=true;rw[allLive,allLive,hl17];rfl) (.exact 1) (KM _)) (by show QU [AVal.str cw,x17q9]=true;rw[QU,QU,hrow17.scal];rfl) (by simp) (by simp only[Jc,Jo,JA];omega) (by simp only[Jc,Jo,JA];omega) fun pv2 pp2 h18 hg2 _ hS2=>?_;have hs_18:AM.Sub B h18:=hS2.in_ (i:=0) rfl;rw[qa];refine And.intro (by first|exact Vh _|assumption|exact Vi (by assumption)) ?_;simp+decide only[putD,VG,VH,Ka,Kb,QE,YR,Zz,Jq,Nat.reduceAdd];repeat (with_reducible refine And.intro ?_ ?_;· first|trivial|omega|(intro hg;simp only[Ky,JF,Ji,VO,VL,VK,decide_eq_true_eq,decide_eq_false_iff_not,Xd]at hg;omega))
     refine Qi (v:=pv2) (by rfl) (by rfl) (hS2.at_ (i:=5) rfl) sz79 hg2.live (by rw[hg2.cells];rfl) (by simp only[KY,JN];omega) (Jr _) (by rw[hg2.cells];simp[QU,hg2.scal]) ?_;simp only[hg2.cells,setAt,VZ,Kj];have hS18:=hS2.put (i:=5) rfl (buB b'.text b'.cur pv2 .nilSlice);simp only[VZ,Kj]at hS18;have hheap:h18.set kb (buB b'.text b'.cur pv2 .nilSlice)=h18.set kb ⟨[.str (b.text++[32]++(sw++ow)), .str b.cur.verb, .int .i64 b.cur.line, .int .i64 b.cur.col,pv2, .nilSlice],0⟩:=by rw[hstep]
     rw[hheap]at hS18;have hs_19:AM.Sub B (h18.set kb ⟨[.str (b.text++[32]++(sw++ow)), .str b.cur.verb, .int .i64 b.cur.line, .int .i64 b.cur.col,pv2, .nilSlice],0⟩):=hS18.in_ (i:=0) rfl;have hS17:=(BF (ps:=[tp,E]) (hS18.pick [3,4,0,1,5,2,6] (by decide) (by simp))).pick [1,2,3,4,5,0] (by decide) (by simp);have hsu:=XI (ps:=[tp,E]) (hS18.pick [3,4] (by decide) (by simp)).2;simp only[Ke,Vj,Kn,VJ]at hS17;obtain⟨kh,ch,hpv2,hch,hpp2⟩:∃kh ch,pv2= .slice (.own kh) 0 (qp.length+1+1) ch/\(ch= .exact (qp.length+1+1)\/ch= .grow 2)/\pp2=one kh ⟨((qp++[((⟨w,ts⟩:PhrC),tv)]).map phC).flatten++[.str cw,x17q9],0⟩:=by
      have:=qep (qs:=qp++[((⟨w,ts⟩:PhrC),tv)]) (w:=cw) (tv:=x17q9) (by rw[Vr];exact hg2)
      rwa [Jc,JA]at this
     have hL17:qoh pp2:=by rw[hpp2];exact qgS hG17
     have hc17:CurS wz 0 b'.cur pv2 .nilSlice pp2 p17 emp (WB [tp,E]):=by
      rw[hstep];refine⟨⟨qp++[(⟨w,ts⟩,tv)],cw,Xg ow,x17q9,by simp only;rw[hph',Vr];rfl,by rw[Vr];exact hg2,hrow17,fun q hq=>?_⟩,?_⟩
      ·rcases JR.1 hq with hq|hq
       ·exact(hqE q hq).mono (hsu E (by simp))
       ·rw[VM.1 hq]
        exact hgt.isL (hsu tp (by simp))
      ·obtain⟨bs,b1,b2,b3⟩:=hc.bd
       exact⟨bs,b1,b2,fun b hb=>⟨(b3 b hb).1.mono (hsu E (by simp)),(b3 b hb).2.mono (hsu E (by simp))⟩⟩
     have hph17:b'.cur.phrases.length<=i+1:=by
      rw[hstep];simp only;rw[hph',Jc,Jc,Jo,JA,JA];omega
     have hpt17:∀p∈b'.cur.phrases,p.toks.length<=17*(i+1):=fun p hp=>by
      rw[hstep]at hp;simp only at hp;rcases JR.1 hp with hp|hp
      ·exact Vd (hpt p hp) (by omega)
      ·rw[VM.1 hp]
       simp only;omega
     rw[qa];refine And.intro (by first|exact Vh _|assumption|exact Vi (by assumption)) ?_;simp+decide only[putD];skip;change Awp _ _ _ _ _ _ _;refine Xa [1,2,3,7] (by rfl) ?_;simp+decide only[qa,ev,qK,qG,putD,VG,VH,VI,Ka,Kb,↓qg,qd,↓qo,qh,qE,cond_false,qz,QW,↓qf,qc,hwi];try simp only[qR]
     exact⟨⟨i+1,b',_,_,_,_,_⟩,by first|rfl|(rw[hfe];simp only[Jo];rfl),Vh _,⟨hS17,hc17,hL17,by simp only;omega,by simp only;omega, .inl (by simp only;omega),hgN,hph17,hpt17⟩,by simp only;omega⟩
   ·try simp only[decide_eq_false_iff_not,VO]at hb3
    have hRb:R=b:=by
     rw[hg];split
     ·rfl
     ·have:(x.p.take 5).drop i=[]:=by
       apply Eu;rw[K5];rename_i hfn
       have:=Bc.2 hfn;omega
      rw[this];rfl
    refine QI ?_;try simp only[qiw,qeO]
    refine Us (qO) ?_;exact⟨_,Vh _,pv,pp,tp,E,by rw[hRb];exact hS.emp.pick [0,2,3,4,6,5] (by decide) (by simp),by rw[hRb];exact hc⟩
def qbA:Nat->List XC->Prop
 |0,_=>True
 |d+1,l=>l.length<=1000000/\∀x∈l,x.p.length<=1000000/\x.b.length<=1000000/\∀z∈x.b,qbA d z.2.2.1
theorem qoy:∀d,qbA d []
 |0=>trivial
 |_+1=>⟨by decide,fun _ h=>by cases h⟩
def qdg(wz:World)(f d depth:Nat):Prop:=∀(h:AHeap) (v:AVal) (l:List XC) (last:Bool),XsV wz d h v l->qbA f l->(Xo f l depth last).1.length<=1000000000->
 ACall Tryz.prog wz 15 [v, .int .i64 depth, .bool last] h (fun r h'=>∃sv p,r= .tuple [.str (Xo f l depth last).1,sv]/\StsV wz f p sv (Xo f l depth last).2/\AM.Sep [h,p] h')
theorem XsV.shape{wz:World}{h:AHeap}:∀{d:Nat} {v:AVal} {l:List XC},XsV wz d h v l->v.live=true/\v.scal=true/\v.cells=[v]
 |0,_,_,hp=>⟨hp.2.live,hp.2.scal,hp.2.cells⟩
 |_+1,_,_,⟨_,_,a,_⟩=>⟨a.live,a.scal,a.cells⟩
theorem qou{wz:World}{h:AHeap}:∀{d:Nat} {v:AVal} {l:List StC},StsV wz d h v l->v.live=true/\v.scal=true/\v.cells=[v]
 |0,_,_,hp=>⟨hp.2.live,hp.2.scal,hp.2.cells⟩
 |_+1,_,_,⟨_,_,a,_⟩=>⟨a.live,a.scal,a.cells⟩
theorem qoB{wz:World}{h:AHeap}{es:Nat}{v:AVal}{xs:List (List AVal)}(hv:IsL wz h es v xs):Sc v=True:=by cases hv<;>exact eq_true trivial
theorem stsV_Sc{wz:World}{h:AHeap}:∀{d:Nat} {v:AVal} {l:List StC},StsV wz d h v l->Sc v=True
 |0,_,_,hp=>qoB hp.2
 |_+1,_,_,⟨_,_,a,_⟩=>qoB a
set_option maxHeartbeats 16000000 in
theorem c_body(wz:World)(hm:MaxL wz)(ha:Asp wz)(B H₀:AHeap)(kb f dx depth:Nat)(b:BuC)(pv bv lv:AVal)(pp tp bp E:AHeap)(l:List XC)(name ops:Str)(last:Bool)
 (hBu:BuS wz f B kb b pv bv pp tp bp E H₀) (hl:XsV wz dx B lv l) (hsm:qbA f l) (hb:qdg wz f dx (depth+1)) (hd:depth<=10) (ho:ops.length<=16) (hoa:asciiB ops=true) (hn:b.cur.bodies.length<=10) (hT:(qcv (Xo f) b name ops l depth last).text.length<=1000000000):
 ACall Tryz.prog wz 85 [.ptr (.own kb) 0, .str name, .str ops,lv, .int .i64 depth, .bool last] H₀ (fun _ h'=>∃bv' bp' E',BuS wz f B kb (qcv (Xo f) b name ops l depth last) pv bv' pp tp bp' E' h'):=by
 obtain⟨hS,hc⟩:=hBu;have hs_H₀:AM.Sub B H₀:=hS.in_ (i:=0) rfl;have eb_b:H₀ kb=some _:=hS.at_ (i:=1) rfl;obtain⟨hlvl,hlvs,hlvc⟩:=hl.shape;have hwd:IntKind.i64.wrap ((depth:Int)+1)=((depth+1:Nat):Int):=by rw[wrap_i64 (by omega) (by omega)];omega
 obtain⟨T,hTT⟩:∃T,T=Xo f l (depth+1) last:=⟨_,rfl⟩
 have hbE:qcv (Xo f) b name ops l depth last={text:=b.text++ops++T.1,cur:={b.cur with bodies:=b.cur.bodies++[(name,Xg ops,T.2)]}}:=by rw[hTT];rfl
 rw[hbE]at hT|-
 simp only[Jc]at hT;refine Ql (n:=49) (rs:=[]) Tryz.func85 rfl rfl rfl rfl (VF rfl) ?_;simp only[Qm];refine awp_rseq [0,1,2,12,13] (by rfl) fun K hK=>?_;simp+decide only[ev,qK,qG,putD,VG,VH,Ka,Kb,↓qg,qd,↓qo,qh,qE,cond_false,qz,QW,Jq,Nat.reduceAdd,hwd];refine qY (by rfl) (by rfl) (hb _ lv l last (hl.mono hs_H₀) hsm (by rw[<-hTT];omega)) fun x0q4 h0q4 hx0q4=>?_;rw[<-hTT]at hx0q4;obtain⟨sv,p0,rfl,hsv,hS0⟩:=hx0q4;have hs_0:AM.Sub H₀ h0q4:=hS0.in_ (i:=0) rfl;have hS1:=Er hS hS0;simp only[Kh,Je]at hS1;obtain⟨hsvl,hsvs,hsvc⟩:=qou hsv;have hs_h0q4:Sub B h0q4:=Ba zqC hs_0;have hr_h0q4:Sub H₀ h0q4:=Ba zqC hs_0;have eb_b:=hs_0 kb _ zqA;simp+decide only[qa,ev,putD,VG,VH,VI,Ka,Kb,↓qg,qd,↓Xu,Xk,XA,KY,JN,VJ,Kn,↓qf,qc,VJ,Kn,Jq,Nat.reduceAdd];apply hK;clear hK K;refine awp_rseq [0,1,2,13] (by rfl) fun K hK=>?_;simp+decide only[ev,putD,VG,VH,Ka,Kb,↓qg,qd,↓Qv,Qk,QE,↓qC,qi,qlY,↓qI,Qc,qj ag9,↓qo,qh,qN,cond_false,Qp,YK,Qj wz eb_b,VJ,Jq,Qw,Jc];repeat (with_reducible refine And.intro ?_ ?_;· first|trivial|omega|(intro hg;simp only[Ky,JF,Ji,VO,VL,VK,decide_eq_true_eq,decide_eq_false_iff_not,Xd]at hg;omega))
 refine Qi (by rfl) (by rfl) zqA sz9 (by rfl) (by rfl) zqD (Jr _) (by rfl) ?_;simp only[VY];simp+decide only[qa,ev,putD,VH,VI,Ka,setAt,VZ];apply hK;clear hK K;have hS2:=hS1.put (i:=1) rfl (buB (b.text++ops++T.1) b.cur pv bv);simp only[Kj,VZ]at hS2;obtain⟨H2,hH2⟩:∃H2,H2=h0q4.set kb (buB (b.text++ops++T.1) b.cur pv bv):=⟨_,rfl⟩
 rw[<-hH2]at hS2;refine Bq (h':=H2) (by rw[hH2];exact Vh _) ?_;have hs_H2:AM.Sub B H2:=hS2.in_ (i:=0) rfl;have eb_b:=hS2.at_ (i:=1) rfl;obtain⟨hbl,hbs,hbc,nb⟩:=hc.bv_len;obtain⟨bs,hbse,hbg,hbq⟩:=hc.bd;have hbn:bs.length<=10:=by rw[hbse,Jo]at hn;exact hn
 refine qak [0,1,2,3,4,5,6,7,9,8,10,11,12,13,14,15,16] [2,0,0,0,0,0,0,0,0,0,0,0,0,0,0,0,0] [none,none,none,none,none,none,none,none,none,none,some 9,some 10,some 11,some 12,some 13,some 14,some 15] 12 (B) mixed (by kernel_rfl) (by rfl) (hs_H2) ?_;simp only[Yi,VB,Et,Kz,KN];simp+decide only[qa,ev,putD,VG,VH,Ka,Kb,Uy,Uw,WO,Ub,Wv,↓qg,qd,↓Qv,Qk,QE,↓qC,qi,YR,Yf,↓qI,Qc,qj qbB,Qj wz eb_b,VJ,Kn,Jq,Nat.reduceAdd,hbl];refine qY (by rfl) (by rfl) (qct wz hm ha _ ops (by omega) hoa) fun x2q8 h2q8 hx2q8=>?_;obtain⟨p2,hrow2,hG2,hSp2⟩:=hx2q8;have hS3:=Er hS2 hSp2;simp only[Kh,Je]at hS3;have hs_2:AM.Sub H2 h2q8:=hSp2.in_ (i:=0) rfl;have hsc2:Sc x2q8=True:=by rcases hrow2 with⟨rfl,_⟩|⟨_,_,rfl,_⟩<;>exact eq_true trivial
 have hl2:=hrow2.live;have hs_h2q8:Sub B h2q8:=Ba zqC hs_2;have hr_h2q8:Sub H2 h2q8:=Ba zqC hs_2;have eb_b:=hs_2 kb _ zqA;rw[qa];refine And.intro (by first|exact Vh _|assumption|exact Vi (by assumption)) ?_;simp+decide only[qa,ev,qK,qG,putD,VG,VH,Ka,Kb,Wv,↓Zo,↓Xz,qnV,evP,Ke,Vj,hsc2,stsV_Sc hsv];refine Qh (cs:=[.str name,x2q8,sv]) (by kernel_rfl) fun k2q11 hk2q11=>?_;have hn_2q11:h2q8 k2q11=none:=by first|assumption|(simp only[VU]at hk2q11;simp only[hk2q11])
 have hf_2q11:B k2q11=none:=VV hs_h2q8 hn_2q11;have ne_2q11_b:k2q11≠kb:=VW hn_2q11 eb_b;rw[qa];refine And.intro (by first|exact Vh _|assumption|exact Vi (by assumption)) ?_;simp+decide only[putD,VG,if_false];refine ZM (es:=3) (v:=bv) (p:=bp) (xs:=bs.map bdC) (ys:=[[.str name,x2q8,sv]]) (i:=4) (by rfl) (by rfl) Tryz.underlying80 Tryz.underlying80 (fun k e=>by cases e) UE by86 qjZ (by rfl) (by decide) (by rfl) hbg rfl (hS3.forget (Vi hn_2q11)) (by rfl) (Bh (Vg _ _ _) (fun x hx=>by rw[VM.1 hx];rfl) (by rfl) (by show(true && (x2q8.live && (sv.live && true)))=true;rw[hl2,hsvl];rfl) (.exact 1) (KM _)) (by show(true && (x2q8.scal && (sv.scal && true)))=true;rw[hrow2.scal,hsvs];rfl) (by simp) (by simp only[Jo,JA];omega) (by simp only[Jo,JA];omega) fun bv2 bp2 h3 hg2 _ hS4=>?_;have hs_3:AM.Sub B h3:=hS4.in_ (i:=0) rfl;rw[qa];refine And.intro (by first|exact Vh _|assumption|exact Vi (by assumption)) ?_;simp+decide only[putD,VG,VH,Ka,Kb,QE,YR,Yf,Jq,Nat.reduceAdd];repeat (with_reducible refine And.intro ?_ ?_;· first|trivial|omega|(intro hg;simp only[Ky,JF,Ji,VO,VL,VK,decide_eq_true_eq,decide_eq_false_iff_not,Xd]at hg;omega))
 refine Qi (v:=bv2) (by rfl) (by rfl) (hS4.at_ (i:=1) rfl) sz80 hg2.live (by rw[hg2.cells];rfl) (by simp only[KY,JN];omega) (Jr _) (by rw[hg2.cells];simp[QU,hg2.scal]) ?_;simp only[hg2.cells,setAt,VZ,Kj];have hS5:=hS4.put (i:=1) rfl (buB (b.text++ops++T.1) b.cur pv bv2);simp only[VZ,Kj]at hS5;have hs_4:=hS5.in_ (i:=0) (p:=B) rfl;rw[qa];refine And.intro (by first|exact Vh _|assumption|exact Vi (by assumption)) ?_;simp+decide only[putD];refine Us (qO) ?_;have hS6:=(BF (ps:=[E,p0,p2]) (hS5.pick [5,6,7,0,1,2,3,4] (by decide) (by simp))).pick [1,2,3,4,5,0] (by decide) (by simp);have hsu:=XI (ps:=[E,p0,p2]) (hS5.pick [5,6,7] (by decide) (by simp)).2;refine⟨_,Vh _,bv2,bp2,WB [E,p0,p2],hS6,?_,bs++[((name,Xg ops,T.2),x2q8,sv)],by simp only;rw[hbse,Vr];rfl,by rw[Vr];exact hg2,fun q hq=>?_⟩
 ·obtain⟨qs,w,ts,tv,a1,a2,a3,a4⟩:=hc.ph
  exact⟨qs,w,ts,tv,a1,a2,a3,fun q hq=>(a4 q hq).mono (hsu E (by simp))⟩
 ·rcases JR.1 hq with hq|hq
  ·exact⟨(hbq q hq).1.mono (hsu E (by simp)),(hbq q hq).2.mono (hsu E (by simp))⟩
  ·rw[VM.1 hq]
   exact⟨hrow2.isL (hsu p2 (by simp)),hsv.mono (hsu p0 (by simp))⟩
end Go.Proofs.YtgiadjbiimkbiaaGreatDoor
namespace Go.Stm
open Go.Col (Str)
open Go.Tok
open Go.Proofs.YtgiadjbiimkbiaaGreatDoor (asciiB)
theorem qiR(B:List XC->Nat->Bool->Str×List StC)(b:BuC)(name ops:Str)(l:List XC)(depth:Nat)(last:Bool):b.text<+:(qcv B b name ops l depth last).text:=by
 show b.text<+:b.text++ops++_
 rw[Ja];exact Eh _ _
theorem pre_step(B:List XC->Nat->Bool->Str×List StC)(x:XC)(forms:List Str)(depth:Nat)(last:Bool)(s:BuC×Str)(i:Nat):s.1.text<+:(Xw B x forms depth last s i).1.text:=by
 unfold Xw;simp only;split
 ·exact Ei _
 ·refine List.IsPrefix.trans ?_ (qiR B _ _ _ _ _ _)
  show s.1.text<+:s.1.text++[32]++_
  rw[Ja];exact Eh _ _
theorem qgI(B:List XC->Nat->Bool->Str×List StC)(x:XC)(forms:List Str)(depth:Nat)(last:Bool):∀(l:List Nat) (s:BuC×Str),s.1.text<+:(l.foldl (Xw B x forms depth last) s).1.text
 |[],s=>Ei _
 |i::l,s=>(pre_step B x forms depth last s i).trans (qgI B x forms depth last l _)
theorem qoC{N i:Nat}(hi:i<N):(KQ N).drop i=i::(KQ N).drop (i+1):=by
 have h:i<(KQ N).length:=by rw[Ev];exact hi
 rw[J9 h,List.getElem_range]
def bodN(x:XC)(verb:Str):Nat:=min 4 (max x.b.length (if qhB verb=true then 1 else 0))
theorem qms(B:List XC->Nat->Bool->Str×List StC)(x:XC)(b:BuC)(forms:List Str)(depth:Nat)(last:Bool)(h:b.cur.verb≠Uf):Zr B x b forms depth last=((KQ (bodN x b.cur.verb)).foldl (Xw B x forms depth last) (b,[])).1:=by
 unfold Zr bodN;simp only;rw[if_neg h]
theorem qhu(bits:UInt8)(all:Bool):∀(ws:List Str) (i:Nat) (out:Str),(∀w∈ws,w.length<=500)->(UH bits all i ws out).length<=out.length+501*ws.length
 |[],_,_,_=>by unfold UH;omega
 |w::ws,i,out,hw=>by
  unfold UH;refine Vd (qhu bits all ws _ _ fun w' h=>hw w' (Jg _ h)) ?_;have h1:=hw w (Jf ..);have h2:(Lib.trimS w qdC).length<=w.length:=Go.Proofs.YtgiadjbiimkbiaaGreatDoor.trimS_le w qdC;rw[KY];split
  ·omega
  ·simp only[Jc,KY,JN]
   omega
theorem qfc{form:Str}(hf:form.length<=500)(bits:UInt8)(all:Bool):(Wy form bits all).length<=251001:=by
 unfold Wy;refine Vd (qrT _) (Vd (qhu bits all _ _ _ fun w hw=>Vd (Go.Proofs.YtgiadjbiimkbiaaGreatDoor.fields_small w hw) hf) ?_);have:=Go.Proofs.YtgiadjbiimkbiaaGreatDoor.fields_few form;simp only[JN];omega
theorem qpl{form:Str}(hf:form.length<=500):(Yr form).length<=251001:=by
 unfold Yr;split
 ·decide
 ·split
  ·decide
  ·split
   ·decide
   ·exact qfc hf _ _
theorem qri(name:Str)(z:ZC):(qke name z).length<=16/\asciiB (qke name z)=true:=by
 unfold qke;split
 ·split
  ·exact⟨by decide,by decide⟩
  ·exact wordsE_ok _
 ·exact⟨by decide,rfl⟩
theorem qkv{form:Str}(hf:form.length<=500)(name:Str)(z:ZC):(qdu form name z).length<=251001:=by
 unfold qdu;split
 ·decide
 ·exact qfc hf _ _
end Go.Stm
namespace Go.Proofs.YtgiadjbiimkbiaaGreatDoor
open Go.AM
open Go.Proofs
open Go.Col (Str FaultC okF)
open Go.Tok (TokC)
open Go.Stm
open Go.RowKit (Below)
set_option maxRecDepth 100000
def qnj:ZC×AVal×AVal:=(noZ, .nilSlice, .nilSlice)
theorem z_at{wz:World}{h:AHeap}{lc:AM.Loc}{o n:Nat}{c:Cap}{qs:List (ZC×AVal×AVal)}(ht:IsL wz h 4 (.slice lc o n c) (qs.map zC)){i:Nat}(hi:i<qs.length):
 rd wz h lc (o+i*4)= .int .u8 (qs.getD i qnj).1.1.toNat/\rd wz h lc (o+i*4+1)=(qs.getD i qnj).2.1/\rd wz h lc (o+i*4+2)=(qs.getD i qnj).2.2/\rd wz h lc (o+i*4+3)= .int .u8 (qs.getD i qnj).1.2.2.2.toNat:=by
 have he:=ht.elem (i:=i) (by rw[Jo];exact hi);rw[getD_map qnj hi]at he;simp only[Qd,zC,List.cons.injEq,and_true]at he;exact he
theorem CurS.phs{wz:World}{d:Nat}{c:Cur}{pv bv:AVal}{pp tp bp E:AHeap}(hc:CurS wz d c pv bv pp tp bp E):
 ∃qs:List (PhrC×AVal),c.phrases=qs.map (·.1)/\qs≠[]/\∀h,AM.Sub pp h->AM.Sub tp h->AM.Sub E h->IsL wz h 2 pv (qs.map phC)/\∀q∈qs,IsL wz h 5 q.2 (q.1.toks.map Xy):=by
 obtain⟨qs,w,ts,tv,e,g,gt,hq⟩:=hc.ph;refine⟨qs++[((⟨w,ts⟩:PhrC),tv)],by rw[e,Vr];rfl,by simp,fun h h1 h2 h3=>⟨by rw[Vr];exact g.isL h1,fun q hm=>?_⟩⟩;rcases JR.1 hm with hm|hm
 ·exact(hq q hm).mono h3
 ·rw[VM.1 hm]
  exact gt.isL h2
theorem qib{wz:World}{h:AHeap}:∀{d:Nat},XsV wz d h .nilSlice []
 |0=>⟨rfl, .nil⟩
 |_+1=>⟨[],rfl, .nil,fun q hq=>by cases hq⟩
structure BdG where
 i:Nat
 b:BuC
 seen:Str
 bv:AVal
 bp:AHeap
 E:AHeap
 H:AHeap
structure ZG where
 z:ZC
 zo:AVal
 zl:AVal
set_option maxHeartbeats 16000000 in
theorem c_bodies(wz:World)(hm:MaxL wz)(ha:Asp wz)(B H₀:AHeap)(kb f dx depth:Nat)(x:XC)(b:BuC)(xp xb fv pv:AVal)(pp tp E₀:AHeap)(forms:List Str)(last:Bool)
 (hBu:BuS wz f B kb b pv .nilSlice pp tp emp E₀ H₀) (hb0:b.cur.bodies=[]) (hxl:xp.live=true) (hxs:xp.scal=true) (hxc:xp.cells=[xp]) (hZ:ZsV wz (XsV wz dx B) B xb x.b) (hsm:∀z∈x.b,qbA f z.2.2.1) (hF:IsL wz B 1 fv (forms.map strC)) (hFo:qeF forms)
 (hb:b.cur.verb=Uf\/qhB b.cur.verb=true\/forms≠[]->qdg wz f dx (depth+1)) (hd:depth<=10) (hBl:x.b.length<=1000000) (hpn:b.cur.phrases.length<=1000) (hpt:∀p∈b.cur.phrases,p.toks.length<=1000)
 (hT:(Zr (Xo f) x b forms depth last).text.length<=1000000000):
 ACall Tryz.prog wz 55 [.agg [.int .u8 x.verb.toNat,xp,xb, .bool x.cut], .ptr (.own kb) 0,fv, .int .i64 depth, .bool last] H₀ (fun _ h'=>∃bv' bp' E',BuS wz f B kb (Zr (Xo f) x b forms depth last) pv bv' pp tp bp' E' h'):=by
 obtain⟨hS,hc⟩:=hBu;have hsmG:∀i,qbA f (x.b.getD i noZ).2.2.1:=fun i=>by
  rw[Ko];cases hx:x.b[i]? with
  |none=>exact qoy f
  |some z=>exact hsm z (List.mem_of_getElem? hx)
 obtain⟨hzl,hzs,hzc⟩:=hZ.shape;have hfl:=hF.live;have nf:∀H:AHeap,Zh Tryz.prog H 22 fv=⟨True, .int .i64 forms.length⟩:=fun H=>by have:=hF.len Tryz.underlying22 H;rwa [Jo]at this
 obtain⟨qs,hqe,hqL,hqo⟩:=id hZ;have hpl:x.b.length=qs.length:=by rw[hqe,Jo]
 have nz:∀H:AHeap,Zh Tryz.prog H 29 xb=⟨True, .int .i64 qs.length⟩:=fun H=>by have:=hqL.len Tryz.underlying29 H;rwa [Jo]at this
 have hs_H₀:AM.Sub B H₀:=hS.in_ (i:=0) rfl;have eb_b:H₀ kb=some _:=hS.at_ (i:=1) rfl;obtain⟨pq,hpe,hpne,hpA⟩:=hc.phs;obtain⟨hpL,hpo⟩:=hpA _ (hS.in_ (i:=2) rfl) (hS.in_ (i:=3) rfl) (hS.in_ (i:=5) rfl);have hp0:0<pq.length:=Bc.2 hpne;obtain⟨lp,op,cp,hpve⟩:=UK hpL hp0;have hpL2:=hpL;rw[hpve]at hpL2;have e1:=(qbH hpL2 hp0).2;simp only[K8,K7]at e1;obtain⟨q0,hq0⟩:∃q0,q0=pq.getD 0 qbu:=⟨_,rfl⟩
 rw[<-hq0]at e1;have hq0m:q0∈pq:=by rw[hq0,Ko,JH hp0];exact VA hp0
 have hv0:=hpo q0 hq0m;have hv0l:=hv0.live;have n0:∀H:AHeap,Zh Tryz.prog H 39 q0.2=⟨True, .int .i64 q0.1.toks.length⟩:=fun H=>by have:=hv0.len Tryz.underlying39 H;rwa [Jo]at this
 have hft:firstT b.cur.phrases=q0.1.toks:=by
  unfold firstT;rw[hpe,hq0,Ko,Ko,VE,JH hp0];rfl
 have hfn:q0.1.toks.length<=1000:=by
  refine hpt q0.1 ?_;rw[hpe];exact Bp hq0m
 have hpvl:=hpL.live;have hpqn:pq.length<=1000:=by rw[hpe,Jo]at hpn;exact hpn
 refine Ql (n:=202) (rs:=[]) Tryz.func55 rfl rfl rfl rfl (VF rfl) ?_;simp only[Qm];refine awp_rseq [1,2,3,4,5] (by rfl) fun K hK=>?_;refine Ue (by rfl) (by rfl) (by rfl) fun k0q0 hk0q0=>?_;have hn_0q0:H₀ k0q0=none:=by first|assumption|(simp only[VU]at hk0q0;simp only[hk0q0])
 have hf_0q0:B k0q0=none:=VV hs_H₀ hn_0q0;have ne_0q0_b:k0q0≠kb:=VW hn_0q0 eb_b;skip;simp+decide only[qa,ev,putD,VG,VH,VI,Ka,VY,Jq,Nat.reduceAdd];apply hK;clear hK K;obtain⟨X,hX⟩:∃X:Blk,X=⟨[.int .u8 x.verb.toNat,xp,xb, .bool x.cut],0⟩:=⟨_,rfl⟩
 have hS1:=BL hS hk0q0 X;simp only[Kh,Je]at hS1;obtain⟨H1,hH1⟩:∃H1,H1=H₀.set k0q0 X:=⟨_,rfl⟩
 rw[<-hH1]at hS1;refine Bq (h':=H1) (by rw[hH1,hX];exact Vh _) ?_;have hs_1:AM.Sub H₀ H1:=by rw[hH1];exact Vi hk0q0
 have hs_H1:AM.Sub B H1:=hS1.in_ (i:=0) rfl;have eb_b:=hS1.at_ (i:=1) rfl;have eb_0q0:H1 k0q0=some ⟨[.int .u8 x.verb.toNat,xp,xb, .bool x.cut],0⟩:=by rw[<-hX];exact hS1.at_ (i:=6) rfl
 have ne_0q0_b:k0q0≠kb:=hS1.ne (i:=6) (j:=1) rfl rfl (by decide);have hpL3:=hpL2.mono hs_1;have e1':=(qbH hpL3 hp0).2;simp only[K8,K7]at e1';rw[<-hq0]at e1';refine awp_rseq [1,2,3,4,5,10] (by rfl) fun K hK=>?_;simp+decide only[qa,ev,qK,qG,putD,VG,VH,VI,Ka,Kb,↓qg,qd,↓Qv,Qk,QE,↓qC,qi,YR,Zz,↓qI,Qc,qj qba,↓qZ,qA Tryz.underlying79 qab,UT,qj qam,↓QB,Qo,↓qf,qc,Qj wz eb_b,VJ,Kn,Jq,Nat.reduceAdd,Xv,hpve,e1',hv0l,n0,Bg,K8,K7];repeat (with_reducible refine And.intro ?_ ?_;· first|trivial|omega|(intro hg;simp only[Ky,JF,Ji,VO,VL,VK,decide_eq_true_eq,decide_eq_false_iff_not,Xd]at hg;omega))
 apply hK;clear hK K;refine qF ?_;refine awp_rseq [1,2,3,4,5,10,34] (by rfl) fun K hK=>?_;simp+decide only[qa,ev,qK,qG,putD,VG,VH,VI,Ka,Kb,↓qg,qd,↓Qv,Qk,QE,↓qC,qi,YR,WY,↓qI,Qc,qj ag9,↓qo,qh,Qy,cond_false,Qp,XP,Qj wz eb_b,VJ,Kn,Jq,Nat.reduceAdd,Qw];apply hK;clear hK K;refine qM (b:=_) rfl (fun hb1=>?_) (fun hb1=>?_)
 ·try simp only[decide_eq_true_eq]at hb1
  have hverb:b.cur.verb=Uf:=hb1;have hbE:Zr (Xo f) x b forms depth last=if q0.1.toks.length=0\/(q0.1.toks.length=1/\qhW b qdW=true/\qhW b qdn=false)then qcv (Xo f) b [] [] (x.b.getD 0 noZ).2.2.1 depth false else b:=by
   unfold Zr;simp only;rw[if_pos hverb,hft]
  rw[hbE]at hT|-
  have hSa:AM.Sep ([B,pp,tp,E₀,one k0q0 X]++[one kb (buB b.text b.cur pv .nilSlice)]) H1:=hS1.pick [0,2,3,5,6,1] (by decide) (by simp);have hSb:=hSa.fold;have hsu:=XI (ps:=[B,pp,tp,E₀,one k0q0 X]) (hS1.pick [0,2,3,5,6] (by decide) (by simp)).2;have hhas:∀w,ACall Tryz.prog wz 84 [.ptr (.own kb) 0, .str w] H1 (fun r h'=>r= .bool (qhW b w)/\h'=H1):=fun w=>by
   have:=c_has wz _ H1 kb b.text w b.cur pv .nilSlice pq hSb (fun h hh=>(hpA h ((hsu pp (by simp)).trans hh) ((hsu tp (by simp)).trans hh) ((hsu E₀ (by simp)).trans hh)).1) (by omega);unfold qhW;rw[hpe];exact this
  refine qF ?_;refine awp_rseq [1,3,5,49] (by rfl) fun K hK=>?_;simp+decide only[ev,qK,qG,putD,VG,VH,Ka,Kb,↓qg,qd,↓qo,qh,qE,cond_false,qz,XV,↓Xc,agP,Qs,qW,qP,Xm,Ze,qH,qU,qeS,implies_true,↓QJ,XL,XM]
  (refine Yh (V:= .bool (qhW b qdW)) (f:=_) (cap:=_) (xs:=_) (by first|rfl|(simp+decide only[gv,qW,VH,Ka,Xm])) (fun hg=>⟨rfl,?_⟩) (fun hg=>hhas _) ?_;· (simp+decide only[gv,qW,VH,Ka,qH,Ze]at hg;simp+decide only[evs,ev,VH,Ka,hg,Qf,Jz,Ke,Vj,qK,qG]<;>try rfl))
  simp+decide only[ev,qK,qG,putD,VG,VH,Ka,Kb,gv,qW,qH,qU,Ze,↓WS,Qr,agP,Qs,qP,Xm,qeS,implies_true,Qe,qaH,QH,qaz,qaA,↓Xc,qd]
  (refine Yh (V:= .bool (qhW b qdn)) (f:=_) (cap:=_) (xs:=_) (by first|rfl|(simp+decide only[gv,qW,VH,Ka,Xm])) (fun hg=>⟨rfl,?_⟩) (fun hg=>hhas _) ?_;· (simp+decide only[gv,qW,VH,Ka,qH,Ze]at hg;simp+decide only[evs,ev,VH,Ka,hg,Qf,Jz,Ke,Vj,qK,qG]<;>try rfl))
  simp+decide only[qa,ev,qK,qG,putD,VG,VH,VI,Ka,Kb,gv,qW,qH,qU,Ze,↓WR,Zn,agP,Qs,qP,Xm,implies_true,YJ,qhN,qhO,↓WS,Qr,Qe,XZ,qaH,QH,XO,qaz,qaA,↓QC];apply hK;clear hK K;refine qM (b:=_) rfl (fun hb2=>?_) (fun hb2=>?_)
  ·try simp only[decide_eq_true_eq,Ji,Ky,JF]at hb2
   have hcond:q0.1.toks.length=0\/(q0.1.toks.length=1/\qhW b qdW=true/\qhW b qdn=false):=by
    rcases hb2 with h|h
    ·exact .inl (by omega)
    ·exact .inr ⟨by have:=h.1.1;omega,h.1.2,h.2⟩
   rw[if_pos hcond]at hT|-
   refine awp_rseq [1,3,5,11] (by rfl) fun K hK=>?_;simp+decide only[qa,ev,qK,qG,putD,VG,VI,Ka,Kb,↓qf,qc];apply hK;clear hK K;refine qF ?_;refine awp_rseq [1,3,5,11,53] (by rfl) fun K hK=>?_;simp+decide only[qa,ev,qK,qG,putD,VG,VH,VI,Ka,Kb,↓qC,qi,qcU,↓qI,Qc,qj qmC,↓QB,Qo,↓qo,qh,qE,cond_false,qz,Yk,Qj wz eb_0q0,VJ,Kn,Jq,hzl,nz];apply hK;clear hK K;refine Yy [1,3,11] (fun z:AVal=>[(1, .ptr (.own kb) 0),(3, .int .i64 depth),(11,z)]) (fun z:AVal=>H1) (fun z:AVal=>XsV wz dx B z (x.b.getD 0 noZ).2.2.1) ?_ ?_
   ·refine qM (b:=_) rfl (fun hb3=>?_) (fun hb3=>?_)
    ·try simp only[decide_eq_true_eq]at hb3
     have hq1:0<qs.length:=by omega
     obtain⟨lc,o,cc,hpe3⟩:=hqL.open (fun e=>by rw[VD]at e;rw[e]at hq1;cases hq1);have hq2:=hqL.mono hs_H1;rw[hpe3]at hq2;obtain⟨g0,g1,g2,g3⟩:=z_at hq2 hq1;simp only[K8,K7]at g0 g1 g2 g3;obtain⟨q,hqq⟩:∃q,q=qs.getD 0 qnj:=⟨_,rfl⟩
     rw[<-hqq]at g0 g1 g2 g3;have hqm:q∈qs:=by rw[hqq,Ko,JH hq1];exact VA hq1
     have hqv:=(hqo q hqm).2;have hql:=hqv.shape.1;have hx0:x.b.getD 0 noZ=q.1:=by rw[hqe,hqq,Ko,Ko,VE,JH hq1];rfl
     refine Xa [1,3,11] (by rfl) ?_;simp+decide only[qa,ev,qK,qG,putD,VG,VH,VI,Ka,Kb,↓qC,qi,qcU,↓qI,Qc,qj qmC,↓qZ,qA Tryz.underlying29 sz37,qpg,qj ag35,↓qf,qc,Qj wz eb_0q0,VJ,Kn,Jq,Xv,hpe3,g2,hql,Bg,K8,K7,Jo];repeat (with_reducible refine And.intro ?_ ?_;· first|trivial|omega|(intro hg;simp only[Ky,JF,Ji,VO,VL,VK,decide_eq_true_eq,decide_eq_false_iff_not,Xd]at hg;omega))
     try simp only[qR]
     first
     |exact⟨q.2.2,rfl,Vh _,by rw[hx0];exact hqv⟩
     |exact⟨.nilSlice,rfl,Vh _,by rw[hxn];exact qib⟩
    ·try simp only[decide_eq_false_iff_not]at hb3
     have hxn:x.b=[]:=Kg (by omega);refine qV ?_;try simp only[qR]
     first
     |exact⟨q.2.2,rfl,Vh _,by rw[hx0];exact hqv⟩
     |exact⟨.nilSlice,rfl,Vh _,by rw[hxn];exact qib⟩
   ·rintro z hz
    obtain⟨hzl2,-,-⟩:=hz.shape;refine Xa [] (by rfl) ?_;simp+decide only[ev,putD,VG,VH,Ka,Kb,↓qg,qd];refine qY (by rfl) (by rfl) (c_body wz hm ha B H1 kb f dx depth b pv .nilSlice z pp tp emp E₀ _ [] [] false ⟨hS1.pick [0,1,2,3,4,5] (by decide) (by simp),hc⟩ hz (hsmG 0) (hb (.inl hverb)) hd (by decide) (by rfl) (by rw[hb0];decide) hT) fun x7q3 h7q3 hx7q3=>?_;simp+decide only[qa,putD,VG,VI,if_false];change Awp _ _ _ _ _ _ _;refine Qn ?_;try simp only[QM]
    refine Qu (qO) ?_;exact⟨_,Vh _,hx7q3⟩
  ·try simp only[decide_eq_false_iff_not,VK,VO,VL]at hb2
   have hcond:¬(q0.1.toks.length=0\/(q0.1.toks.length=1/\qhW b qdW=true/\qhW b qdn=false)):=by
    intro h;obtain⟨a,c⟩:=hb2;rcases h with h|⟨h1,h2,h3⟩
    ·exact a (by omega)
    ·rcases c with(c|c)|c
     ·exact c (by omega)
     ·rw[h2]at c;cases c
     ·rw[h3]at c;cases c
   rw[if_neg hcond]at hT|-
   refine qV ?_;change Awp _ _ _ _ _ _ _;refine Qn ?_;try simp only[QM]
   refine Qu (qO) ?_;exact⟨_,Vh _, .nilSlice,emp,E₀,hS1.pick [0,1,2,3,4,5] (by decide) (by simp),hc⟩
 ·try simp only[decide_eq_false_iff_not]at hb1
  have hverb:b.cur.verb≠Uf:=hb1;rw[qms _ _ _ _ _ _ hverb]at hT|-
  obtain⟨nb,hnb⟩:∃nb,nb=qhB b.cur.verb:=⟨_,rfl⟩
  have hnb':((decide (b.cur.verb=[73,70])||decide (b.cur.verb=[69,86,65,76,85,65,84,69]))||decide (b.cur.verb=[83,69,65,82,67,72]))=nb:=by rw[hnb,Ew];rfl
  obtain⟨N,hN⟩:∃N,N=bodN x b.cur.verb:=⟨_,rfl⟩
  have hN4:N<=4:=by rw[hN];exact Nat.min_le_left _ _
  have hNi:∀i:Nat,i<N↔(i<4/\(i<qs.length\/(nb=true/\i=0))):=fun i=>by
   rw[hN,bodN,<-hnb,hpl];split<;>rename_i hq<;>simp only[hq]<;>simp<;>omega
  rw[<-hN]at hT|-
  obtain⟨R,hR⟩:∃R,R=((KQ N).foldl (Xw (Xo f) x forms depth last) (b,[])).1:=⟨_,rfl⟩
  rw[<-hR]at hT|-
  have hbl0:=hc.bv_len;refine qV ?_;change Awp _ _ _ _ _ _ _;refine awp_rseq [1,2,3,4,5,12] (by rfl) fun K hK=>?_;simp+decide only[qa,ev,qK,qG,putD,VG,VI,Ka,Kb,↓qf,qc];apply hK;clear hK K;refine awp_rseq [1,2,3,4,5,12,13] (by rfl) fun K hK=>?_;simp+decide only[qa,ev,qK,qG,putD,VG,VH,VI,Ka,Kb,↓qg,qd,↓Qv,Qk,QE,↓qC,qi,YR,WY,↓qI,Qc,qj ag9,↓qo,qh,Qy,cond_false,Qp,XP,↓Xc,agP,Qs,qW,qP,qU,implies_true,↓qbS,cv_nil,cp_nil,↓Xe,Wo,Wp,↓XJ,Xp,ZL,qik,↓QJ,XL,XM,↓QC,Qr,Qe,XZ,XO,↓qf,qc,Qj wz eb_b,VJ,Kn,Jq,Nat.reduceAdd,Qw,hnb'];apply hK;clear hK K;refine awp_rseq [1,2,3,4,5,12,13,14] (by rfl) fun K hK=>?_;simp+decide only[qa,ev,qK,qG,putD,VG,VI,Ka,Kb,↓qf,qc];apply hK;clear hK K;refine Qb ?_;refine QN [1,2,3,4,5,12,13,14] (fun g:BdG=>[(1, .ptr (.own kb) 0),(2,fv),(3, .int .i64 depth),(4, .bool last),(5, .ptr (.own k0q0) 0),(12, .str g.seen),(13, .bool nb),(14, .int .i64 g.i)]) (fun g:BdG=>g.H) (fun g:BdG=>AM.Sep [B,one kb (buB g.b.text g.b.cur pv g.bv),pp,tp,g.bp,g.E,one k0q0 X] g.H/\CurS wz f g.b.cur pv g.bv pp tp g.bp g.E/\g.i<=N/\R=(((KQ N).drop g.i).foldl (Xw (Xo f) x forms depth last) (g.b,g.seen)).1/\g.b.cur.bodies.length<=g.i/\g.seen.length<=300000*g.i/\g.b.cur.verb=b.cur.verb) (fun g:BdG=>N-g.i) ⟨0,b,[], .nilSlice,emp,E₀,H1⟩ (by rfl) (Vh _) ⟨hS1,hc,Jr _,hR,by rw[hb0];exact KM _,KM _,rfl⟩ ?_;rintro⟨i,b,seen,bv,bp,E,H⟩ ⟨hS,hc,hiN,hg,hbn,hsn,hvb⟩;simp only at hS hc hiN hg hbn hsn hvb|-
  have hs_H:AM.Sub B H:=hS.in_ (i:=0) rfl;have eb_b:=hS.at_ (i:=1) rfl;have eb_0q0:H k0q0=some ⟨[.int .u8 x.verb.toNat,xp,xb, .bool x.cut],0⟩:=by rw[<-hX];exact hS.at_ (i:=6) rfl
  refine qF ?_;refine awp_rseq [1,2,3,4,5,12,13,14,100] (by rfl) fun K hK=>?_;simp+decide only[qa,ev,qK,qG,putD,VG,VH,VI,Ka,Kb,↓qg,qd,↓qo,qh,qE,cond_false,qz,Xt,↓Xc,agP,Qs,qW,qP,Xm,Ze,qH,qU,qeS,implies_true,↓Xe,qi,qcU,↓XJ,Xp,ZL,qbT,qj qmC,↓qal,Qo,qcW,qcY,↓QJ,qN,XL,UV,XM,UW,XV,↓WS,Qr,Qe,QT,qaH,qcs,QH,XO,qaz,qaA,↓QC,Qj wz eb_0q0,VJ,Kn,Jq,hzl,nz];apply hK;clear hK K;refine qM (b:=_) rfl (fun hb4=>?_) (fun hb4=>?_)
  ·try simp only[decide_eq_true_eq,Ky,JF]at hb4
   have hiN1:i<N:=(hNi i).2 ⟨by omega,by
    rcases hb4.2 with h|⟨h,h2⟩
    ·exact .inl (by omega)
    ·exact .inr ⟨h,by omega⟩⟩
   rw[qoC hiN1,Es]at hg;refine qV ?_;change Awp _ _ _ _ _ _ _;refine qF ?_;refine Qb ?_;refine awp_rseq [1,2,3,4,5,12,13,14,15] (by rfl) fun K hK=>?_;refine Xb ze37 (cs:=[.int .u8 0, .nilSlice, .nilSlice, .int .u8 0]) (by rfl) fun k13q0 hk13q0=>?_;have hn_13q0:H k13q0=none:=by first|assumption|(simp only[VU]at hk13q0;simp only[hk13q0])
   have hf_13q0:B k13q0=none:=VV hs_H hn_13q0;have ne_13q0_b:k13q0≠kb:=VW hn_13q0 eb_b;have ne_13q0_0q0:k13q0≠k0q0:=VW hn_13q0 eb_0q0;simp+decide only[qa,putD,VG,VI,Ka];apply hK;clear hK K;refine qF ?_;have ne_13q0_b:k13q0≠kb:=VW hn_13q0 eb_b;have ne_13q0_0q0:k13q0≠k0q0:=VW hn_13q0 eb_0q0;refine awp_rseq [1,2,3,4,5,12,13,14,15,107] (by rfl) fun K hK=>?_;simp+decide only[qa,ev,putD,VG,VH,VI,Ka,Kb,↓qg,qd,↓qC,qi,qcU,↓qI,Qc,qj qmC,↓QB,Qo,↓qo,qh,qN,cond_false,qz,Xt,YI,ne_eq,not_false_eq_true,ne_13q0_0q0.symm,Qj wz eb_0q0,VJ,Kn,Jq,hzl,nz];apply hK;clear hK K;refine Yy [1,2,3,4,5,12,13,14,15] (fun g:ZG=>[(1, .ptr (.own kb) 0),(2,fv),(3, .int .i64 depth),(4, .bool last),(5, .ptr (.own k0q0) 0),(12, .str seen),(13, .bool nb),(14, .int .i64 i),(15, .ptr (.own k13q0) 0)]) (fun g:ZG=>H.set k13q0 ⟨[.int .u8 g.z.1.toNat,g.zo,g.zl, .int .u8 g.z.2.2.2.toNat],0⟩) (fun g:ZG=>g.z=x.b.getD i noZ/\IsL wz B 1 g.zo (g.z.2.1.map u8C)/\XsV wz dx B g.zl g.z.2.2.1) ?_ ?_
   ·refine qM (b:=_) rfl (fun hb5=>?_) (fun hb5=>?_)
    ·try simp only[decide_eq_true_eq]at hb5
     have hi1:i<qs.length:=by omega
     obtain⟨lc,o,cc,hpe3⟩:=hqL.open (fun e=>by rw[VD]at e;rw[e]at hi1;cases hi1);have hq2:=(hqL.mono hs_H).mono (Vi (b:=⟨[.int .u8 0, .nilSlice, .nilSlice, .int .u8 0],0⟩) hn_13q0);rw[hpe3]at hq2;obtain⟨g0,g1,g2,g3⟩:=z_at hq2 hi1;obtain⟨q,hqq⟩:∃q,q=qs.getD i qnj:=⟨_,rfl⟩
     rw[<-hqq]at g0 g1 g2 g3;have hqm:q∈qs:=by rw[hqq,Ko,JH hi1];exact VA hi1
     obtain⟨hqo1,hqv⟩:=hqo q hqm;have hqol:=hqo1.live;have hqos:=hqo1.scal;have hqoc:=hqo1.cells;obtain⟨hqvl,hqvs,hqvc⟩:=hqv.shape;have hib:(0<=(i:Int)/\(i:Int)<(qs.length:Int))=True:=eq_true ⟨by omega,by omega⟩;have hx0:x.b.getD i noZ=q.1:=by rw[hqe,hqq,Ko,Ko,VE,JH hi1];rfl
     refine Xa [1,2,3,4,5,12,13,14,15] (by rfl) ?_;simp+decide only[ev,putD,VG,VH,Ka,Kb,↓qC,qi,qcU,↓qI,Qc,qj qmC,↓qg,qd,↓qZ,qA Tryz.underlying29 sz37,Qz ag37 sz37,YI,ne_eq,not_false_eq_true,ne_13q0_0q0.symm,Qj wz eb_0q0,Qd,VJ,Kn,Jq,QL,Xv,allLive,J4,hpe3,g0,g1,g2,g3,hqol,hqvl,hib,VN,Jo];refine Qi (by rfl) (by rfl) zqA sz37 (by rfl) (by rfl) zqD (Jr _) (by first|rfl|(simp+decide only[ev,VH,Ka,VY,QU,J4,qbV,hqos,hqvs])) ?_;simp only[VX,VY];simp+decide only[qa,ev,putD,VH,VI,Ka,setAt,VZ,Kj,Jq,Nat.reduceAdd];try simp only[qR]
     first
     |exact⟨⟨q.1,q.2.1,q.2.2⟩,by first|rfl|(rw[hpe3];rfl),Vh _,hx0.symm,hqo1,hqv⟩
     |exact⟨⟨noZ, .nilSlice, .nilSlice⟩,rfl,Vh _,hxn.symm, .nil,qib⟩
    ·try simp only[decide_eq_false_iff_not]at hb5
     have hxn:x.b.getD i noZ=noZ:=by rw[Ko,List.getElem?_eq_none (by omega)];rfl
     refine qV ?_;try simp only[qR]
     first
     |exact⟨⟨q.1,q.2.1,q.2.2⟩,by first|rfl|(rw[hpe3];rfl),Vh _,hx0.symm,hqo1,hqv⟩
     |exact⟨⟨noZ, .nilSlice, .nilSlice⟩,rfl,Vh _,hxn.symm, .nil,qib⟩
   ·rintro⟨z,zo,zl⟩ ⟨hz,hzo,hzl⟩
    simp only at hz hzo hzl|-
    obtain⟨ZB,hZB⟩:∃ZB:Blk,ZB=⟨[.int .u8 z.1.toNat,zo,zl, .int .u8 z.2.2.2.toNat],0⟩:=⟨_,rfl⟩
    have hS5:=BL hS hn_13q0 ZB;simp only[Kh,Je]at hS5;obtain⟨H5,hH5⟩:∃H5,H5=H.set k13q0 ZB:=⟨_,rfl⟩
    rw[<-hH5]at hS5;refine Bq (h':=H5) (by rw[hH5,hZB];exact Vh _) ?_;have hs_H5:AM.Sub B H5:=hS5.in_ (i:=0) rfl;have eb_b:=hS5.at_ (i:=1) rfl;have eb_0q0:H5 k0q0=some ⟨[.int .u8 x.verb.toNat,xp,xb, .bool x.cut],0⟩:=by rw[<-hX];exact hS5.at_ (i:=6) rfl
    have eb_13q0:H5 k13q0=some ⟨[.int .u8 z.1.toNat,zo,zl, .int .u8 z.2.2.2.toNat],0⟩:=by rw[<-hZB];exact hS5.at_ (i:=7) rfl
    have hb8:z.1.toNat<256:=z.1.toNat_lt;skip;refine awp_rseq [1,2,3,4,5,12,13,14,15,16] (by rfl) fun K hK=>?_;simp+decide only[qa,ev,qK,qG,putD,VG,VI,Ka,Kb,↓qf,qc];apply hK;clear hK K;refine qF ?_;refine awp_rseq [1,2,3,4,5,12,13,14,15,16,115] (by rfl) fun K hK=>?_;simp+decide only[qa,ev,qK,qG,putD,VG,VH,VI,Ka,Kb,↓qg,qd,↓QB,Qo,↓qo,qh,qE,cond_false,qz,Yk,nf];apply hK;clear hK K;refine Yy [1,2,3,4,5,12,13,14,15,16] (fun z2:Str=>[(1, .ptr (.own kb) 0),(2,fv),(3, .int .i64 depth),(4, .bool last),(5, .ptr (.own k0q0) 0),(12, .str seen),(13, .bool nb),(14, .int .i64 i),(15, .ptr (.own k13q0) 0),(16, .str z2)]) (fun z2:Str=>H5) (fun z2:Str=>z2=(if forms=[]then[]else forms.getD (z.1.toNat%forms.length) [])) ?_ ?_
    ·refine qM (b:=_) rfl (fun hb6=>?_) (fun hb6=>?_)
     ·try simp only[decide_eq_true_eq]at hb6
      have hf1:0<forms.length:=by omega
      have hfne:forms≠[]:=Bc.1 hf1;have hfn:=hFo.1;obtain⟨lf,of,cf,hfe⟩:=hF.open (fun e=>hfne (VD.1 e));obtain⟨m,hm8⟩:∃m,m=z.1.toNat%forms.length:=⟨_,rfl⟩
      have hml:m<forms.length:=by rw[hm8];exact Km _ hf1
      have hF2:=hF.mono hs_H5;rw[hfe]at hF2;have ef:=frm_at hF2 hml;have hwb:IntKind.i64.wrap (z.1.toNat:Int)=(z.1.toNat:Int):=wrap_i64 (by omega) (by omega);have hrem:Ed (z.1.toNat:Int) (forms.length:Int)=(m:Int):=by rw[Ee (by omega),hm8];exact(Ef _ _).symm
      have hwm:IntKind.i64.wrap (m:Int)=(m:Int):=wrap_i64 (by omega) (by omega);have hmb:(0<=(m:Int)/\(m:Int)<(forms.length:Int))=True:=eq_true ⟨by omega,by omega⟩;refine Xa [1,2,3,4,5,12,13,14,15,16] (by rfl) ?_;simp+decide only[ev,putD,VG,VH,Ka,Kb,↓qg,qd,↓qC,qi,fa37_0,↓qI,Qc,qj ag5,↓qdd _ _ _ (qmb Tryz.underlying5 Tryz.underlying3),qaC,qej Tryz.underlying5 Tryz.underlying3,↓QB,Qo,Xr Tryz.underlying22,↓qo,qh,qN,cond_false,qz,qgN,ne_eq,Qj wz eb_13q0,VJ,QL,hfe,hwb,hrem,K7,Jo];try simp+decide only[qa,ev,putD,VG,VH,VI,Ka,Kb,↓qZ,Qc,qA Tryz.underlying22 sz9,↓qI,qj ag9,↓qf,qc,Qw,ef,hmb,VN,V5]
      repeat (with_reducible refine And.intro ?_ ?_;· first|trivial|omega|(intro hg;simp only[Ky,JF,Ji,VO,VL,VK,decide_eq_true_eq,decide_eq_false_iff_not,Xd]at hg;omega))
      try simp only[qR]
      first
      |exact⟨[],rfl,Vh _,by rw[if_pos hfe0]⟩
      |exact⟨forms.getD m [],by first|rfl|(rw[hfe];simp only[Jo];rfl),Vh _,by rw[if_neg hfne,hm8]⟩
     ·try simp only[decide_eq_false_iff_not]at hb6
      have hfe0:forms=[]:=Kg (by omega);refine qV ?_;try simp only[qR]
      first
      |exact⟨[],rfl,Vh _,by rw[if_pos hfe0]⟩
      |exact⟨forms.getD m [],by first|rfl|(rw[hfe];simp only[Jo];rfl),Vh _,by rw[if_neg hfne,hm8]⟩
    ·rintro z2 hz2
     refine qF ?_;skip;refine awp_rseq [1,2,3,4,5,12,13,14,15,16,129] (by rfl) fun K hK=>?_;simp+decide only[qa,ev,qK,qG,putD,VG,VH,VI,Ka,Kb,↓qg,qd,↓Xc,agP,Qs,qW,qP,qH,implies_true,↓QJ,qh,qE,cond_false,XL,XM,qz,XV,↓QC,Qr,Qe,QT,QH];apply hK;clear hK K;refine Yy [1,2,3,4,5,12,13,14,15,16] (fun form:Str=>[(1, .ptr (.own kb) 0),(2,fv),(3, .int .i64 depth),(4, .bool last),(5, .ptr (.own k0q0) 0),(12, .str seen),(13, .bool nb),(14, .int .i64 i),(15, .ptr (.own k13q0) 0),(16, .str form)]) (fun form:Str=>H5) (fun form:Str=>form=qbK b.cur.verb forms z i) ?_ ?_
     ·refine qM (b:=_) rfl (fun hb7=>?_) (fun hb7=>?_)
      ·try simp only[decide_eq_true_eq,Ky]at hb7
       have hfB:∀w,(if b.cur.verb=IFv then qcC else Ye)=w->qbK b.cur.verb forms z i=w:=fun w hw=>by
        unfold qbK;rw[if_pos ⟨by rw[hvb,<-hnb];exact hb7.1,by omega⟩];exact hw
       refine awp_rseq [1,2,3,4,5,12,13,14,15,16] (by rfl) fun K hK=>?_;simp+decide only[qa,ev,qK,qG,putD,VG,VI,Ka,Kb,↓qf,qc];apply hK;clear hK K;refine awp_rseq [1,2,3,4,5,12,13,14,15,16,135] (by rfl) fun K hK=>?_;simp+decide only[qa,ev,qK,qG,putD,VG,VH,VI,Ka,Kb,↓qg,qd,↓Qv,Qk,QE,↓qC,qi,YR,WY,↓qI,Qc,qj ag9,↓qo,qh,Qy,cond_false,Qp,XP,Qj wz eb_b,VJ,Kn,Jq,Nat.reduceAdd,Qw];apply hK;clear hK K;refine qM (b:=_) rfl (fun hb8=>?_) (fun hb8=>?_)
       ·try simp only[decide_eq_true_eq]at hb8
        refine Xa [1,2,3,4,5,12,13,14,15,16] (by rfl) ?_;simp+decide only[qa,ev,qK,qG,putD,VG,VI,Ka,Kb,↓qf,qc];try simp only[qR]
        first
        |exact⟨z2,rfl,Vh _,hfB.symm⟩
        |exact⟨qcC,rfl,Vh _,(hfB _ (if_pos hb8)).symm⟩
        |exact⟨Ye,rfl,Vh _,(hfB _ (if_neg hb8)).symm⟩
       ·try simp only[decide_eq_false_iff_not]at hb8
        refine qV ?_;try simp only[qR]
        first
        |exact⟨z2,rfl,Vh _,hfB.symm⟩
        |exact⟨qcC,rfl,Vh _,(hfB _ (if_pos hb8)).symm⟩
        |exact⟨Ye,rfl,Vh _,(hfB _ (if_neg hb8)).symm⟩
      ·try simp only[decide_eq_false_iff_not,VO]at hb7
       have hfB:qbK b.cur.verb forms z i=z2:=by
        unfold qbK;rw[if_neg (by rw[hvb,<-hnb];rintro⟨h1,h2⟩;rcases hb7 with c|c;rw[h1]at c;cases c;omega),hz2]
       refine qV ?_;try simp only[qR]
       first
       |exact⟨z2,rfl,Vh _,hfB.symm⟩
       |exact⟨qcC,rfl,Vh _,(hfB _ (if_pos hb8)).symm⟩
       |exact⟨Ye,rfl,Vh _,(hfB _ (if_neg hb8)).symm⟩
     ·rintro form hform
      have hfo:form.length<=500/\asciiB form=true:=by
       rw[hform];unfold qbK;split
       ·split
        ·exact⟨by decide,by decide⟩
        ·exact⟨by decide,by decide⟩
       ·split
        ·exact⟨by decide,rfl⟩
        ·rename_i hfne
         refine hFo.2 _ ?_;have hml:z.1.toNat%forms.length<forms.length:=Km _ (Bc.2 hfne);rw[Ko,JH hml];exact VA hml
      obtain⟨name,hname⟩:∃name,name=Yr form:=⟨_,rfl⟩
      have hnl:name.length<=251001:=by rw[hname];exact qpl hfo.1
      have hstep:Xw (Xo f) x forms depth last (b,seen) i=if qht seen form name=true then(b,seen)else(qcv (Xo f) (WC b (qdu form name z)) name (qke name z) z.2.2.1 depth (last && (decide (i=3)||decide (x.b.length<=i+1))),seen++[59]++name++[59]):=by
       unfold Xw;simp only;rw[<-hz,<-hform,<-hname]
      rw[hstep]at hg;refine awp_rseq [1,2,3,4,5,12,13,14,15,16,17] (by rfl) fun K hK=>?_;simp+decide only[ev,putD,VG,VH,Ka,Kb,↓qg,qd];refine qY (by rfl) (by rfl) (qjy wz ha _ form hfo.1 hfo.2) fun x23q1 h23q1 hx23q1=>?_;obtain⟨rfl,hs23⟩:=hx23q1;rw[<-hname];have hs_h23q1:Sub B h23q1:=Ba zqC hs23;have hr_h23q1:Sub H5 h23q1:=Ba zqC hs23;have eb_b:=hs23 kb _ zqA;have eb_0q0:=hs23 k0q0 _ zqA;have eb_13q0:=hs23 k13q0 _ zqA;simp+decide only[qa,ev,putD,VG,VH,VI,Ka,Kb,↓qf,qc];apply hK;clear hK K;refine qF ?_;have hS6:=hS5.forget hs23;have hs_H6:AM.Sub B h23q1:=hS6.in_ (i:=0) rfl;have eb_b:=hS6.at_ (i:=1) rfl;have eb_0q0:h23q1 k0q0=some ⟨[.int .u8 x.verb.toNat,xp,xb, .bool x.cut],0⟩:=by rw[<-hX];exact hS6.at_ (i:=6) rfl
      have eb_13q0:h23q1 k13q0=some ⟨[.int .u8 z.1.toNat,zo,zl, .int .u8 z.2.2.2.toNat],0⟩:=by rw[<-hZB];exact hS6.at_ (i:=7) rfl
      have hwi:IntKind.i64.wrap ((i:Int)+1)=((i+1:Nat):Int):=by rw[wrap_i64 (by omega) (by omega)];omega
      refine awp_rseq [1,2,3,4,5,12,13,14,15,16,17,154] (by rfl) fun K hK=>?_;simp+decide only[ev,qK,qG,putD,VG,VH,Ka,Kb,↓qg,qd,↓qo,qh,Qy,cond_false,Qp,XP,↓Xc,agP,Qs,qW,qP,Xm,Ze,qH,qU,qeS,implies_true,↓QJ,XL,UV,XM,UW,Um,qN,YK,Jq,Jc,KY,JN];repeat (with_reducible refine And.intro ?_ ?_;· first|trivial|omega|(intro hg;simp only[Ky,JF,Ji,VO,VL,VK,decide_eq_true_eq,decide_eq_false_iff_not,Xd]at hg;omega))
      (refine Yh (V:= .bool (Lib.contains seen (qra name))) (f:=_) (cap:=_) (xs:=_) (by first|rfl|(simp+decide only[gv,qW,VH,Ka,Xm])) (fun hg=>⟨rfl,?_⟩) (fun hg=>YM wz hm _ seen _ (by omega)) ?_;· (simp+decide only[gv,qW,VH,Ka,qH,Ze]at hg;simp+decide only[evs,ev,VH,Ka,hg,Qf,Jz,Ke,Vj]<;>try rfl))
      simp+decide only[ev,qK,qG,putD,VG,VH,Ka,Kb,gv,qW,qH,qU,Ze,↓WS,Qr,agP,Qs,qP,implies_true,Qe,XZ,qaH,QH,XO,qaz,qaA,↓QC,↓qg,qd,↓Xc]
      (refine Yh (V:= .bool (Lib.contains seen (qra qft))) (f:=_) (cap:=_) (xs:=_) (by first|rfl|(simp+decide only[gv,qW,VH,Ka,Xm,qP])) (fun hg=>⟨rfl,?_⟩) (fun hg=>YM wz hm _ seen _ (by omega)) ?_;· (simp+decide only[gv,qW,VH,Ka,qU]at hg;simp+decide only[evs,ev,VH,Ka,hg,Qf,Jz,Ke,Vj,qK,qG]<;>try rfl))
      simp+decide only[qa,ev,qK,qG,putD,VG,VH,VI,Ka,Kb,gv,qW,qU,↓QC,Qr,Qe,XZ,XO];apply hK;clear hK K;refine qM (b:=_) rfl (fun hb9=>?_) (fun hb9=>?_)
      ·try simp only[decide_eq_true_eq,decide_eq_false_iff_not,Ji,Ky,JF]at hb9
       have hsk:qht seen form name=true:=by
        unfold qht;simp only[JF,Ky,Ji,decide_eq_true_eq,decide_eq_false_iff_not];rcases hb9 with(h|h)|h
        ·exact .inl h
        ·exact .inr (.inl h)
        ·exact .inr (.inr h)
       rw[if_pos hsk]at hg;refine QI ?_;change Awp _ _ _ _ _ _ _;refine Xa [1,2,3,4,5,12,13,14] (by rfl) ?_;simp+decide only[qa,ev,qK,qG,putD,VG,VH,VI,Ka,Kb,↓qg,qd,↓qo,qh,qE,cond_false,qz,QW,↓qf,qc,hwi];try simp only[qR]
       first
       |exact⟨⟨i+1,b,seen,bv,bp,E,_⟩,rfl,Vh _,⟨hS6.pick [0,1,2,3,4,5,6] (by decide) (by simp),hc,hiN1,hg,by simp only;omega,by simp only;omega,hvb⟩,by simp only;omega⟩
       |exact⟨⟨i+1,b',seen++[59]++name++[59],bv2,bp2,E2,_⟩,rfl,Vh _,⟨hS11.pick [0,2,3,4,5,6,1] (by decide) (by simp),hc10,hiN1,hg,hbn2,by simp only[Jc,KY,JN];omega,hvb2.trans hvb⟩,by simp only;omega⟩
      ·try simp only[decide_eq_true_eq,decide_eq_false_iff_not,VK,VO,VL]at hb9
       have hsk:qht seen form name=false:=by
        unfold qht;simp only[VL,VO,VK,decide_eq_true_eq,decide_eq_false_iff_not];exact⟨hb9.1.1,hb9.1.2,hb9.2⟩
       rw[if_neg (by rw[hsk];decide)]at hg;have hbq:nb=true\/forms≠[]:=by
        by_cases hfq:forms=[]
        ·refine .inl ?_
         cases hnq:nb with
         |true=>rfl
         |false=>
          refine absurd ?_ hb9.1.1;rw[hform,qbK,if_neg (by rw[hvb,<-hnb,hnq];exact fun e=>Bool.false_ne_true e.1),if_pos hfq]
        ·exact .inr hfq
       obtain⟨ops,hops⟩:∃ops,ops=qke name z:=⟨_,rfl⟩
       obtain⟨hopl,hopa⟩:=qri name z;rw[<-hops]at hopl hopa;obtain⟨tx,htx⟩:∃tx,tx=qdu form name z:=⟨_,rfl⟩
       have htxl:=qkv hfo.1 name z;rw[<-htx]at htxl;rw[<-hops,<-htx]at hg;refine qV ?_;change Awp _ _ _ _ _ _ _;refine awp_rseq [1,2,3,4,5,12,13,14,15,16,17] (by rfl) fun K hK=>?_;simp+decide only[qa,ev,qK,qG,putD,VG,VH,VI,Ka,Kb,↓qg,qd,↓qo,qh,Qy,cond_false,Qp,YK,qN,↓qf,qc,Jq,Jc,KY,JN];repeat (with_reducible refine And.intro ?_ ?_;· first|trivial|omega|(intro hg;simp only[Ky,JF,Ji,VO,VL,VK,decide_eq_true_eq,decide_eq_false_iff_not,Xd]at hg;omega))
       apply hK;clear hK K;refine awp_rseq [1,2,3,4,5,12,13,14,15,16,17,18] (by rfl) fun K hK=>?_;simp+decide only[qa,ev,qK,qG,putD,VG,VI,Ka,Kb,↓qf,qc];apply hK;clear hK K;refine qF ?_;refine awp_rseq [1,2,3,4,5,12,13,14,15,16,17,18,161] (by rfl) fun K hK=>?_;simp+decide only[qa,ev,qK,qG,putD,VG,VH,VI,Ka,Kb,↓qg,qd,↓qo,qh,Qy,cond_false,Qp,XP];apply hK;clear hK K;refine Yy [1,2,3,4,5,12,13,14,15,16,17,18] (fun g:StH=>[(1, .ptr (.own kb) 0),(2,fv),(3, .int .i64 depth),(4, .bool last),(5, .ptr (.own k0q0) 0),(12, .str (seen++[59]++name++[59])),(13, .bool nb),(14, .int .i64 i),(15, .ptr (.own k13q0) 0),(16, .str form),(17, .str name),(18, .str g.f)]) (fun g:StH=>g.H) (fun g:StH=>g.f=ops/\AM.Sub h23q1 g.H) ?_ ?_
       ·refine qM (b:=_) rfl (fun hb10=>?_) (fun hb10=>?_)
        ·try simp only[decide_eq_true_eq]at hb10
         have hzol:=hzo.live;have hwE:∀w,(if Zd z.2.1=[]then[32,49]else Zd z.2.1)=w->w=ops:=fun w hw=>by rw[hops,qke,if_pos (show name=Ye from hb10),hw]
         refine awp_rseq [1,2,3,4,5,12,13,14,15,16,17,18] (by rfl) fun K hK=>?_;simp+decide only[ev,putD,VG,VH,Ka,Kb,↓qC,qi,fa37_1,↓qI,Qc,qj ag32,Qj wz eb_13q0,VJ,Kn,Jq,hzol];refine qY (by rfl) (by rfl) (qju wz _ zo z.2.1 (hzo.mono hs_H6)) fun x28q2 h28q2 hx28q2=>?_;obtain⟨rfl,hs28⟩:=hx28q2;have hs_h28q2:Sub B h28q2:=Ba zqC hs28;have hr_h28q2:Sub h23q1 h28q2:=Ba zqC hs28;have eb_b:=hs28 kb _ zqA;have eb_0q0:=hs28 k0q0 _ zqA;have eb_13q0:=hs28 k13q0 _ zqA;simp+decide only[qa,ev,putD,VG,VH,VI,Ka,Kb,↓qf,qc];apply hK;clear hK K;refine awp_rseq [1,2,3,4,5,12,13,14,15,16,17,18,166] (by rfl) fun K hK=>?_;simp+decide only[qa,ev,qK,qG,putD,VG,VH,VI,Ka,Kb,↓qg,qd,↓qo,qh,Qy,cond_false,Qp,XP];apply hK;clear hK K;refine qM (b:=_) rfl (fun hb11=>?_) (fun hb11=>?_)
         ·try simp only[decide_eq_true_eq]at hb11
          refine Xa [1,2,3,4,5,12,13,14,15,16,17,18] (by rfl) ?_;simp+decide only[qa,ev,qK,qG,putD,VG,VI,Ka,Kb,↓qf,qc];try simp only[qR]
          first
          |exact⟨⟨[32,49],_⟩,rfl,Vh _,hwE _ (if_pos hb11),hs28⟩
          |exact⟨⟨Zd z.2.1,_⟩,rfl,Vh _,hwE _ (if_neg hb11),hs28⟩
          |exact⟨⟨[],_⟩,rfl,Vh _,ho0,Vh _⟩
         ·try simp only[decide_eq_false_iff_not]at hb11
          refine qV ?_;try simp only[qR]
          first
          |exact⟨⟨[32,49],_⟩,rfl,Vh _,hwE _ (if_pos hb11),hs28⟩
          |exact⟨⟨Zd z.2.1,_⟩,rfl,Vh _,hwE _ (if_neg hb11),hs28⟩
          |exact⟨⟨[],_⟩,rfl,Vh _,ho0,Vh _⟩
        ·try simp only[decide_eq_false_iff_not]at hb10
         have ho0:([]:Str)=ops:=by rw[hops,qke,if_neg (show ¬name=Ye from fun e=>hb10 e)]
         refine qV ?_;try simp only[qR]
         first
         |exact⟨⟨[32,49],_⟩,rfl,Vh _,hwE _ (if_pos hb11),hs28⟩
         |exact⟨⟨Zd z.2.1,_⟩,rfl,Vh _,hwE _ (if_neg hb11),hs28⟩
         |exact⟨⟨[],_⟩,rfl,Vh _,ho0,Vh _⟩
       ·rintro⟨o,H10⟩ ⟨ho,hs10⟩
        simp only at ho hs10|-
        subst ho;have hS7:=hS6.forget hs10;have hs_H10:AM.Sub B H10:=hS7.in_ (i:=0) rfl;have eb_b:=hS7.at_ (i:=1) rfl;have eb_0q0:H10 k0q0=some ⟨[.int .u8 x.verb.toNat,xp,xb, .bool x.cut],0⟩:=by rw[<-hX];exact hS7.at_ (i:=6) rfl
        have eb_13q0:H10 k13q0=some ⟨[.int .u8 z.1.toNat,zo,zl, .int .u8 z.2.2.2.toNat],0⟩:=by rw[<-hZB];exact hS7.at_ (i:=7) rfl
        skip;refine awp_rseq [1,2,3,4,5,12,13,14,15,17,18,19] (by rfl) fun K hK=>?_;simp+decide only[ev,putD,VG,VH,Ka,Kb,↓qg,qd,↓qC,qi,fa37_3,↓qI,Qc,qj ag5,Qj wz eb_13q0,VJ,Kn,Jq,QL];refine qY (by rfl) (by rfl) (qmm wz ha _ form z.2.2.2 true hfo.1 hfo.2) fun x31q3 h31q3 hx31q3=>?_;obtain⟨rfl,hs31⟩:=hx31q3;have hs_h31q3:Sub B h31q3:=Ba zqC hs31;have hr_h31q3:Sub H10 h31q3:=Ba zqC hs31;have eb_b:=hs31 kb _ zqA;have eb_0q0:=hs31 k0q0 _ zqA;have eb_13q0:=hs31 k13q0 _ zqA;simp+decide only[qa,ev,putD,VG,VH,VI,Ka,Kb,↓qf,qc];apply hK;clear hK K;refine qF ?_;have hS8:=hS7.forget hs31;have hs_H11:AM.Sub B h31q3:=hS8.in_ (i:=0) rfl;have eb_b:=hS8.at_ (i:=1) rfl;have eb_0q0:h31q3 k0q0=some ⟨[.int .u8 x.verb.toNat,xp,xb, .bool x.cut],0⟩:=by rw[<-hX];exact hS8.at_ (i:=6) rfl
        have eb_13q0:h31q3 k13q0=some ⟨[.int .u8 z.1.toNat,zo,zl, .int .u8 z.2.2.2.toNat],0⟩:=by rw[<-hZB];exact hS8.at_ (i:=7) rfl
        have hz8:z.2.2.2.toNat<256:=z.2.2.2.toNat_lt;obtain⟨k2,hk2⟩:∃k2,k2=z.2.2.2.toNat%2:=⟨_,rfl⟩
        have hrem2:Ed (z.2.2.2.toNat:Int) 2=(k2:Int):=by rw[Ee (by omega),hk2];exact(Ef _ 2).symm
        have hwu2:IntKind.u8.wrap (k2:Int)=(k2:Int):=wrap_u8 (by omega) (by omega);refine awp_rseq [1,2,3,4,5,12,13,14,15,17,18,19,178] (by rfl) fun K hK=>?_;simp+decide only[qa,ev,qK,qG,putD,VG,VH,VI,Ka,Kb,↓qg,qd,↓qo,qh,Qy,cond_false,Qp,XP,↓Xe,qi,agP,Qs,qW,qP,qH,implies_true,fa37_3,↓XJ,Xp,ZL,qbT,qj ag5,↓QJ,qE,XL,XM,qz,qgN,XV,↓QC,Qr,Qe,QT,QH,Qj wz eb_13q0,VJ,Kn,Jq,QL,hrem2];apply hK;clear hK K;refine Yy [1,2,3,4,5,12,13,14,15,17,18,19] (fun t:Str=>[(1, .ptr (.own kb) 0),(2,fv),(3, .int .i64 depth),(4, .bool last),(5, .ptr (.own k0q0) 0),(12, .str (seen++[59]++name++[59])),(13, .bool nb),(14, .int .i64 i),(15, .ptr (.own k13q0) 0),(17, .str name),(18, .str o),(19, .str t)]) (fun t:Str=>h31q3) (fun t:Str=>t=tx) ?_ ?_
        ·refine qM (b:=_) rfl (fun hb12=>?_) (fun hb12=>?_)
         ·try simp only[decide_eq_true_eq,Ky]at hb12
          have htE:([]:Str)=tx:=by rw[htx,qdu,if_pos (show name=qcC/\z.2.2.2.toNat%2=1 from⟨hb12.1,by omega⟩)]
          refine Xa [1,2,3,4,5,12,13,14,15,17,18,19] (by rfl) ?_;simp+decide only[qa,ev,qK,qG,putD,VG,VI,Ka,Kb,↓qf,qc];try simp only[qR]
          exact⟨_,rfl,Vh _,htE⟩
         ·try simp only[decide_eq_false_iff_not,VO]at hb12
          have htE:Wy form z.2.2.2 true=tx:=by
           rw[htx,qdu,if_neg];rintro⟨h1,h2⟩;rcases hb12 with c|c
           ·exact c h1
           ·omega
          refine qV ?_;try simp only[qR]
          exact⟨_,rfl,Vh _,htE⟩
        ·rintro t rfl
         obtain⟨lb,hlb⟩:∃lb,lb=(last && (decide (i=3)||decide (x.b.length<=i+1))):=⟨_,rfl⟩
         rw[<-hlb]at hg;obtain⟨b',hb'⟩:∃b',b'=qcv (Xo f) (WC b t) name o z.2.2.1 depth lb:=⟨_,rfl⟩
         rw[<-hb']at hg;have hpre:b'.text<+:R.text:=by rw[hg];exact qgI _ _ _ _ _ _ (b',_)
         have hlen:=hpre.length_le;have hpre2:b.text++[32]++t<+:b'.text:=by rw[hb'];exact qiR _ (WC b t) _ _ _ _ _
         have hlen2:=hpre2.length_le;simp only[Jc,KY,JN]at hlen2;have hS8a:AM.Sep ([B,pp,tp,bp,E,one k0q0 X,one k13q0 ZB]++[one kb (buB b.text b.cur pv bv)]) h31q3:=hS8.pick [0,2,3,4,5,6,7,1] (by decide) (by simp);have hS8b:=hS8a.fold;refine awp_rseq [1,2,3,4,5,12,13,14,15,17,18] (by rfl) fun K hK=>?_;simp+decide only[ev,putD,VG,VH,Ka,Kb,↓qg,qd];refine qY (by rfl) (by rfl) (qmn wz (WB [B,pp,tp,bp,E,one k0q0 X,one k13q0 ZB]) h31q3 kb b.text t b.cur pv bv hS8b (by omega) (by omega)) fun x34q2 h34q2 hx34q2=>?_;have hS9:=Ep hS8a.left hx34q2;simp only[Kh,Je]at hS9;have hs_H12:AM.Sub B h34q2:=hS9.in_ (i:=0) rfl;simp+decide only[qa,putD,VG,VI,Ka];apply hK;clear hK K;have eb_b:=hS9.at_ (i:=7) rfl;have eb_0q0:h34q2 k0q0=some ⟨[.int .u8 x.verb.toNat,xp,xb, .bool x.cut],0⟩:=by rw[<-hX];exact hS9.at_ (i:=5) rfl
         have eb_13q0:h34q2 k13q0=some ⟨[.int .u8 z.1.toNat,zo,zl, .int .u8 z.2.2.2.toNat],0⟩:=by rw[<-hZB];exact hS9.at_ (i:=6) rfl
         have hzll:=hzl.shape.1;have hwl:IntKind.i64.wrap ((qs.length:Int)-1)=(qs.length:Int)-1:=wrap_i64 (by omega) (by omega);have hS9c:AM.Sep ([B,one k0q0 X]++[one kb (buB (b.text++[32]++t) b.cur pv bv),pp,tp,bp,E]) h34q2:=hS9.pick [0,5,7,1,2,3,4] (by decide) (by simp);have hS9d:=hS9c.fold;have hBu2:=XI (ps:=[B,one k0q0 X]) (hS9.pick [0,5] (by decide) (by simp)).2;have hlbI:(last && (decide ((i:Int)=3)||decide ((qs.length:Int)-1<=(i:Int))))=lb:=by
          have h1:decide ((i:Int)=3)=decide (i=3):=by rw[decide_eq_decide];omega
          have h2:decide ((qs.length:Int)-1<=(i:Int))=decide (qs.length<=i+1):=by rw[decide_eq_decide];omega
          rw[hlb,hpl,h1,h2]
         refine Xa [1,2,3,4,5,12,13,14] (by rfl) ?_;simp+decide only[ev,qK,qG,putD,VG,VH,Ka,Kb,↓qg,qd,↓qC,qi,qpg,↓qI,Qc,qj ag35,↓Xc,agP,Qs,qW,qP,Xm,Ze,qH,qU,qeS,implies_true,↓QJ,qh,qE,cond_false,XL,UV,XM,UW,qz,XV,↓Xe,qcU,↓XJ,Xp,ZL,qmz,qj qmC,↓qal,Qo,qcW,qcY,Wl,qN,qiV,↓WS,Qr,Qe,QT,qcs,QH,XO,qaz,qaA,↓QC,Qj wz eb_0q0,Qj wz eb_13q0,VJ,Kn,Jq,nz,hzll,hwl,hlbI];repeat (with_reducible refine And.intro ?_ ?_;· first|trivial|omega|(intro hg;simp only[Ky,Ji,decide_eq_false_iff_not]at hg;omega))
         refine qY (by rfl) (by rfl) (c_body wz hm ha (WB [B,one k0q0 X]) h34q2 kb f dx depth (WC b t) pv bv zl pp tp bp E z.2.2.1 name o lb ⟨hS9d,hc⟩ (hzl.mono (hBu2 B (by simp))) (by rw[hz];exact hsmG i) (hb (.inr (by rw[<-hnb];exact hbq))) hd hopl hopa (by show b.cur.bodies.length<=10;omega) (by rw[<-hb'];omega)) fun x35q19 h35q19 hx35q19=>?_;rw[<-hb']at hx35q19;obtain⟨bv2,bp2,E2,hS10,hc10⟩:=hx35q19;have hS11:=Ep hS9c.left hS10;simp only[Kh,Je]at hS11;have hs_35:AM.Sub B h35q19:=hS11.in_ (i:=0) rfl;have hbn2:b'.cur.bodies.length<=i+1:=by rw[hb'];show(b.cur.bodies++[_]).length<=i+1;rw[Jc,JA];omega
         have hvb2:b'.cur.verb=(b).cur.verb:=by rw[hb'];rfl
         simp+decide only[qa,putD,VG,VI,Ka];change Awp _ _ _ _ _ _ _;refine Xa [1,2,3,4,5,12,13,14] (by rfl) ?_;simp+decide only[qa,ev,qK,qG,putD,VG,VH,VI,Ka,Kb,↓qg,qd,↓qo,qh,qE,cond_false,qz,QW,↓qf,qc,hwi];try simp only[qR]
         first
         |exact⟨⟨i+1,b,seen,bv,bp,E,_⟩,rfl,Vh _,⟨hS6.pick [0,1,2,3,4,5,6] (by decide) (by simp),hc,hiN1,hg,by simp only;omega,by simp only;omega,hvb⟩,by simp only;omega⟩
         |exact⟨⟨i+1,b',seen++[59]++name++[59],bv2,bp2,E2,_⟩,rfl,Vh _,⟨hS11.pick [0,2,3,4,5,6,1] (by decide) (by simp),hc10,hiN1,hg,hbn2,by simp only[Jc,KY,JN];omega,hvb2.trans hvb⟩,by simp only;omega⟩
  ·try simp only[decide_eq_false_iff_not,VO,VL]at hb4
   have hiNe:i=N:=by
    have:¬i<N:=by
     rw[hNi];rintro⟨h1,h2⟩;rcases hb4 with z|⟨z1,z2⟩
     ·omega
     ·rcases h2 with h2|⟨h2,h3⟩
      ·omega
      ·rcases z2 with z2|z2
       ·rw[h2]at z2;cases z2
       ·omega
    omega
   have hRb:R=b:=by
    rw[hg,hiNe,List.drop_of_length_le (by rw[Ev];exact KM _)];rfl
   refine QI ?_;try simp only[qiw,qeO]
   refine Us (qO) ?_;exact⟨_,Vh _,bv,bp,E,by rw[hRb];exact⟨hS.pick [0,1,2,3,4,5] (by decide) (by simp),hc⟩⟩
end Go.Proofs.YtgiadjbiimkbiaaGreatDoor
namespace Go.Stm
open Go.Col (Str)
open Go.Tok
open Go.Proofs.YtgiadjbiimkbiaaGreatDoor (asciiB qeF)
set_option maxRecDepth 100000
def qlR(s:Str):Bool:=decide ((Yo s).length<=1000) && (Yo s).all fun f=>decide (f.length<=500) && asciiB f
def rowB(k:Nat):Bool:=let r:=Xn 58 [] (rowsT.getD k []);decide (r.length=3) && (decide ((r.getD 0 []).length<=20) && (decide ((r.getD 1 []).length<=500) && (decide ((r.getD 2 []).length<=500) && (qlR (r.getD 1 []) && (qlR (r.getD 2 []) && (asciiB (r.getD 0 []) && decide ((rowsT.getD k []).length<=500)))))))
theorem rows_B:((KQ 39).all rowB)=true:=by decide+kernel
theorem qnt{s:Str}(h:qlR s=true):qeF (Yo s):=by
 simp only[qlR,Ky,decide_eq_true_eq,JC]at h;exact⟨h.1,fun f hf=>h.2 f hf⟩
theorem qkE{k:Nat}(hk:k<39):∃a b c,Xn 58 [] (rowsT.getD k [])=[a,b,c]/\a.length<=20/\b.length<=500/\c.length<=500/\qeF (Yo b)/\qeF (Yo c)/\asciiB a=true/\(rowsT.getD k []).length<=500:=by
 have h:=JC.1 rows_B k (JD.2 hk);unfold rowB at h;generalize Xn 58 [] (rowsT.getD k [])=r at h|-
 simp only[Ky,decide_eq_true_eq]at h;obtain⟨h1,h2,h3,h4,h5,h6,h7,h8⟩:=h;match r,h1 with
 |[a,b,c],_=>exact⟨a,b,c,rfl,h2,h3,h4,qnt h5,qnt h6,h7,h8⟩
def MOVEv:Str:=[77,79,86,69]
theorem row_21:Xn 58 [] (rowsT.getD 21 [])=[MOVEv,TOw,[]]:=by decide+kernel
theorem qlG(forms:List Str)(b:BuC)(y:YC):(XD forms b y).cur.verb=b.cur.verb/\(XD forms b y).cur.bodies=b.cur.bodies/\(XD forms b y).cur.line=b.cur.line/\(XD forms b y).cur.col=b.cur.col:=by
 unfold XD;simp only;split<;>exact⟨rfl,rfl,rfl,rfl⟩
theorem qfK(forms:List Str):∀(l:List YC) (b:BuC),(l.foldl (XD forms) b).cur.verb=b.cur.verb/\(l.foldl (XD forms) b).cur.bodies=b.cur.bodies/\(l.foldl (XD forms) b).cur.line=b.cur.line/\(l.foldl (XD forms) b).cur.col=b.cur.col
 |[],b=>⟨rfl,rfl,rfl,rfl⟩
 |y::l,b=>by
  obtain⟨a1,a2,a3,a4⟩:=qlG forms b y;obtain⟨b1,b2,b3,b4⟩:=qfK forms l (XD forms b y);exact⟨b1.trans a1,b2.trans a2,b3.trans a3,b4.trans a4⟩
theorem qeN(x:XC)(b:BuC)(forms:List Str):(Za x b forms).cur.verb=b.cur.verb/\(Za x b forms).cur.bodies=b.cur.bodies/\(Za x b forms).cur.line=b.cur.line/\(Za x b forms).cur.col=b.cur.col:=by
 unfold Za;simp only;split
 ·exact⟨rfl,rfl,rfl,rfl⟩
 ·obtain⟨b1,b2,b3,b4⟩:=qfK forms ((x.p.take 5).drop 1) {WC b (ZZ x b.cur.verb)with cur:={(WC b (ZZ x b.cur.verb)).cur with phrases:=[⟨[],Xg (ZZ x b.cur.verb)⟩]}}
  exact⟨b1,b2,b3,b4⟩
theorem qiT(b:BuC)(w:Str):b.text<+:(WC b w).text:=by
 show b.text<+:b.text++[32]++w
 rw[Ja];exact Eh _ _
theorem qiS(B:List XC->Nat->Bool->Str×List StC)(x:XC)(b:BuC)(forms:List Str)(depth:Nat)(last:Bool):b.text<+:(Zr B x b forms depth last).text:=by
 unfold Zr;simp only;split
 ·split
  ·exact qiR _ _ _ _ _ _ _
  ·exact Ei _
 ·exact qgI B x forms depth last _ (b,[])
theorem qkj(B:List XC->Nat->Bool->Str×List StC)(x:XC)(forms:List Str)(depth:Nat)(last:Bool)(s:BuC×Str)(i:Nat):(Xw B x forms depth last s i).1.cur.verb=s.1.cur.verb/\(Xw B x forms depth last s i).1.cur.phrases=s.1.cur.phrases/\(Xw B x forms depth last s i).1.cur.line=s.1.cur.line/\(Xw B x forms depth last s i).1.cur.col=s.1.cur.col:=by
 unfold Xw;simp only;split<;>exact⟨rfl,rfl,rfl,rfl⟩
theorem qiF(B:List XC->Nat->Bool->Str×List StC)(x:XC)(forms:List Str)(depth:Nat)(last:Bool):∀(l:List Nat) (s:BuC×Str),(l.foldl (Xw B x forms depth last) s).1.cur.verb=s.1.cur.verb/\(l.foldl (Xw B x forms depth last) s).1.cur.phrases=s.1.cur.phrases/\(l.foldl (Xw B x forms depth last) s).1.cur.line=s.1.cur.line/\(l.foldl (Xw B x forms depth last) s).1.cur.col=s.1.cur.col
 |[],s=>⟨rfl,rfl,rfl,rfl⟩
 |i::l,s=>by
  obtain⟨a1,a2,a3,a4⟩:=qkj B x forms depth last s i;obtain⟨b1,b2,b3,b4⟩:=qiF B x forms depth last l (Xw B x forms depth last s i);exact⟨b1.trans a1,b2.trans a2,b3.trans a3,b4.trans a4⟩
theorem qgl(B:List XC->Nat->Bool->Str×List StC)(x:XC)(b:BuC)(forms:List Str)(depth:Nat)(last:Bool):(Zr B x b forms depth last).cur.verb=b.cur.verb/\(Zr B x b forms depth last).cur.phrases=b.cur.phrases/\(Zr B x b forms depth last).cur.line=b.cur.line/\(Zr B x b forms depth last).cur.col=b.cur.col:=by
 unfold Zr;simp only;split
 ·split<;>exact⟨rfl,rfl,rfl,rfl⟩
 ·exact qiF _ _ _ _ _ _ _
theorem qom(ops:List UInt8):(Xg (Zd ops)).length<=17:=by
 have:=(Go.Proofs.YtgiadjbiimkbiaaGreatDoor.lawToks_16 (Zd ops) (Go.Stm.wordsE_ok ops).1)
 exact this
theorem qhz(forms:List Str):∀(l:List YC) (b:BuC) (n m:Nat),b.cur.phrases.length<=n->(∀p∈b.cur.phrases,p.toks.length<=m)->b.cur.phrases≠[]->(l.foldl (XD forms) b).cur.phrases.length<=n+l.length/\∀p∈(l.foldl (XD forms) b).cur.phrases,p.toks.length<=m+17*l.length
 |[],b,n,m,h1,h2,_=>⟨h1,h2⟩
 |y::l,b,n,m,h1,h2,h3=>by
  have ht:=qom y.ops;have hs:(XD forms b y).cur.phrases.length<=n+1/\(∀p∈(XD forms b y).cur.phrases,p.toks.length<=m+17)/\(XD forms b y).cur.phrases≠[]:=by
   have hp:=Bc.2 h3;unfold XD;simp only;split
   ·refine⟨?_,fun p hp=>?_,?_⟩
    ·simp only[qaB,Jc,Ex,JA]
     have e:(WC b (Wy (forms.getD (y.form.toNat%forms.length) []) y.short true++Zd y.ops)).cur.phrases=b.cur.phrases:=rfl;rw[e];omega
    ·have e:(WC b (Wy (forms.getD (y.form.toNat%forms.length) []) y.short true++Zd y.ops)).cur.phrases=b.cur.phrases:=rfl
     rw[e]at hp;simp only[qaB]at hp;rcases JR.1 hp with z|z
     ·have:=h2 p (Ey _ z);omega
     ·rw[VM.1 z]
      have:=h2 (b.cur.phrases.getLastD ⟨[],[]⟩) (by
       rw[Bu,Ez h3];exact EA h3)
      simp only[Jc];omega
    ·simp[qaB]
   ·have e:(WC b (Wy (forms.getD (y.form.toNat%forms.length) []) y.short true++Zd y.ops)).cur.phrases=b.cur.phrases:=rfl
    refine⟨by rw[e,Jc,JA];omega,fun p hp=>?_,by rw[e];simp⟩;rw[e]at hp;rcases JR.1 hp with z|z
    ·have:=h2 p z;omega
    ·rw[VM.1 z];simp only;omega
  obtain⟨a,c⟩:=qhz forms l (XD forms b y) (n+1) (m+17) hs.1 hs.2.1 hs.2.2;rw[KY];exact⟨by rw[Es];omega,fun p hp=>by have:=c p hp;omega⟩
theorem qkS(x:XC)(verb:Str):(ZZ x verb).length<=16:=by
 have h:(if x.p=[]then[]else Zd (x.p.getD 0 noY).ops).length<=16:=by
  split
  ·exact Jr _
  ·exact(wordsE_ok _).1
 unfold ZZ;simp only;by_cases hc:verb=IFv/\(if x.p=[]then[]else Zd (x.p.getD 0 noY).ops)=[]
 ·rw[if_pos hc];exact(by decide:2<=16)
 ·rw[if_neg hc];exact h
theorem qlF(x:XC)(b:BuC)(forms:List Str):(Za x b forms).cur.phrases.length<=10/\∀p∈(Za x b forms).cur.phrases,p.toks.length<=100:=by
 have h0:(Xg (ZZ x b.cur.verb)).length<=17:=Go.Proofs.YtgiadjbiimkbiaaGreatDoor.lawToks_16 _ (qkS x _);unfold Za;simp only;split
 ·exact⟨by simp,fun p hp=>by rw[VM.1 hp];simp only;omega⟩
 ·have hl:((x.p.take 5).drop 1).length<=4:=by rw[K6,K5];omega
  obtain⟨a,c⟩:=qhz forms ((x.p.take 5).drop 1) {WC b (ZZ x b.cur.verb)with cur:={(WC b (ZZ x b.cur.verb)).cur with phrases:=[⟨[],Xg (ZZ x b.cur.verb)⟩]}} 1 17 (by simp) (fun p hp=>by rw[VM.1 hp];exact h0) (by simp);exact⟨Vd a (by omega),fun p hp=>Vd (c p hp) (by omega)⟩
end Go.Stm
namespace Go.Proofs.YtgiadjbiimkbiaaGreatDoor
open Go.AM
open Go.Proofs
open Go.Col (Str FaultC okF)
open Go.Tok (TokC)
open Go.Stm
open Go.RowKit (Below)
set_option maxRecDepth 100000
theorem qed{B h:AHeap}{k:Nat}{X:Blk}(hs:AM.Sub B h)(hk:h k=some X):AM.Sub (B.set k X) h:=fun j c hj=>by
 by_cases e:j=k
 ·subst e
  rw[Vg]at hj;cases hj;exact hk
 ·rw[Vf _ _ e]at hj
  exact hs j c hj
theorem CurS.upN{wz:World}{f:Nat}{c:Cur}{pv:AVal}{pp tp E:AHeap}(hc:CurS wz 0 c pv .nilSlice pp tp emp E)(hb:c.bodies=[]):CurS wz f c pv .nilSlice pp tp emp E:=
 ⟨hc.ph,⟨[],by rw[hb];rfl, .nil,fun b hb=>by cases hb⟩⟩
set_option maxHeartbeats 16000000 in
theorem c_xbuild(wz:World)(hm:MaxL wz)(ha:Asp wz)(h:AHeap)(f dx depth:Nat)(x:XC)(xp xb:AVal)(end_ last:Bool)
 (hY:YsV wz h xp x.p) (hZ:ZsV wz (XsV wz dx h) h xb x.b) (hPl:x.p.length<=1000000) (hBl:x.b.length<=1000000) (hsm:∀z∈x.b,qbA f z.2.2.1)
 (hb:depth<=4->qdg wz f dx (depth+1)) (hd:depth<=10) (hT:(XY (Xo f) x depth end_ last).text.length<=1000000000):
 ACall Tryz.prog wz 33 [.agg [.int .u8 x.verb.toNat,xp,xb, .bool x.cut], .int .i64 depth, .bool end_, .bool last] h
  (fun r h'=>∃pv bv pp tp bp E,r= .agg [.str (XY (Xo f) x depth end_ last).text, .str (XY (Xo f) x depth end_ last).cur.verb, .int .i64 (XY (Xo f) x depth end_ last).cur.line, .int .i64 (XY (Xo f) x depth end_ last).cur.col,pv,bv]/\CurS wz f (XY (Xo f) x depth end_ last).cur pv bv pp tp bp E/\AM.Sep [h,pp,tp,bp,E] h'):=by
 obtain⟨hyl,hys,hyc⟩:=hY.shape;obtain⟨hzl,hzs,hzc⟩:=hZ.shape;obtain⟨kx,hkx⟩:∃kx,kx=if 4<depth then 21 else x.verb.toNat%39:=⟨_,rfl⟩
 have hk39:kx<39:=by rw[hkx];split<;>omega
 obtain⟨r0,r1,r2,hrow,hr0,hr1,hr2,hF1,hF2,hr0a,hrl⟩:=qkE hk39;obtain⟨b1,hb1E⟩:∃b1,b1=Za x ⟨32::r0,⟨r0,0,0,[],[]⟩⟩ (Yo r1):=⟨_,rfl⟩
 obtain⟨b2,hb2E⟩:∃b2,b2=Zr (Xo f) x b1 (Yo r2) depth last:=⟨_,rfl⟩
 have hxE:XY (Xo f) x depth end_ last=if qbM b2 r0 x.cut end_ last=true then WC b2 (ENDw++r0)else b2:=by
  unfold XY rowOf;rw[<-hkx,hrow,hb2E,hb1E];rfl
 rw[hxE]at hT|-
 have hT2:b2.text.length<=1000000000:=by
  refine Vd ?_ hT;split
  ·exact(qiT _ _).length_le
  ·exact KM _
 have hpb:b1.text<+:b2.text:=by rw[hb2E];exact qiS _ _ _ _ _ _
 have hT1:b1.text.length<=1000000000:=Vd hpb.length_le hT2;obtain⟨v1,v2,v3,v4⟩:=qeN x ⟨32::r0,⟨r0,0,0,[],[]⟩⟩ (Yo r1);rw[<-hb1E]at v1 v2 v3 v4;simp only at v1 v2 v3 v4;obtain⟨f1,f2⟩:=qlF x ⟨32::r0,⟨r0,0,0,[],[]⟩⟩ (Yo r1);rw[<-hb1E]at f1 f2;obtain⟨u1,u2,u3,u4⟩:=qgl (Xo f) x b1 (Yo r2) depth last;rw[<-hb2E]at u1 u2 u3 u4;have hbO:b1.cur.verb=Uf\/qhB b1.cur.verb=true\/Yo r2≠[]->qdg wz f dx (depth+1):=fun hz=>by
  by_cases h4:depth<=4
  ·exact hb h4
  ·exfalso
   rw[if_pos (by omega)]at hkx;rw[hkx,row_21]at hrow;simp only[List.cons.injEq,and_true]at hrow;rw[v1,<-hrow.1,<-hrow.2.2]at hz;rcases hz with hz|hz|hz
   ·exact absurd hz (by decide)
   ·exact absurd hz (by decide)
   ·exact hz rfl
 have hx8:x.verb.toNat<256:=x.verb.toNat_lt;have hwx:IntKind.i64.wrap (x.verb.toNat:Int)=(x.verb.toNat:Int):=wrap_i64 (by omega) (by omega);have hrem:Ed (x.verb.toNat:Int) 39=((x.verb.toNat%39:Nat):Int):=by rw[Ee (by omega)];exact(Ef _ 39).symm
 have hwm:IntKind.i64.wrap ((x.verb.toNat%39:Nat):Int)=((x.verb.toNat%39:Nat):Int):=wrap_i64 (by omega) (by omega);refine Ql (n:=98) (rs:=[.cell 8 103]) Tryz.func33 rfl rfl rfl rfl (VF rfl) ?_;simp only[Qm];refine awp_rseq [1,2,3,4,8] (by rfl) fun K hK=>?_;refine Ue (by rfl) (by rfl) (by rfl) fun k0q0 hk0q0=>?_;try have hf_0q0:h k0q0=none:=by first|assumption|(simp only[VU]at hk0q0;simp only[hk0q0])
 skip;refine Xb qtf (cs:=[.str [], .str [], .int .i64 0, .int .i64 0, .nilSlice, .nilSlice]) (by rfl) fun k0q1 hk0q1=>?_;have ne_0q1_0q0:k0q1≠k0q0:=by simp only[VU]at hk0q1;simp only[hk0q1,ne_eq,not_false_eq_true]
 try have hf_0q1:h k0q1=none:=by first|assumption|(simp only[VU]at hk0q1;simp only[hk0q1])
 simp+decide only[qa,ev,putD,VG,VH,VI,Ka,VY,Jq,Nat.reduceAdd];apply hK;clear hK K;obtain⟨X,hX⟩:∃X:Blk,X=⟨[.int .u8 x.verb.toNat,xp,xb, .bool x.cut],0⟩:=⟨_,rfl⟩
 obtain⟨Z,hZ0⟩:∃Z:Blk,Z=⟨[.str [], .str [], .int .i64 0, .int .i64 0, .nilSlice, .nilSlice],0⟩:=⟨_,rfl⟩
 have hS1:=BL (BL (ps:=[h]) ⟨fun p hp=>by rw[VM.1 hp];exact Vh _,by simp⟩ hk0q0 X) (by rw[hX];exact hk0q1) Z;simp only[Kh,Je]at hS1;obtain⟨H1,hH1⟩:∃H1,H1=(h.set k0q0 X).set k0q1 Z:=⟨_,rfl⟩
 rw[<-hH1]at hS1;refine Bq (h':=H1) (by rw[hH1,hX,hZ0];exact Vh _) ?_;have hs_H1:AM.Sub h H1:=hS1.in_ (i:=0) rfl;have eb_0q0:H1 k0q0=some ⟨[.int .u8 x.verb.toNat,xp,xb, .bool x.cut],0⟩:=by rw[<-hX];exact hS1.at_ (i:=1) rfl
 refine awp_rseq [1,2,3,4,8,9] (by rfl) fun K hK=>?_;refine qY (by rfl) (by rfl) (c_rows wz _) fun x1q0 h1q0 hx1q0=>?_;obtain⟨kr,hkr,rfl,e1⟩:=hx1q0;have hS2:=BL hS1 hkr ⟨rowsT.map AVal.str,0⟩;rw[<-e1]at hS2;simp only[Kh,Je]at hS2;have hs_1:AM.Sub H1 h1q0:=by rw[e1];exact Vi hkr
 have hs_h1q0:Sub h h1q0:=Ba zqC hs_1;have hr_h1q0:Sub H1 h1q0:=Ba zqC hs_1;have eb_0q0:=hs_1 k0q0 _ zqA;simp+decide only[qa,ev,putD,VG,VH,VI,Ka,Kb,↓qf,qc];apply hK;clear hK K;have eb_0q0:h1q0 k0q0=some ⟨[.int .u8 x.verb.toNat,xp,xb, .bool x.cut],0⟩:=by rw[<-hX];exact hS2.at_ (i:=1) rfl
 have eb_r:=hS2.at_ (i:=3) rfl;have hs_H2:AM.Sub h h1q0:=hS2.in_ (i:=0) rfl;refine awp_rseq [1,2,3,4,8,9,10] (by rfl) fun K hK=>?_;simp+decide only[qa,ev,putD,VG,VH,VI,Ka,Kb,↓qC,qi,fa31_0,↓qI,Qc,qj ag5,↓qdd _ _ _ (qmb Tryz.underlying5 Tryz.underlying3),qaC,qej Tryz.underlying5 Tryz.underlying3,↓qg,qd,↓QB,Qo,Xr Tryz.underlying22,↓qo,qh,qN,cond_false,qz,qgN,↓qf,qc,Qj wz eb_0q0,VJ,Jq,QL,hwx];apply hK;clear hK K;refine qF ?_;refine awp_rseq [1,2,3,4,8,9,10,23] (by rfl) fun K hK=>?_;simp+decide only[qa,ev,qK,qG,putD,VG,VH,VI,Ka,Kb,↓qg,qd,↓qo,qh,qE,cond_false,qz,Yk];apply hK;clear hK K;refine Yy [1,2,3,4,8,9,10] (fun k:Nat=>[(1, .int .i64 depth),(2, .bool end_),(3, .bool last),(4, .ptr (.own k0q0) 0),(8, .ptr (.own k0q1) 0),(9, .slice (.own kr) 0 39 (.exact 39)),(10, .int .i64 k)]) (fun k:Nat=>h1q0) (fun k:Nat=>k=kx) ?_ ?_
 ·refine qM (b:=_) rfl (fun hb1=>?_) (fun hb1=>?_)
  ·try simp only[decide_eq_true_eq]at hb1
   refine Xa [1,2,3,4,8,9,10] (by rfl) ?_;simp+decide only[qa,ev,qK,qG,putD,VG,VI,Ka,Kb,↓qf,qc];try simp only[qR]
   first
   |exact⟨21,rfl,Vh _,by rw[hkx,if_pos (by omega)]⟩
   |exact⟨x.verb.toNat%39,rfl,Vh _,by rw[hkx,if_neg (by omega)]⟩
  ·try simp only[decide_eq_false_iff_not]at hb1
   refine qV ?_;try simp only[qR]
   first
   |exact⟨21,rfl,Vh _,by rw[hkx,if_pos (by omega)]⟩
   |exact⟨x.verb.toNat%39,rfl,Vh _,by rw[hkx,if_neg (by omega)]⟩
 ·rintro k rfl
  have hib:(0<=(k:Int)/\(k:Int)<((39:Nat):Int))=True:=eq_true ⟨by omega,by omega⟩;have hib2:(0<=(k:Int)/\(k:Int)<39)=True:=eq_true ⟨by omega,by omega⟩;have e5:rd wz h1q0 (.own kr) k= .str (rowsT.getD k []):=by
   rw[Qj wz eb_r,Ko,Ko,VE,JH (show k<rowsT.length by rw[qrV];exact hk39)];rfl
  refine awp_rseq [1,2,3,4,8,11] (by rfl) fun K hK=>?_;simp+decide only[ev,putD,VG,VH,Ka,Kb,↓qg,qd,↓qZ,Qc,qA Tryz.underlying22 sz9,↓qI,qj ag9,Jq,Qw,hib,e5,VN,V5,Jq];refine qY (by rfl) (by rfl) (qnK wz hm _ (rowsT.getD k []) 58 (by omega)) fun x5q4 h5q4 hx5q4=>?_;obtain⟨ks,hks,rfl,e6⟩:=hx5q4;rw[hrow]at e6|-
  have hS3:=BL hS2 hks ⟨[r0,r1,r2].map AVal.str,0⟩;rw[<-e6]at hS3;simp only[Kh,Je,Ke,Vj]at hS3;have hs_2:AM.Sub h1q0 h5q4:=by rw[e6];exact Vi hks
  simp only[KY,JN,Jq,Nat.reduceAdd];have hs_h5q4:Sub h h5q4:=Ba zqC hs_2;have hr_h5q4:Sub h1q0 h5q4:=Ba zqC hs_2;have eb_0q0:=hs_2 k0q0 _ zqA;simp+decide only[qa,ev,putD,VG,VH,VI,Ka,Kb,↓qf,qc];apply hK;clear hK K;have eb_0q0:h5q4 k0q0=some ⟨[.int .u8 x.verb.toNat,xp,xb, .bool x.cut],0⟩:=by rw[<-hX];exact hS3.at_ (i:=1) rfl
  have eb_s:=hS3.at_ (i:=4) rfl;have hs_H3:AM.Sub h h5q4:=hS3.in_ (i:=0) rfl;refine awp_rseq [1,2,3,4,8,11,12] (by rfl) fun K hK=>?_;simp+decide only[qa,ev,qK,qG,putD,VG,VH,VI,Ka,Kb,↓qg,qd,↓qZ,Qc,qA Tryz.underlying22 sz9,↓qI,qj ag9,↓qf,qc,Qj wz eb_s,VJ,Jq,Qw,Bg,K8];apply hK;clear hK K;refine awp_rseq [1,2,3,4,8,11,12,13] (by rfl) fun K hK=>?_;simp+decide only[ev,qK,qG,putD,VG,VH,Ka,Kb,↓qg,qd,↓qo,qh,qN,cond_false,Qp,YK,↓Zo,↓Xz,bld82_0,evP,Ke,Vj,qpu,Jq,KY,JN];repeat (with_reducible refine And.intro ?_ ?_;· first|trivial|omega|(intro hg;simp only[Ky,JF,Ji,VO,VL,VK,decide_eq_true_eq,decide_eq_false_iff_not,Xd]at hg;omega))
  refine Xb qtf (cs:=[.str [], .str [], .int .i64 0, .int .i64 0, .nilSlice, .nilSlice]) (by rfl) fun k7q5 hk7q5=>?_;have hn_7q5:h5q4 k7q5=none:=by first|assumption|(simp only[VU]at hk7q5;simp only[hk7q5])
  have hf_7q5:h k7q5=none:=VV hs_h5q4 hn_7q5;have ne_7q5_0q0:k7q5≠k0q0:=VW hn_7q5 eb_0q0;have ne_7q5_s:k7q5≠ks:=VW hn_7q5 eb_s;refine Qi (by rfl) (by rfl) zqA qkw (by rfl) (by rfl) zqD (Jr _) (by first|rfl|(simp+decide only[ev,putD,VG,VH,Ka,VY,QU,J4,VP,hys,hzs,qbV,YT,qrb])) ?_;simp only[VX,VY];simp+decide only[qa,ev,putD,VG,VH,VI,Ka,setAt,VZ,Kj,Jq,Nat.reduceAdd];apply hK;clear hK K;have hS4:=BL hS3 hn_7q5 (buB (32::r0) ⟨r0,0,0,[],[]⟩ .nilSlice .nilSlice);simp only[Kh,Je]at hS4;obtain⟨H4,hH4⟩:∃H4,H4=h5q4.set k7q5 (buB (32::r0) ⟨r0,0,0,[],[]⟩ .nilSlice .nilSlice):=⟨_,rfl⟩
  rw[<-hH4]at hS4;refine Bq (h':=H4) (by rw[hH4];exact Vh _) ?_;have hs_H4:AM.Sub h H4:=hS4.in_ (i:=0) rfl;have eb_0q0:H4 k0q0=some ⟨[.int .u8 x.verb.toNat,xp,xb, .bool x.cut],0⟩:=by rw[<-hX];exact hS4.at_ (i:=1) rfl
  have eb_s:=hS4.at_ (i:=4) rfl;have tn1:Int.toNat 1=1:=rfl;have tn2:Int.toNat 2=2:=rfl;refine qfr [0,1,2,3,4,5] [2,0,0,0,0,0] [none,none,none,none,none,some 4] 5 ((h.set k0q0 ⟨[.int .u8 x.verb.toNat,xp,xb, .bool x.cut],0⟩)) [1,2,3,4,8,11,12,13] mixed (by kernel_rfl) (by rfl) (qed hs_H4 eb_0q0) fun K hK=>?_;simp only[Yi,VB,Et,Kz,KN];simp+decide only[qa,ev,qK,qG,putD,VG,VH,Ka,Kb,Uy,Uw,WO,Ub,Wv,↓qI,Qc,Qz ag31 qot,↓qg,qd,↓qZ,qA Tryz.underlying22 sz9,qj ag9,Qj wz eb_s,XN,Qd,VJ,Kn,Jq,Nat.reduceAdd,YP,QL,Qw,allLive,J4,hyl,hzl,tn1,Nat.one_mul];refine qY (by rfl) (by rfl) (qrw wz hm _ r1 (by omega)) fun x8q4 h8q4 hx8q4=>?_;obtain⟨p8,hg8,hSp8⟩:=hx8q4;have hS5:=Er hS4 hSp8;simp only[Kh,Je]at hS5;have hs_8:AM.Sub H4 h8q4:=hSp8.in_ (i:=0) rfl;have hS5a:AM.Sep ([h,one k0q0 X,one k0q1 Z,one kr ⟨rowsT.map AVal.str,0⟩,one ks ⟨[.str r0, .str r1, .str r2],0⟩,p8]++[one k7q5 (buB (32::r0) ⟨r0,0,0,[],[]⟩ .nilSlice .nilSlice)]) h8q4:=hS5.pick [0,1,2,3,4,6,5] (by decide) (by simp);have hS5b:=hS5a.fold;have hsu:=XI hS5a.left;have hs_h8q4:Sub h h8q4:=Ba zqC hs_8;have hr_h8q4:Sub H4 h8q4:=Ba zqC hs_8;have eb_0q0:=hs_8 k0q0 _ zqA;have eb_s:=hs_8 ks _ zqA;rw[qa];refine And.intro (by first|exact Vh _|assumption|exact Vi (by assumption)) ?_;simp+decide only[putD,VG,if_false];refine qY (by rfl) (by rfl) (qsR wz hm ha _ h8q4 k7q5 x xp xb _ (Yo r1) (32::r0) r0 hS5b (hY.mono (hsu h (by simp))) hzl hzs hzc (hg8.isL (hsu p8 (by simp))) hF1 hPl (by rw[<-hb1E];exact hT1)) fun x8q5 h8q5 hx8q5=>?_;obtain⟨pv,pp,tp,E,hBu⟩:=hx8q5;rw[<-hb1E]at hBu;have hS6:=Ep hS5a.left hBu.sep;simp only[Kh,Je]at hS6;have hs_8b:AM.Sub (h.set k0q0 ⟨[.int .u8 x.verb.toNat,xp,xb, .bool x.cut],0⟩) h8q5:=qed (hS6.in_ (i:=0) rfl) (by rw[<-hX];exact hS6.at_ (i:=1) rfl);rw[qa];refine And.intro (by first|exact Vh _|assumption|exact Vi (by assumption)) ?_;simp+decide only[putD,VG,VI,Ka];apply hK;clear hK K;have hs_H6:AM.Sub h h8q5:=hS6.in_ (i:=0) rfl;have eb_0q0:h8q5 k0q0=some ⟨[.int .u8 x.verb.toNat,xp,xb, .bool x.cut],0⟩:=by rw[<-hX];exact hS6.at_ (i:=1) rfl
  have eb_s:=hS6.at_ (i:=4) rfl;refine qfr [0,1,2,3,5,6,4,7] [2,0,0,0,0,0,0,0] [none,none,none,none,none,none,none,some 6] 7 ((h.set k0q0 ⟨[.int .u8 x.verb.toNat,xp,xb, .bool x.cut],0⟩)) [2,3,4,8,12,13] mixed (by kernel_rfl) (by rfl) (qed hs_H6 eb_0q0) fun K hK=>?_;simp only[Yi,VB,Et,Kz,KN];simp+decide only[qa,ev,qK,qG,putD,VG,VH,Ka,Kb,Uy,Uw,WO,Ub,Wv,↓qI,Qc,Qz ag31 qot,↓qg,qd,↓qZ,qA Tryz.underlying22 sz9,qj ag9,Qj wz eb_s,XN,Qd,VJ,Kn,Jq,Nat.reduceAdd,YP,QL,Qw,allLive,J4,hyl,hzl,tn2];refine qY (by rfl) (by rfl) (qrw wz hm _ r2 (by omega)) fun x9q4 h9q4 hx9q4=>?_;obtain⟨p9,hg9,hSp9⟩:=hx9q4;have hS7:=Er hS6 hSp9;simp only[Kh,Je]at hS7;have hs_9:AM.Sub h8q5 h9q4:=hSp9.in_ (i:=0) rfl;have hS7a:AM.Sep ([h,one k0q0 X,one k0q1 Z,one kr ⟨rowsT.map AVal.str,0⟩,one ks ⟨[.str r0, .str r1, .str r2],0⟩,p8,p9]++[one k7q5 (buB b1.text b1.cur pv .nilSlice),pp,tp,emp,E]) h9q4:=hS7.pick [0,1,2,3,4,5,11,6,7,8,9,10] (by decide) (by simp);have hS7b:=hS7a.fold;have hsu9:=XI hS7a.left;have hbe:b1.cur.bodies=[]:=v2;have hs_h9q4:Sub h h9q4:=Ba zqC hs_9;have hr_h9q4:Sub h8q5 h9q4:=Ba zqC hs_9;have eb_0q0:=hs_9 k0q0 _ zqA;have eb_s:=hs_9 ks _ zqA;rw[qa];refine And.intro (by first|exact Vh _|assumption|exact Vi (by assumption)) ?_;simp+decide only[putD,VG,Ka];refine qY (by rfl) (by rfl) (c_bodies wz hm ha _ h9q4 k7q5 f dx depth x b1 xp xb _ pv pp tp E (Yo r2) last ⟨hS7b,hBu.cur.upN hbe⟩ hbe hyl hys hyc (hZ.mono (hsu9 h (by simp)) fun _ _ hz=>hz.mono (hsu9 h (by simp))) hsm (hg9.isL (hsu9 p9 (by simp))) hF2 hbO hd hBl (Vd f1 (by decide)) (fun p hp=>Vd (f2 p hp) (by decide)) (by rw[<-hb2E];exact hT2)) fun x9q7 h9q7 hx9q7=>?_;obtain⟨bv,bp,E2,hBu2⟩:=hx9q7;rw[<-hb2E]at hBu2;have hS8:=Ep hS7a.left hBu2.sep;simp only[Kh,Je]at hS8;have hs_9b:AM.Sub (h.set k0q0 ⟨[.int .u8 x.verb.toNat,xp,xb, .bool x.cut],0⟩) h9q7:=qed (hS8.in_ (i:=0) rfl) (by rw[<-hX];exact hS8.at_ (i:=1) rfl);rw[qa];refine And.intro (by first|exact Vh _|assumption|exact Vi (by assumption)) ?_;simp+decide only[putD,VG,VI,Ka];apply hK;clear hK K;have hs_H8:AM.Sub h h9q7:=hS8.in_ (i:=0) rfl;have eb_0q0:h9q7 k0q0=some ⟨[.int .u8 x.verb.toNat,xp,xb, .bool x.cut],0⟩:=by rw[<-hX];exact hS8.at_ (i:=1) rfl
  have eb_7q5:=hS8.at_ (i:=7) rfl;obtain⟨hbvl,hbvs,hbvc,nb⟩:=hBu2.cur.bv_len;refine awp_rseq [2,3,4,8,12,13,14] (by rfl) fun K hK=>?_;simp+decide only[ev,qK,qG,putD,VG,VH,Ka,Kb,↓qg,qd,↓qo,qh,qN,cond_false,Qp,YK,Qy,Jq,Jc,KY,JN];repeat (with_reducible refine And.intro ?_ ?_;· first|trivial|omega|(intro hg;simp only[Ky,JF,Ji,VO,VL,VK,decide_eq_true_eq,decide_eq_false_iff_not,Xd]at hg;omega))
  refine QS (V:= .bool (Lib.contains qcr ([32]++r0++[32]))) (by rfl) (by rfl) (YM wz hm _ qcr _ (by decide)) ?_;simp+decide only[qa,ev,putD,VG,VH,VI,Ka,Kb,↓qf,qc];apply hK;clear hK K;refine qF ?_;have hEN:(Lib.contains qcr (32::(r0++[32])) && (decide (0<(b2.cur.bodies.length:Int)) && (!last|| !x.cut||decide (r0=[80,69,82,70,79,82,77]))||decide ((b2.cur.bodies.length:Int)=0) && (!last && end_||x.cut)))=qbM b2 r0 x.cut end_ last:=by
   have z1:decide ((b2.cur.bodies.length:Int)=0)=decide (b2.cur.bodies=[]):=by rw[decide_eq_decide,<-EB];omega
   have z2:decide (0<(b2.cur.bodies.length:Int))= !decide (b2.cur.bodies=[]):=by
    rw[<-z1];by_cases hq:(b2.cur.bodies.length:Int)=0
    ·rw[decide_eq_true hq,decide_eq_false (by omega)];rfl
    ·rw[decide_eq_false hq,decide_eq_true (by omega)];rfl
   unfold qbM;rw[z1,z2,Ew];rfl
  have hcE:(if qbM b2 r0 x.cut end_ last=true then WC b2 (ENDw++r0)else b2).cur=b2.cur:=by split<;>rfl
  have hS8a:AM.Sep ([h,one k0q0 X,one k0q1 Z,one kr ⟨rowsT.map AVal.str,0⟩,one ks ⟨[.str r0, .str r1, .str r2],0⟩,p8,p9,pp,tp,bp,E2]++[one k7q5 (buB b2.text b2.cur pv bv)]) h9q7:=hS8.pick [0,1,2,3,4,5,6,8,9,10,11,7] (by decide) (by simp);have hS8b:=hS8a.fold;refine awp_rseq [8,12,13,93] (by kernel_rfl) fun K hK=>?_;try simp only[Kh,Je]
  simp+decide only[qa,ev,qK,qG,putD,VG,VH,VI,Ka,Kb,↓qg,qd,↓Xe,qi,agP,Qs,qW,qP,Xm,Ze,qH,qU,qeS,implies_true,Bool.not_not,YR,Wo,Wp,Yf,↓XJ,Xp,ZL,qbT,qmz,agL_ld6,qj qbB,↓qal,Qo,qcW,qcY,↓QJ,qh,qE,cond_false,XL,XM,qz,Yk,↓Xc,↓WR,Zn,YJ,qhN,qhO,fa31_3,qj ag4,↓WS,Qr,Qe,QT,qaH,qcs,qnD,QH,XO,qaz,qaA,Qy,Qp,XP,XV,↓QC,Qj wz eb_0q0,Qj wz eb_7q5,VJ,Kn,Jq,Nat.reduceAdd,YP,hbvl,nb];apply hK;clear hK K;refine Yy [8,13] (fun g:StH=>[(8, .ptr (.own k0q1) 0),(13, .ptr (.own k7q5) 0)]) (fun g:StH=>g.H) (fun g:StH=>g.f=(if qbM b2 r0 x.cut end_ last=true then WC b2 (ENDw++r0)else b2).text/\AM.Sep [h,pp,tp,bp,E2,one k0q1 Z,one k7q5 (buB g.f b2.cur pv bv)] g.H) ?_ ?_
  ·refine qM (b:=_) rfl (fun hb2=>?_) (fun hb2=>?_)
   ·rw[hEN]at hb2
    all_goals
     refine Xa [8,13] (by rfl) ?_;simp+decide only[ev,qK,qG,putD,VG,VH,Ka,Kb,↓qg,qd,↓qo,qh,qN,cond_false,Qp,YK,Jq,Nat.reduceAdd,KY,JN];repeat (with_reducible refine And.intro ?_ ?_;· first|trivial|omega|(intro hg;simp only[Ky,JF,Ji,VO,VL,VK,decide_eq_true_eq,decide_eq_false_iff_not,Xd]at hg;omega))
     refine qY (by rfl) (by rfl) (qmn wz _ h9q7 k7q5 b2.text (ENDw++r0) b2.cur pv bv hS8b hT2 (by rw[Jc,show ENDw.length=4 from rfl];omega)) fun x12q2 h12q2 hx12q2=>?_;have hS9:=Ep hS8a.left hx12q2;simp only[Kh,Je]at hS9;have hs_12:AM.Sub h h12q2:=hS9.in_ (i:=0) rfl;simp+decide only[qa,putD,VG,VI,Ka];try simp only[qR]
     first
     |exact⟨⟨b2.text++[32]++(ENDw++r0),_⟩,rfl,Vh _,by rw[if_pos hb2];rfl,hS9.pick [0,7,8,9,10,2,11] (by decide) (by simp)⟩
     |exact⟨⟨b2.text,_⟩,rfl,Vh _,by rw[if_neg (by rw[hb2];decide)],hS8.pick [0,8,9,10,11,2,7] (by decide) (by simp)⟩
   ·rw[hEN]at hb2
    all_goals
     refine qV ?_;try simp only[qR]
     first
     |exact⟨⟨b2.text++[32]++(ENDw++r0),_⟩,rfl,Vh _,by rw[if_pos hb2];rfl,hS9.pick [0,7,8,9,10,2,11] (by decide) (by simp)⟩
     |exact⟨⟨b2.text,_⟩,rfl,Vh _,by rw[if_neg (by rw[hb2];decide)],hS8.pick [0,8,9,10,11,2,7] (by decide) (by simp)⟩
  ·rintro⟨t,H9⟩ ⟨ht,hS10⟩
   simp only at ht hS10|-
   have hs_H9:AM.Sub h H9:=hS10.in_ (i:=0) rfl;have eb_7q5:=hS10.at_ (i:=6) rfl;have eb_0q1:H9 k0q1=some ⟨[.str [], .str [], .int .i64 0, .int .i64 0, .nilSlice, .nilSlice],0⟩:=by rw[<-hZ0];exact hS10.at_ (i:=5) rfl
   have ne_7q5_0q1:k7q5≠k0q1:=hS10.ne (i:=6) (j:=5) rfl rfl (by decide);obtain⟨hpvl,hpvs,hpvc⟩:=hBu2.cur.pv_ok;skip;refine awp_rseq [8] (by rfl) fun K hK=>?_;simp+decide only[ev,putD,VG,VH,Ka,Kb,↓qI,Qc,Qz ag103 qkw,Qj wz eb_7q5,Qd,VJ,Kn,Jq,Nat.reduceAdd,QL,Qw,allLive,J4,hpvl,hbvl];refine Qi (by rfl) (by rfl) zqA qkw (by rfl) (by rfl) zqD (Jr _) (by first|rfl|(simp+decide only[ev,VH,Ka,VY,QU,J4,qbV,YT,hpvs,hbvs])) ?_;simp only[VY];simp+decide only[qa,ev,putD,VH,VI,Ka,setAt,VZ,Kj,Jq,Nat.reduceAdd];apply hK;clear hK K;refine Qn ?_;refine Qu (?_) ?_
   ·simp+decide only[Wz,YU,VH,if_true,and_true,YU,Qz ag103 qkw,qfd,Qd,VJ,Kn,Jq,Nat.reduceAdd,QL,Qw,allLive,J4,Qd,VJ,Kn,Jq,Nat.reduceAdd,QL,Qw,allLive,J4,hpvl,hbvl]
   simp+decide only[VH,if_true,qiP,YU,Qz ag103 qkw,qfd,Qd,VJ,Kn,Jq,Nat.reduceAdd,QL,Qw,allLive,J4,Qd,VJ,Kn,Jq,Nat.reduceAdd,QL,Qw,allLive,J4,hpvl,hbvl];have hS11:=hS10.put (i:=5) rfl (buB t b2.cur pv bv);simp only[VZ,Kj]at hS11;rw[hcE,<-ht];exact⟨_,Vh _,pv,bv,pp,tp,bp,E2,rfl,hBu2.cur,hS11.pick [0,1,2,3,4] (by decide) (by simp)⟩
end Go.Proofs.YtgiadjbiimkbiaaGreatDoor
namespace Go.Stm
open Go.Col (Str)
open Go.Tok
set_option maxRecDepth 100000
def noX:XC:= .mk 0 [] [] false
theorem qaW(B:List XC->Nat->Bool->Str×List StC)(l:List XC)(depth:Nat)(last:Bool)(n:Nat)(T:Str)(S:List StC)(h:S.length<l.length)(h4:S.length<4):
 ZE B l depth last (n+1) (T,S)=ZE B l depth last n (T++(XY B (l.getD S.length noX) depth (decide (S.length+1=l.length)||decide (S.length=3)) (last && (decide (S.length+1=l.length)||decide (S.length=3)))).text,
  S++[(XY B (l.getD S.length noX) depth (decide (S.length+1=l.length)||decide (S.length=3)) (last && (decide (S.length+1=l.length)||decide (S.length=3)))).cur.done]):=by
 rw[ZE];simp only;rw[if_pos ⟨h,h4⟩];rfl
theorem qaV(B:List XC->Nat->Bool->Str×List StC)(l:List XC)(depth:Nat)(last:Bool):∀(n:Nat) (T:Str) (S:List StC),¬(S.length<l.length/\S.length<4)->ZE B l depth last n (T,S)=(T,S)
 |0,_,_,_=>rfl
 |n+1,T,S,h=>by rw[ZE];exact if_neg h
theorem qdP(B:List XC->Nat->Bool->Str×List StC)(l:List XC)(depth:Nat)(last:Bool):∀(n:Nat) (r:Str×List StC),r.1<+:(ZE B l depth last n r).1
 |0,r=>Ei _
 |n+1,r=>by
  rw[ZE];simp only;split
  ·refine List.IsPrefix.trans ?_ (qdP B l depth last n _)
   exact Eh _ _
  ·exact Ei _
end Go.Stm
namespace Go.Proofs.YtgiadjbiimkbiaaGreatDoor
open Go.AM
open Go.Proofs
open Go.Col (Str FaultC okF)
open Go.Tok (TokC)
open Go.Stm
open Go.RowKit (Below)
set_option maxRecDepth 100000
def qoN:XC×AVal×AVal:=(noX, .nilSlice, .nilSlice)
theorem x_at{wz:World}{h:AHeap}{lc:AM.Loc}{o n:Nat}{c:Cap}{qs:List (XC×AVal×AVal)}(ht:IsL wz h 4 (.slice lc o n c) (qs.map xC)){i:Nat}(hi:i<qs.length):
 rd wz h lc (o+i*4)= .int .u8 (qs.getD i qoN).1.verb.toNat/\rd wz h lc (o+i*4+1)=(qs.getD i qoN).2.1/\rd wz h lc (o+i*4+2)=(qs.getD i qoN).2.2/\rd wz h lc (o+i*4+3)= .bool (qs.getD i qoN).1.cut:=by
 have he:=ht.elem (i:=i) (by rw[Jo];exact hi);rw[getD_map qoN hi]at he;simp only[Qd,xC,List.cons.injEq,and_true]at he;exact he
structure BgG where
 T:Str
 qs:List (StC×AVal×AVal)
 ov:AVal
 op:AHeap
 E:AHeap
 H:AHeap
theorem contV{wz:World}{f k1 k2:Nat}{H:AHeap}(h1:H k1=some ⟨[.str [], .nilSlice],0⟩)(h2:H k2=some ⟨[.str contC.verb, .int .i64 0, .int .i64 0, .slice (.own k1) 0 1 (.exact 1), .nilSlice],0⟩):StsV wz (f+1) H (.slice (.own k2) 0 1 (.exact 1)) [contC]:=
 ⟨[(contC, .slice (.own k1) 0 1 (.exact 1), .nilSlice)],rfl,Bh (xs:=[[.str contC.verb, .int .i64 0, .int .i64 0, .slice (.own k1) 0 1 (.exact 1), .nilSlice]]) h2 (fun x hx=>by rw[VM.1 hx];rfl) rfl rfl (.exact 1) (KM _),fun q hq=>by
  rw[VM.1 hq];exact⟨⟨[(⟨[],[]⟩, .nilSlice)],rfl,Bh (xs:=[[.str [], .nilSlice]]) h1 (fun x hx=>by rw[VM.1 hx];rfl) rfl rfl (.exact 1) (KM _),fun p hp=>by rw[VM.1 hp];exact .nil⟩,⟨[],rfl, .nil,fun p hp=>by cases hp⟩⟩⟩
set_option maxHeartbeats 16000000 in
theorem c_build1(wz:World)(hm:MaxL wz)(ha:Asp wz)(f dx depth:Nat)(hb:depth<=4->∀dx',qdg wz f dx' (depth+1))(hd:depth<=10):qdg wz (f+1) dx depth:=by
 intro h v l last hX hsm hT;obtain⟨hvl,hvs,hvc⟩:=hX.shape;obtain⟨qs,hqe,hqL,hqo⟩:∃qs:List (XC×AVal×AVal),l=qs.map (·.1)/\IsL wz h 4 v (qs.map xC)/\∀q∈qs,YsV wz h q.2.1 q.1.p/\∃dx',ZsV wz (XsV wz dx' h) h q.2.2 q.1.b:=by
  cases dx with
  |zero=>exact⟨[],hX.1,hX.2,fun q hq=>by cases hq⟩
  |succ dx=>
   obtain⟨qs,a,b,c⟩:=hX;exact⟨qs,a,b,fun q hq=>⟨(c q hq).1,dx,(c q hq).2⟩⟩
 have nv:∀H:AHeap,Zh Tryz.prog H 35 v=⟨True, .int .i64 qs.length⟩:=fun H=>by have:=hqL.len Tryz.underlying35 H;rwa [Jo]at this
 have hln:l.length=qs.length:=by rw[hqe,Jo]
 have hl6:=hsm.1;obtain⟨R,hR⟩:∃R,R=ZE (Xo f) l depth last 4 ([],[]):=⟨_,rfl⟩
 have hBE:Xo (f+1) l depth last=if R.2=[]then([32,67,79,78,84,73,78,85,69],[contC])else R:=by rw[hR];rfl
 rw[hBE]at hT|-
 have hRT:R.1.length<=1000000000:=by
  by_cases hz:R.2=[]
  ·have hR0:R=([],[]):=by
    rw[hR];by_cases hl:l.length=0
    ·exact qaV _ _ _ _ _ _ _ (by simp[hl])
    ·exfalso
     rw[hR,qaW _ _ _ _ _ _ _ (by simp only[JN];omega) (by decide)]at hz;have hp:∀(n:Nat) (r:Str×List StC),r.2≠[]->(ZE (Xo f) l depth last n r).2≠[]:=by
      intro n;induction n with
      |zero=>intro r h;exact h
      |succ n ih=>
       intro r h;rw[ZE];simp only;split
       ·exact ih _ (by simp)
       ·exact h
     exact hp _ _ (by simp) hz
   rw[hR0];exact Jr _
  ·rw[if_neg hz]at hT;exact hT
 refine Ql (n:=61) (rs:=[.tmp 6, .tmp 7]) Tryz.func15 rfl rfl rfl rfl (VF rfl) ?_;simp only[Qm];refine awp_rseq [0,1,2] (by rfl) fun K hK=>?_;simp+decide only[qa,ev,qK,qG,putD,VG,VI,Ka,Kb,↓qf,qc,Jq,Nat.reduceAdd];apply hK;clear hK K;refine awp_rseq [0,1,2,8] (by rfl) fun K hK=>?_;simp+decide only[qa,ev,qK,qG,putD,VG,VI,Ka,Kb,↓qf,qc];apply hK;clear hK K;refine awp_rseq [0,1,2,8,9] (by rfl) fun K hK=>?_;simp+decide only[qa,ev,qK,qG,putD,VG,VI,Ka,Kb,↓qf,qc];apply hK;clear hK K;refine qF ?_;refine awp_rseq [0,1,2,8,9,10] (by rfl) fun K hK=>?_;simp+decide only[qa,ev,qK,qG,putD,VG,VI,Ka,Kb,↓qf,qc];apply hK;clear hK K;refine Qb ?_;refine QN [0,1,2,8,9,10] (fun g:BgG=>[(0,v),(1, .int .i64 depth),(2, .bool last),(8, .str g.T),(9,g.ov),(10, .int .i64 g.qs.length)]) (fun g:BgG=>g.H) (fun g:BgG=>AM.Sep [h,g.op,g.E] g.H/\GrowV 5 g.ov g.op (g.qs.map qbj)/\(∀q∈g.qs,PhV wz g.E q.2.1 q.1.phrases/\BdV wz (StsV wz f g.E) g.E q.2.2 q.1.bodies)/\g.qs.length<=4/\R=ZE (Xo f) l depth last (4-g.qs.length) (g.T,g.qs.map (·.1))) (fun g:BgG=>4-g.qs.length) ⟨[],[], .nilSlice,emp,emp,h⟩ (by rfl) (Vh _) ⟨(BU (BU (ps:=[h]) ⟨fun p hp=>by rw[VM.1 hp];exact Vh _,by simp⟩)),GrowV.nil,(fun q hq=>by cases hq),Jr _,hR⟩ ?_;rintro⟨T,ps,ov,op,E,H⟩ ⟨hS,hg,hpq,hp4,hgo⟩;simp only at hS hg hpq hp4 hgo|-
 have hs_H:AM.Sub h H:=hS.in_ (i:=0) rfl;have hovl:=hg.live;have hovs:=hg.scal;have nov:∀H':AHeap,Zh Tryz.prog H' 45 ov=⟨True, .int .i64 ps.length⟩:=fun H'=>by have:=(hg.isL (wz:=wz) (Vh _)).len Tryz.underlying45 H';rwa [Jo]at this
 refine qF ?_;refine awp_rseq [0,1,2,8,9,10,20] (by rfl) fun K hK=>?_;simp+decide only[qa,ev,qK,qG,putD,VG,VH,VI,Ka,Kb,↓qg,qd,↓QB,Qo,↓qo,qh,qN,cond_false,qz,Xt,↓Xc,agP,Qs,qW,qP,qH,implies_true,↓QJ,qE,XL,XM,↓QC,Qr,Qe,QT,QH,nv];apply hK;clear hK K;refine qM (b:=_) rfl (fun hb1=>?_) (fun hb1=>?_)
 ·try simp only[decide_eq_true_eq,Ky]at hb1
  have hi:ps.length<qs.length:=by omega
  have hi4:ps.length<4:=by omega
  obtain⟨lc,o,cc,hpe⟩:=hqL.open (fun e=>by rw[VD]at e;rw[e]at hi;cases hi);have hq2:=hqL.mono hs_H;rw[hpe]at hq2;obtain⟨e0,e1,e2,e3⟩:=x_at hq2 hi;obtain⟨q,hqq⟩:∃q,q=qs.getD ps.length qoN:=⟨_,rfl⟩
  rw[<-hqq]at e0 e1 e2 e3;have hqm:q∈qs:=by rw[hqq,Ko,JH hi];exact VA hi
  obtain⟨hqY,dx',hqZ⟩:=hqo q hqm;obtain⟨hyl,hys,hyc⟩:=hqY.shape;obtain⟨hzl,hzs,hzc⟩:=hqZ.shape;have hxi:l.getD ps.length noX=q.1:=by rw[hqe,hqq,Ko,Ko,VE,JH hi];rfl
  have hxm:q.1∈l:=by rw[hqe];exact Bp hqm
  obtain⟨hx1,hx2,hx3⟩:=hsm.2 q.1 hxm;obtain⟨e,he⟩:∃e,e=(decide (ps.length+1=l.length)||decide (ps.length=3)):=⟨_,rfl⟩
  obtain⟨b,hbE⟩:∃b,b=XY (Xo f) q.1 depth e (last && e):=⟨_,rfl⟩
  have hgo2:R=ZE (Xo f) l depth last (3-ps.length) (T++b.text,ps.map (·.1)++[b.cur.done]):=by
   rw[hgo,show 4-ps.length=3-ps.length+1 by omega,qaW _ _ _ _ _ _ _ (by rw[Jo];omega) (by rw[Jo];omega),Jo,hxi,<-he,<-hbE]
  have hpre:T++b.text<+:R.1:=by rw[hgo2];exact qdP _ _ _ _ _ (T++b.text,_)
  have hlen:=hpre.length_le;rw[Jc]at hlen;have heI:(decide ((ps.length:Int)=(qs.length:Int)-1)||decide ((ps.length:Int)=3))=e:=by
   have h1:decide ((ps.length:Int)=(qs.length:Int)-1)=decide (ps.length+1=l.length):=by rw[decide_eq_decide,hln];omega
   have h2:decide ((ps.length:Int)=3)=decide (ps.length=3):=by rw[decide_eq_decide];omega
   rw[he,h1,h2]
  have hwl:IntKind.i64.wrap ((qs.length:Int)-1)=(qs.length:Int)-1:=wrap_i64 (by omega) (by omega);have hwi:IntKind.i64.wrap ((ps.length:Int)+1)=((ps.length+1:Nat):Int):=by rw[wrap_i64 (by omega) (by omega)];omega
  have hib:(0<=(ps.length:Int)/\(ps.length:Int)<(qs.length:Int))=True:=eq_true ⟨by omega,by omega⟩;refine qV ?_;change Awp _ _ _ _ _ _ _;refine qF ?_;refine Qb ?_;refine awp_rseq [0,1,2,8,9,10,11] (by rfl) fun K hK=>?_;simp+decide only[qa,ev,qK,qG,putD,VG,VH,VI,Ka,Kb,↓qg,qd,↓QB,Qo,↓qo,qh,qE,cond_false,qz,Wl,qN,XV,↓Xc,agP,Qs,qW,qP,qU,implies_true,↓QJ,XL,XM,↓QC,Qr,Qe,XZ,XO,↓qf,qc,nv,hwl,heI];apply hK;clear hK K;refine awp_rseq [0,1,2,8,9,10,12] (by rfl) fun K hK=>?_;simp+decide only[ev,qK,qG,putD,VG,VH,Ka,Kb,↓qg,qd,↓qZ,Qc,qA Tryz.underlying35 qot,↓qI,Qz ag31 qot,↓Xc,agP,Qs,qW,qP,qH,implies_true,J4,↓QC,Qr,Qe,QT,QH,Qd,YP,QL,allLive,J4,hpe,e0,e1,e2,e3,hib,hyl,hzl,VN,Jo];refine qY (by rfl) (by rfl) (c_xbuild wz hm ha _ f dx' depth q.1 q.2.1 q.2.2 e (last && e) (hqY.mono hs_H) (hqZ.mono hs_H fun _ _ hz=>hz.mono hs_H) hx1 hx2 hx3 (fun h4=>hb h4 dx') hd (by rw[<-hbE];omega)) fun x7q10 h7q10 hx7q10=>?_;rw[<-hbE]at hx7q10;obtain⟨pv,bv,pp,tp,bp,E2,rfl,hcur,hS2⟩:=hx7q10;have hS3:=Er hS hS2;simp only[Kh,Je]at hS3;have hs_7:AM.Sub H h7q10:=hS2.in_ (i:=0) rfl;obtain⟨hpvl,hpvs,hpvc⟩:=hcur.pv_ok;obtain⟨hbvl,hbvs,hbvc,-⟩:=hcur.bv_len;have hs_h7q10:Sub h h7q10:=Ba zqC hs_7;have hr_h7q10:Sub H h7q10:=Ba zqC hs_7;refine Xb qtf (cs:=[.str [], .str [], .int .i64 0, .int .i64 0, .nilSlice, .nilSlice]) (by rfl) fun k7q11 hk7q11=>?_;have hn_7q11:h7q10 k7q11=none:=by first|assumption|(simp only[VU]at hk7q11;simp only[hk7q11])
  have hf_7q11:h k7q11=none:=VV hs_h7q10 hn_7q11;refine Qi (by rfl) (by rfl) zqA qkw (by rfl) (by rfl) zqD (Jr _) (by first|rfl|(simp+decide only[ev,putD,VG,VH,Ka,VY,QU,J4,qbV,YT,hpvs,hbvs])) ?_;simp only[VX,VY];simp+decide only[qa,ev,putD,VG,VH,VI,Ka,setAt,VZ,Kj,Jq,Nat.reduceAdd];apply hK;clear hK K;have hS4:=BL hS3 hn_7q11 (buB b.text b.cur pv bv);simp only[Kh,Je]at hS4;obtain⟨H4,hH4⟩:∃H4,H4=h7q10.set k7q11 (buB b.text b.cur pv bv):=⟨_,rfl⟩
  rw[<-hH4]at hS4;refine Bq (h':=H4) (by rw[hH4];exact Vh _) ?_;have hs_H4:AM.Sub h H4:=hS4.in_ (i:=0) rfl;have eb_7q11:=hS4.at_ (i:=7) rfl;refine awp_rseq [0,1,2,8,9,10,12] (by rfl) fun K hK=>?_;simp+decide only[qa,ev,putD,VG,VH,VI,Ka,Kb,↓qg,qd,↓qC,qi,qlY,↓qI,Qc,qj ag9,↓qo,qh,qN,cond_false,Qp,YK,↓qf,qc,Qj wz eb_7q11,VJ,Jq,Qw];repeat (with_reducible refine And.intro ?_ ?_;· first|trivial|omega|(intro hg;simp only[Ky,JF,Ji,VO,VL,VK,decide_eq_true_eq,decide_eq_false_iff_not,Xd]at hg;omega))
  apply hK;clear hK K;refine Xa [0,1,2,8,9,10] (by rfl) ?_;simp+decide only[ev,putD,VG,VH,Ka,Kb,↓qg,qd,↓qC,qi,YR,↓qI,Qc,Qz qeJ Yv,Qj wz eb_7q11,Qd,VJ,Kn,Jq,Nat.reduceAdd,QL,Qw,allLive,J4,hpvl,hbvl];refine Qh (cs:=[.str b.cur.verb, .int .i64 b.cur.line, .int .i64 b.cur.col,pv,bv]) (by kernel_rfl) fun k9q3 hk9q3=>?_;have hn_9q3:H4 k9q3=none:=by first|assumption|(simp only[VU]at hk9q3;simp only[hk9q3])
  have hf_9q3:h k9q3=none:=VV hs_H4 hn_9q3;have ne_9q3_7q11:k9q3≠k7q11:=VW hn_9q3 eb_7q11;refine ZM (es:=5) (v:=ov) (p:=op) (xs:=ps.map qbj) (ys:=[[.str b.cur.verb, .int .i64 b.cur.line, .int .i64 b.cur.col,pv,bv]]) (i:=1) (by rfl) (by rfl) Tryz.underlying45 Tryz.underlying45 (fun k e=>by cases e) Yv by82 qhT (by rfl) (by decide) (by rfl) hg rfl (hS4.forget (Vi hn_9q3)) (by rfl) (Bh (Vg _ _ _) (fun x hx=>by rw[VM.1 hx];rfl) (by rfl) (by show(true && (true && (true && (pv.live && (bv.live && true)))))=true;rw[hpvl,hbvl];rfl) (.exact 1) (KM _)) (by show(true && (true && (true && (pv.scal && (bv.scal && true)))))=true;rw[hpvs,hbvs];rfl) (by simp) (by simp only[Jo,JA];omega) (by simp only[Jo,JA];omega) fun ov2 op2 h5 hg2 _ hS5=>?_;have hov2l:=hg2.live;simp+decide only[qa,ev,putD,VG,VH,VI,Ka,Kb,↓qf,qc];change Awp _ _ _ _ _ _ _;refine Xa [0,1,2,8,9,10] (by rfl) ?_;simp+decide only[qa,ev,qK,qG,putD,VG,VH,VI,Ka,Kb,↓qg,qd,↓qo,qh,qE,cond_false,qz,QW,↓qf,qc,hwi];try simp only[qR]
  refine⟨⟨T++b.text,ps++[(b.cur.done,pv,bv)],ov2,op2,WB [E,pp,tp,bp,E2],h5⟩,by simp only[Jc,JA,hpe,Jo];rfl,Vh _,⟨?_,by rw[Vr];exact hg2,?_,by simp only[Jc,JA];omega,?_⟩,by simp only[Jc,JA];omega⟩
  ·have hS6:=(BF (ps:=[E,pp,tp,bp,E2]) (hS5.pick [2,3,4,5,6,0,1] (by decide) (by simp))).pick [1,2,0] (by decide) (by simp)
   exact hS6
  ·have hsu:=XI (ps:=[E,pp,tp,bp,E2]) (hS5.pick [2,3,4,5,6] (by decide) (by simp)).2
   intro q hq;rcases JR.1 hq with hq|hq
   ·exact⟨(hpq q hq).1.mono (hsu E (by simp)),(hpq q hq).2.mono (hsu E (by simp)) fun _ _ hz=>hz.mono (hsu E (by simp))⟩
   ·rw[VM.1 hq]
    exact⟨qmh hcur (hsu pp (by simp)) (hsu tp (by simp)) (hsu E2 (by simp)),qmi hcur (hsu bp (by simp)) (hsu E2 (by simp))⟩
  ·rw[hgo2,Vr]
   simp only[Jc,JA];rw[show 4-(ps.length+1)=3-ps.length by omega];rfl
 ·try simp only[decide_eq_false_iff_not,VO]at hb1
  have hgoS:R=(T,ps.map (·.1)):=by
   rw[hgo];exact qaV _ _ _ _ _ _ _ (by rw[Jo];omega)
  refine QI ?_;change Awp _ _ _ _ _ _ _;refine qF ?_;refine awp_rseq [8,9,54] (by rfl) fun K hK=>?_;simp+decide only[qa,ev,qK,qG,putD,VG,VH,VI,Ka,Kb,↓qg,qd,↓QB,Qo,↓qo,qh,qE,cond_false,qz,XV,nov];apply hK;clear hK K;refine qM (b:=_) rfl (fun hb2=>?_) (fun hb2=>?_)
  ·try simp only[decide_eq_true_eq]at hb2
   have hp0:ps=[]:=Kg (by omega);refine awp_rseq [6,7] (by rfl) fun K hK=>?_;simp+decide only[ev,qK,qG,putD,VG,VH,if_false,Kb,↓Zo,↓Xz,qpt,evP,Vj];refine Qh (cs:=[.str [], .nilSlice]) (by kernel_rfl) fun k11q1 hk11q1=>?_;have hn_11q1:H k11q1=none:=by first|assumption|(simp only[VU]at hk11q1;simp only[hk11q1])
   have hf_11q1:h k11q1=none:=VV hs_H hn_11q1;simp+decide only[ev,qK,qG,putD,VG,VH,Ka,Kb,↓Zo,↓Xz,qle,evP,Ke,Vj,qgu];refine Qh (cs:=[.str contC.verb, .int .i64 0, .int .i64 0, .slice (.own k11q1) 0 1 (.exact 1), .nilSlice]) (by kernel_rfl) fun k11q3 hk11q3=>?_;have ne_11q3_11q1:k11q3≠k11q1:=by simp only[VU]at hk11q3;simp only[hk11q3,ne_eq,not_false_eq_true]
   have hn_11q3:H k11q3=none:=by first|assumption|(simp only[VU]at hk11q3;simp only[hk11q3])
   have hf_11q3:h k11q3=none:=VV hs_H hn_11q3;simp+decide only[qa,ev,qK,qG,putD,VG,VH,VI,Ka,Kb,↓qf,qc];apply hK;clear hK K;refine Qn ?_;try simp only[QM]
   refine Qu (qJ (qJ (qO))) ?_;simp+decide only[VH,Ka,Zm];have hR2:R.2=[]:=by rw[hgoS,hp0];rfl
   rw[if_pos hR2];obtain⟨B1,hB1⟩:∃B1:Blk,B1=⟨[.str [], .nilSlice],0⟩:=⟨_,rfl⟩
   obtain⟨B2,hB2⟩:∃B2:Blk,B2=⟨[.str contC.verb, .int .i64 0, .int .i64 0, .slice (.own k11q1) 0 1 (.exact 1), .nilSlice],0⟩:=⟨_,rfl⟩
   have hA:=BL (BL (hS.pick [0] (by decide) (by simp)) hk11q1 B1) (by rw[hB1];exact hk11q3) B2;simp only[Kh,Je,Ke,Vj,VJ]at hA;have hsu:=XI (ps:=[one k11q1 B1,one k11q3 B2]) (hA.pick [1,2] (by decide) (by simp)).2;refine⟨_,Vh _,_,WB [one k11q1 B1,one k11q3 B2],rfl,contV ((hsu (one k11q1 B1) (by simp) k11q1 _ (one_at _ _)).trans (by rw[hB1])) ((hsu (one k11q3 B2) (by simp) k11q3 _ (one_at _ _)).trans (by rw[hB2])),?_⟩;have hB:=(BF (ps:=[one k11q1 B1,one k11q3 B2]) (hA.pick [1,2,0] (by decide) (by simp))).pick [1,0] (by decide) (by simp);rw[hB1,hB2]at hB|-
   exact hB
  ·try simp only[decide_eq_false_iff_not]at hb2
   have hp0:ps≠[]:=fun e=>hb2 (by rw[e];rfl);refine qV ?_;change Awp _ _ _ _ _ _ _;refine awp_rseq [6,7] (by rfl) fun K hK=>?_;simp+decide only[qa,ev,putD,VG,VH,VI,Ka,Kb,↓qg,qd,↓qf,qc];apply hK;clear hK K;refine Qn ?_;refine Qu (qJ (qJ (qO))) ?_;simp+decide only[VH,Ka,Zm];have hR2:R.2≠[]:=by
    rw[hgoS];exact fun e=>hp0 (VD.1 e)
   rw[if_neg hR2,hgoS];have hsu:=XI (ps:=[op,E]) (hS.pick [1,2] (by decide) (by simp)).2;exact⟨_,Vh _,ov,WB [op,E],rfl,⟨ps,rfl,hg.isL (hsu op (by simp)),fun q hq=>⟨(hpq q hq).1.mono (hsu E (by simp)),(hpq q hq).2.mono (hsu E (by simp)) fun _ _ hz=>hz.mono (hsu E (by simp))⟩⟩,(BF (ps:=[op,E]) (hS.pick [1,2,0] (by decide) (by simp))).pick [1,0] (by decide) (by simp)⟩
theorem qmo(wz:World)(hm:MaxL wz)(ha:Asp wz):∀(f dx depth:Nat),depth<=5->6<=f+depth->qdg wz f dx depth
 |0,_,_,h5,h6=>by omega
 |f+1,dx,depth,h5,h6=>c_build1 wz hm ha f dx depth (fun h4 dx'=>qmo wz hm ha f dx' (depth+1) (by omega) (by omega)) (by omega)
end Go.Proofs.YtgiadjbiimkbiaaGreatDoor
namespace Go.Stm
open Go.Col (Str)
open Go.Tok
open Go.Proofs.YtgiadjbiimkbiaaGreatDoor (qbA)
set_option maxRecDepth 100000
section
variable (W:List XC->Int->Int) (most:Int)
def Uj:List ZC->Int->Int
 |[],n=>n
 |z::zs,n=>if n<=most then Uj zs (n+W z.2.2.1 (most-n))else n
def Ur(deep:Bool)(x:XC)(n:Int):Int:=
 let n1:=n+((x.p.length / 2:Nat):Int)+((x.b.length / 2:Nat):Int)
 if deep=true then Uj W most x.b n1 else n1
def Wh(deep:Bool):List XC->Int->Int
 |[],n=>n
 |x::xs,n=>if n<=most then Wh deep xs (Ur W most deep x n)else n
end
def Yn:Nat->List XC->Int->Int
 |0,l,most=>Wh (fun _ _=>0) most false l l.length
 |f+1,l,most=>Wh (Yn f) most true l l.length
def LenX(m:Nat):Nat->List XC->Prop
 |0,l=>l.length<=m/\∀x∈l,x.p.length<=m/\x.b.length<=m
 |f+1,l=>l.length<=m/\∀x∈l,x.p.length<=m/\x.b.length<=m/\∀z∈x.b,LenX m f z.2.2.1
theorem LenX.len{m:Nat}:∀{f:Nat} {l:List XC},LenX m f l->l.length<=m
 |0,_,h=>h.1
 |_+1,_,h=>h.1
theorem LenX.xs{m:Nat}:∀{f:Nat} {l:List XC},LenX m f l->∀x∈l,x.p.length<=m/\x.b.length<=m
 |0,_,h,x,hx=>h.2 x hx
 |_+1,_,h,x,hx=>⟨(h.2 x hx).1,(h.2 x hx).2.1⟩
theorem qkr{W:List XC->Int->Int}{most:Int}{m:Nat}:∀{zs:List ZC} {n:Int},(∀z∈zs,∀k:Int,0<=k->k<=most->0<=W z.2.2.1 k/\W z.2.2.1 k<=k+m)->0<=n->n<=most+m->n<=Uj W most zs n/\Uj W most zs n<=most+m
 |[],n,_,_,h=>⟨EC _,h⟩
 |z::zs,n,hW,h0,h=>by
  rw[Uj];split
  ·rename_i hn
   obtain⟨a,b⟩:=hW z Jf (most-n) (by omega) (by omega);obtain⟨c,d⟩:=qkr (zs:=zs) (n:=n+W z.2.2.1 (most-n)) (fun z hz=>hW z (Jg _ hz)) (by omega) (by omega);exact⟨by omega,d⟩
  ·exact⟨EC _,h⟩
theorem qmO{W:List XC->Int->Int}{most:Int}{m:Nat}{deep:Bool}{x:XC}{n:Int}(hW:deep=true->∀z∈x.b,∀k:Int,0<=k->k<=most->0<=W z.2.2.1 k/\W z.2.2.1 k<=k+m)(hp:x.p.length<=m)(hb:x.b.length<=m)(h0:0<=n)(h:n<=most):
 n+((x.p.length / 2:Nat):Int)+((x.b.length / 2:Nat):Int)<=Ur W most deep x n/\Ur W most deep x n<=most+m:=by
 unfold Ur;simp only;split
 ·rename_i hd
  exact qkr (hW hd) (by omega) (by omega)
 ·exact⟨EC _,by omega⟩
theorem qgA{W:List XC->Int->Int}{most:Int}{m:Nat}{deep:Bool}:∀{l:List XC} {n:Int},(∀x∈l,x.p.length<=m/\x.b.length<=m/\(deep=true->∀z∈x.b,∀k:Int,0<=k->k<=most->0<=W z.2.2.1 k/\W z.2.2.1 k<=k+m))->0<=n->n<=most+m->n<=Wh W most deep l n/\Wh W most deep l n<=most+m
 |[],n,_,_,h=>⟨EC _,h⟩
 |x::l,n,hl,h0,h=>by
  rw[Wh];split
  ·rename_i hn
   obtain⟨a,b,c⟩:=hl x Jf;obtain⟨d,e⟩:=qmO (deep:=deep) (n:=n) c a b h0 hn;obtain⟨f,g⟩:=qgA (l:=l) (fun x hx=>hl x (Jg _ hx)) (by omega:0<=Ur W most deep x n) e;exact⟨by omega,g⟩
  ·exact⟨EC _,h⟩
theorem qkn{m:Nat}:∀{f:Nat} {l:List XC} {most:Int},LenX m f l->0<=most->0<=Yn f l most/\Yn f l most<=most+m
 |0,l,most,h,h0=>by
  have:=h.len;obtain⟨a,b⟩:=qgA (W:=fun _ _=>0) (most:=most) (m:=m) (deep:=false) (l:=l) (n:=l.length) (fun x hx=>⟨(h.2 x hx).1,(h.2 x hx).2,fun z=>by cases z⟩) (by omega) (by omega);exact⟨by show 0<=Wh _ _ _ _ _;omega,b⟩
 |f+1,l,most,h,h0=>by
  have:=h.len;obtain⟨a,b⟩:=qgA (W:=Yn f) (most:=most) (m:=m) (deep:=true) (l:=l) (n:=l.length) (fun x hx=>⟨(h.2 x hx).1,(h.2 x hx).2.1,fun _ z hz k hk _=>qkn ((h.2 x hx).2.2 z hz) hk⟩) (by omega) (by omega);exact⟨by show 0<=Wh _ _ _ _ _;omega,b⟩
def qhh:Nat->List XC->Nat
 |0,l=>l.length
 |f+1,l=>l.length+(l.map fun x=>(x.b.map fun z=>qhh f z.2.2.1).sum).sum
theorem qko{W:List XC->Int->Int}{C:List XC->Nat}{most:Int}:∀{zs:List ZC} {n:Int},(∀z∈zs,∀k:Int,0<=k->0<=W z.2.2.1 k/\(W z.2.2.1 k<=k->(C z.2.2.1:Int)<=W z.2.2.1 k))->Uj W most zs n<=most->
 n+((zs.map fun z=>C z.2.2.1).sum:Nat)<=Uj W most zs n/\∀z∈zs,∃k,0<=k/\k<=most-n/\W z.2.2.1 k<=k
 |[],n,_,h=>⟨by simp[Uj],fun z hz=>by cases hz⟩
 |z::zs,n,hW,h=>by
  rw[Uj]at h|-
  split at h
  ·rename_i hn
   rw[if_pos hn];obtain⟨a,b⟩:=hW z Jf (most-n) (by omega);obtain⟨c,d⟩:=qko (zs:=zs) (fun z hz=>hW z (Jg _ hz)) h;have hk:W z.2.2.1 (most-n)<=most-n:=by omega
   have:=b hk;rw[Ke,ED];refine⟨by omega,fun y hy=>?_⟩;rcases KX.1 hy with rfl|hy
   ·exact⟨most-n,by omega,by omega,hk⟩
   ·obtain⟨k,k1,k2,k3⟩:=d y hy
    exact⟨k,k1,by omega,k3⟩
  ·rename_i hn;omega
theorem qgy{W:List XC->Int->Int}{C:XC->Nat}{most:Int}{deep:Bool}:∀{l:List XC} {n:Int},(∀x∈l,∀k:Int,0<=k->k<=Ur W most deep x k/\(Ur W most deep x k<=most->k+C x<=Ur W most deep x k))->0<=n->Wh W most deep l n<=most->
 n+((l.map C).sum:Nat)<=Wh W most deep l n/\∀x∈l,∃k,n<=k/\Ur W most deep x k<=most
 |[],n,_,_,h=>⟨by simp[Wh],fun z hz=>by cases hz⟩
 |x::l,n,hl,h0,h=>by
  rw[Wh]at h|-
  split at h
  ·rename_i hn
   rw[if_pos hn];obtain⟨a,b⟩:=hl x Jf n h0;obtain⟨c,d⟩:=qgy (l:=l) (fun x hx=>hl x (Jg _ hx)) (by omega:0<=Ur W most deep x n) h;have hs:Ur W most deep x n<=most:=by omega
   have:=b hs;rw[Ke,ED];refine⟨by omega,fun y hy=>?_⟩;rcases KX.1 hy with rfl|hy
   ·exact⟨n,EC _,hs⟩
   ·obtain⟨k,k1,k2⟩:=d y hy
    exact⟨k,by omega,k2⟩
  ·rename_i hn;omega
theorem qkp{W:List XC->Int->Int}{most:Int}:∀{zs:List ZC} {n:Int},(∀z∈zs,∀k:Int,0<=k->0<=W z.2.2.1 k)->n<=Uj W most zs n
 |[],n,_=>EC _
 |z::zs,n,hW=>by
  rw[Uj];split
  ·have a:=hW z Jf (most-n) (by omega)
   have b:=qkp (W:=W) (most:=most) (zs:=zs) (n:=n+W z.2.2.1 (most-n)) fun z hz=>hW z (Jg _ hz);omega
  ·exact EC _
theorem qgz{W:List XC->Int->Int}{most:Int}{deep:Bool}:∀{l:List XC} {n:Int},(∀x∈l,∀k:Int,0<=k->k<=Ur W most deep x k)->0<=n->n<=Wh W most deep l n
 |[],n,_,_=>EC _
 |x::l,n,hl,h0=>by
  rw[Wh];split
  ·have a:=hl x Jf n h0
   have b:=qgz (W:=W) (most:=most) (deep:=deep) (l:=l) (n:=Ur W most deep x n) (fun x hx=>hl x (Jg _ hx)) (by omega);omega
  ·exact EC _
theorem qbk{W:List XC->Int->Int}{most:Int}{deep:Bool}{x:XC}{n:Int}(hW:deep=true->∀z∈x.b,∀k:Int,0<=k->0<=W z.2.2.1 k):n<=Ur W most deep x n/\n+((x.p.length / 2:Nat):Int)+((x.b.length / 2:Nat):Int)<=Ur W most deep x n:=by
 unfold Ur;simp only;split
 ·rename_i hd
  have:=qkp (W:=W) (most:=most) (zs:=x.b) (n:=n+((x.p.length / 2:Nat):Int)+((x.b.length / 2:Nat):Int)) (hW hd);exact⟨by omega,this⟩
 ·exact⟨by omega,EC _⟩
theorem qea:∀(f:Nat) (l:List XC) (most:Int),(l.length:Int)<=Yn f l most
 |0,l,most=>qgz (fun x _ k _=>(qbk fun h=>by cases h).1) (by omega)
 |f+1,l,most=>qgz (fun x _ k _=>(qbk fun _ z _ j _=>by have:=qea f z.2.2.1 j;omega).1) (by omega)
theorem qcF:∀{f:Nat} {l:List XC} {most:Int},0<=most->Yn f l most<=most->(qhh f l:Int)<=Yn f l most/\∀m:Nat,most<=m->LenX (2*m+1) f l
 |0,l,most,h0,h=>by
  obtain⟨a,b⟩:=qgy (W:=fun _ _=>0) (C:=fun _=>0) (most:=most) (deep:=false) (l:=l) (n:=l.length) (fun x _ k _=>⟨(qbk fun h=>by cases h).1,fun _=>by have:=(qbk (W:=fun _ _=>0) (most:=most) (deep:=false) (x:=x) (n:=k) fun h=>by cases h).1;omega⟩) (by omega) h;have hl:=qea 0 l most;refine⟨hl,fun m hm=>⟨by omega,fun x hx=>?_⟩⟩;obtain⟨k,k1,k2⟩:=b x hx;have:=(qbk (W:=fun _ _=>0) (most:=most) (deep:=false) (x:=x) (n:=k) fun h=>by cases h).2;omega
 |f+1,l,most,h0,h=>by
  have hW:∀(x:XC),∀z∈x.b,∀k:Int,0<=k->0<=Yn f z.2.2.1 k:=fun x z _ k _=>by have:=qea f z.2.2.1 k;omega
  have hB:∀(x:XC) (k:Int),0<=k->Ur (Yn f) most true x k<=most->k+((x.p.length / 2:Nat):Int)+((x.b.length / 2:Nat):Int)+((x.b.map fun z=>qhh f z.2.2.1).sum:Nat)<=Ur (Yn f) most true x k/\∀z∈x.b,∃j,0<=j/\j<=most/\Yn f z.2.2.1 j<=j:=fun x k hk hs=>by
   unfold Ur at hs|-
   simp only[if_true]at hs|-
   obtain⟨a,b⟩:=qko (C:=qhh f) (fun z hz j hj=>⟨hW x z hz j hj,fun h=>(qcF hj h).1⟩) hs;refine⟨a,fun z hz=>?_⟩;obtain⟨j,j1,j2,j3⟩:=b z hz;exact⟨j,j1,by omega,j3⟩
  obtain⟨a,b⟩:=qgy (W:=Yn f) (C:=fun x=>(x.b.map fun z=>qhh f z.2.2.1).sum) (most:=most) (deep:=true) (l:=l) (n:=l.length) (fun x _ k hk=>⟨(qbk fun _=>hW x).1,fun hs=>by have:=(hB x k hk hs).1;omega⟩) (by omega) h;have hl:=qea (f+1) l most;refine⟨by rw[qhh];exact Int.le_trans (by omega) a,fun m hm=>⟨by omega,fun x hx=>?_⟩⟩;obtain⟨k,k1,k2⟩:=b x hx;have hx2:=(qbk (W:=Yn f) (most:=most) (deep:=true) (x:=x) (n:=k) fun _=>hW x).2;refine⟨by omega,by omega,fun z hz=>?_⟩;obtain⟨j,j1,j2,j3⟩:=(hB x k (by omega) k2).2 z hz;exact(qcF j1 j3).2 m (by omega)
theorem qkB{m:Nat}(hm:m<=1000000):∀{f g:Nat} {l:List XC},LenX m f l->g<=f+1->qbA g l
 |_,0,_,_,_=>trivial
 |0,g+1,l,h,hg=>by
  obtain rfl:g=0:=by omega
  exact⟨Vd h.1 hm,fun x hx=>⟨Vd (h.2 x hx).1 hm,Vd (h.2 x hx).2 hm,fun _ _=>trivial⟩⟩
 |f+1,g+1,l,h,hg=>⟨Vd h.1 hm,fun x hx=>⟨Vd (h.2 x hx).1 hm,Vd (h.2 x hx).2.1 hm,fun z hz=>qkB hm ((h.2 x hx).2.2 z hz) (by omega)⟩⟩
end Go.Stm
namespace Go.Stm
open Go.Col (Str)
open Go.Tok
set_option maxRecDepth 100000
def FolB(p:UInt8->Bool)(r:Str):Prop:=r=[]\/∃c t,r=32::c::t/\p c=true
theorem FolB.mono{p q:UInt8->Bool}{r:Str}(h:FolB p r)(hpq:∀c,p c=true->q c=true):FolB q r:=by
 rcases h with h|⟨c,t,e,hc⟩
 ·exact .inl h
 ·exact .inr ⟨c,t,e,hpq c hc⟩
theorem FolB.sp{p:UInt8->Bool}{r:Str}(h:FolB p r):r=[]\/∃t,r=32::t:=by
 rcases h with h|⟨c,t,e,_⟩
 ·exact .inl h
 ·exact .inr ⟨_,e⟩
def Yg{α:Type}(e:α->Str)(l:List α):Str:=(l.map e).flatten
theorem YZ{α:Type}(e:α->Str)(x:α)(l:List α):Yg e (x::l)=e x++Yg e l:=rfl
theorem qmg{c:UInt8}:∀{a b r r':Str},c∉a->c∉b->a++c::r=b++c::r'->a=b/\r=r'
 |[],[],r,r',_,_,h=>by simpa using h
 |x::a,[],r,r',ha,_,h=>by
  simp only[Kh,Je,List.cons.injEq]at h;exact absurd h.1 (fun e=>ha (by rw[e];exact Jf))
 |[],y::b,r,r',_,hb,h=>by
  simp only[Kh,Je,List.cons.injEq]at h;exact absurd h.1 (fun e=>hb (by rw[e];exact Jf))
 |x::a,y::b,r,r',ha,hb,h=>by
  simp only[Kh,List.cons.injEq]at h;obtain⟨h1,h2⟩:=qmg (fun m=>ha (Jg _ m)) (fun m=>hb (Jg _ m)) h.2;exact⟨by rw[h.1,h1],h2⟩
theorem qrp{a b r r':Str}(ha:(32:UInt8)∉a)(hb:(32:UInt8)∉b)(hr:r=[]\/∃t,r=32::t)(hr':r'=[]\/∃t,r'=32::t)(h:a++r=b++r'):a=b/\r=r':=by
 rcases hr with rfl|⟨t,rfl⟩<;>rcases hr' with rfl|⟨t',rfl⟩
 ·rw[Jz,Jz]at h;exact⟨h,rfl⟩
 ·rw[Jz]at h
  exact absurd (show(32:UInt8)∈a by rw[h];simp) ha
 ·rw[Jz]at h
  exact absurd (show(32:UInt8)∈b by rw[<-h];simp) hb
 ·obtain⟨e,e'⟩:=qmg ha hb h
  exact⟨e,by rw[e']⟩
theorem qdz{α:Type}{e:α->Str}{R:α->α->Bool}{p q:UInt8->Bool}(hpq:∀c,p c=true->q c=false):∀{xs ys:List α},
 (∀x,x∈xs\/x∈ys->∃c t,e x=32::c::t/\p c=true)->
 (∀x∈xs,∀y∈ys,∀r r',FolB (fun c=>p c||q c) r->FolB (fun c=>p c||q c) r'->e x++r=e y++r'->R x y=true/\r=r')->
 ∀{r r':Str},FolB q r->FolB q r'->Yg e xs++r=Yg e ys++r'->rowE R xs ys=true/\r=r'
 |[],[],_,_,r,r',_,_,h=>⟨rfl,by simpa[Yg]using h⟩
 |x::xs,[],hs,_,r,r',_,hr',h=>by
  obtain⟨c,t,e1,hc⟩:=hs x (.inl Jf);rw[YZ,e1]at h;simp only[Yg,Vj,EE,Je,Kh]at h;rcases hr' with rfl|⟨c',t',e2,hc'⟩
  ·cases h
  ·rw[e2]at h
   simp only[List.cons.injEq,Kb]at h;have:=hpq c hc;rw[h.1,hc']at this;cases this
 |[],y::ys,hs,_,r,r',hr,_,h=>by
  obtain⟨c,t,e1,hc⟩:=hs y (.inr Jf);rw[YZ,e1]at h;simp only[Yg,Vj,EE,Je,Kh]at h;rcases hr with rfl|⟨c',t',e2,hc'⟩
  ·cases h
  ·rw[e2]at h
   simp only[List.cons.injEq,Kb]at h;have:=hpq c hc;rw[<-h.1,hc']at this;cases this
 |x::xs,y::ys,hs,hd,r,r',hr,hr',h=>by
  have fol:∀{zs:List α} {s:Str},(∀z∈zs,z∈xs\/z∈ys)->FolB q s->FolB (fun c=>p c||q c) (Yg e zs++s):=by
   intro zs s hz hq;cases zs with
   |nil=>exact hq.mono fun c hc=>by show(p c||q c)=true;rw[hc,Bool.or_true]
   |cons z zs=>
    obtain⟨c,t,e1,hc⟩:=hs z (by rcases hz z Jf with h|h;exact .inl (Jg _ h);exact .inr (Jg _ h));exact .inr ⟨c,t++(Yg e zs++s),by rw[YZ,e1];simp,by show(p c||q c)=true;rw[hc];rfl⟩
  rw[YZ,YZ,Ja,Ja]at h;obtain⟨h1,h2⟩:=hd x Jf y Jf _ _ (fol (fun z hz=> .inl hz) hr) (fol (fun z hz=> .inr hz) hr') h;obtain⟨h3,h4⟩:=qdz hpq (fun z hz=>hs z (by rcases hz with hz|hz;exact .inl (Jg _ hz);exact .inr (Jg _ hz)))
   (fun a ha b hb=>hd a (Jg _ ha) b (Jg _ hb)) hr hr' h2
  exact⟨by rw[rowE,h1,h3];rfl,h4⟩
theorem qfG{α β:Type}{R:α->α->Bool}{g:α->β}:∀{xs ys:List α},rowE R xs ys=true->(∀x∈xs,∀y∈ys,R x y=true->g x=g y)->xs.map g=ys.map g
 |[],[],_,_=>rfl
 |x::xs,y::ys,h,hg=>by
  rw[rowE,Ky]at h;rw[Ke,Ke,hg x Jf y Jf h.1,qfG h.2 fun a ha b hb=>hg a (Jg _ ha) b (Jg _ hb)]
 |[],y::b,h,_=>by cases h
 |x::a,[],h,_=>by cases h
def OkT(t:TokC):Prop:=t.kind<=9/\(32:UInt8)∉t.text
def qtr(t u:TokC):Bool:=decide (t.kind=u.kind) && decide (t.text=u.text)
def eT(t:TokC):Str:=32::ZU t
def digB(c:UInt8):Bool:=decide (48<=c) && decide (c<=57)
theorem dig_of{k:UInt8}(h:k<=9):digB (48+k)=true:=by
 have:k.toNat<=9:=BR.1 h;unfold digB;rw[Ky,decide_eq_true_eq,decide_eq_true_eq,BR,BR,UInt8.toNat_add];simp only[show(48:UInt8).toNat=48 from rfl,show(57:UInt8).toNat=57 from rfl];omega
theorem u8_left{a b c:UInt8}(h:a+b=a+c):b=c:=by
 have:=congrArg (fun x=>x-a) h;simpa using this
theorem tok_dec{t u:TokC}(ht:OkT t)(hu:OkT u){r r':Str}(hr:r=[]\/∃t,r=32::t)(hr':r'=[]\/∃t,r'=32::t)(h:eT t++r=eT u++r'):qtr t u=true/\r=r':=by
 simp only[eT,ZU,Kh,List.cons.injEq,Kb]at h;obtain⟨e1,e2⟩:=qrp ht.2 hu.2 hr hr' h.2;exact⟨by unfold qtr;rw[u8_left h.1,e1];simp,e2⟩
theorem qmM{a b:List TokC}(ha:∀t∈a,OkT t)(hb:∀t∈b,OkT t){q:UInt8->Bool}(hq:∀c,digB c=true->q c=false){r r':Str}(hr:FolB q r)(hr':FolB q r')(h:Yg eT a++r=Yg eT b++r'):rowE qtr a b=true/\r=r':=
 qdz hq (fun x hx=>⟨48+x.kind,x.text,rfl,dig_of (by rcases hx with hx|hx;exact(ha x hx).1;exact(hb x hx).1)⟩)
  (fun x hx y hy r r' hr hr' h=>tok_dec (ha x hx) (hb y hy) hr.sp hr'.sp h) hr hr' h
theorem qiL:∀{a b:List TokC},rowE qtr a b=ZI a b
 |[],[]=>rfl
 |x::a,[]=>by simp[ZI,rowE]
 |[],y::b=>by simp[ZI,rowE]
 |x::a,y::b=>by
  rw[rowE,qiL];unfold qtr ZI;simp only[Ke,List.cons.injEq,Prod.mk.injEq];by_cases h1:x.kind=y.kind<;>by_cases h2:x.text=y.text<;>simp[h1,h2]
def OkP(p:PhrC):Prop:=(62:UInt8)∉p.words/\∀t∈p.toks,OkT t
def eP(p:PhrC):Str:=32::60::(p.words++62::Yg eT p.toks)
def qdG(c:UInt8):Bool:= !digB c
theorem phr_dec{p p':PhrC}(h:OkP p)(h':OkP p'){r r':Str}(hr:FolB qdG r)(hr':FolB qdG r')(he:eP p++r=eP p'++r'):UI p p'=true/\r=r':=by
 simp only[eP,Kh,Ja,List.cons.injEq,Kb]at he;obtain⟨e1,e2⟩:=qmg h.1 h'.1 he;obtain⟨e3,e4⟩:=qmM h.2 h'.2 (q:=qdG) (fun c hc=>by unfold qdG;rw[hc];rfl) hr hr' e2;exact⟨by unfold UI;rw[<-qiL,e3,e1];simp,e4⟩
def OkS:Nat->List StC->Prop
 |0,l=>l=[]
 |m+1,l=>∀s∈l,(32:UInt8)∉s.verb/\(∀p∈s.phrases,OkP p)/\∀b∈s.bodies,(93:UInt8)∉b.1/\(∀t∈b.2.1,OkT t)/\OkS m b.2.2
def eB(E:List StC->Str)(b:BodC):Str:=32::91::(b.1++93::(Yg eT b.2.1++E b.2.2))
def eS(E:List StC->Str)(s:StC):Str:=32::123::(s.verb++(Yg eP s.phrases++(Yg (eB E) s.bodies++[32,125])))
def qgh:Nat->List StC->Str
 |0,_=>[]
 |m+1,l=>Yg (eS (qgh m)) l
def qek(c:UInt8):Bool:=decide (c=91)||decide (c=125)
theorem qrr{α:Type}{e:α->Str}(he:∀x,∃t,e x=32::t)(l:List α){r:Str}(hr:∃t,r=32::t):∃t,Yg e l++r=32::t:=by
 cases l with
 |nil=>exact hr
 |cons x l=>
  obtain⟨t,ht⟩:=he x;exact⟨t++(Yg e l++r),by rw[YZ,ht];simp⟩
theorem qnF{α:Type}{e:α->Str}{p q:UInt8->Bool}{c:UInt8}(hc:p c=true)(he:∀x,∃t,e x=32::c::t)(l:List α){r:Str}(hr:FolB q r)(hq:∀c,q c=true->p c=true):FolB p (Yg e l++r):=by
 cases l with
 |nil=>exact hr.mono hq
 |cons x l=>
  obtain⟨t,ht⟩:=he x;exact .inr ⟨c,t++(Yg e l++r),by rw[YZ,ht];simp,hc⟩
theorem qpV:∀(m:Nat) {a b:List StC},OkS m a->OkS m b->∀{r r':Str},FolB qek r->FolB qek r'->qgh m a++r=qgh m b++r'->sameE m a b=true/\r=r'
 |0,a,b,ha,hb,r,r',_,_,h=>by
  rw[OkS]at ha hb;subst ha hb;exact⟨rfl,h⟩
 |m+1,a,b,ha,hb,r,r',hr,hr',h=>by
  have ih:=@qpV m;refine qdz (e:=eS (qgh m)) (p:=fun c=>decide (c=123)) (q:=qek) (fun c hc=>by rw[of_decide_eq_true hc];decide) (fun x _=>⟨123,_,rfl,rfl⟩) (fun x hx y hy r r' hr hr' he=>?_) hr hr' h;obtain⟨x1,x2,x3⟩:=ha x hx;obtain⟨y1,y2,y3⟩:=hb y hy;simp only[eS,Kh,Ja,List.cons.injEq,Kb,Je]at he;have spB:∀(l:List BodC) (r:Str),∃t,Yg (eB (qgh m)) l++32::125::r=32::t:=fun l r=>qrr (fun x=>⟨_,rfl⟩) l ⟨_,rfl⟩;have spP:∀(l:List PhrC) (l':List BodC) (r:Str),∃t,Yg eP l++(Yg (eB (qgh m)) l'++32::125::r)=32::t:=fun l l' r=>qrr (fun x=>⟨_,rfl⟩) l (spB l' r);obtain⟨e1,e2⟩:=qrp x1 y1 (.inr (spP x.phrases x.bodies r)) (.inr (spP y.phrases y.bodies r')) he;have folB:∀(l:List BodC) (r:Str),FolB qek (Yg (eB (qgh m)) l++32::125::r):=fun l r=>qnF (c:=91) rfl (fun x=>⟨_,rfl⟩) l (q:=qek) (.inr ⟨125,r,rfl,rfl⟩) fun c hc=>hc;obtain⟨e3,e4⟩:=qdz (e:=eP) (R:=UI) (p:=fun c=>decide (c=60)) (q:=qek) (fun c hc=>by rw[of_decide_eq_true hc];decide) (fun x _=>⟨60,_,rfl,rfl⟩)
   (fun p hp p' hp' r r' hr hr' h=>phr_dec (x2 p hp) (y2 p' hp')
     (hr.mono fun c hc=>by
       rcases(JF _ _).mp hc with z|z
       ·rw[of_decide_eq_true z];rfl
       ·rcases(JF _ _).mp z with z|z<;>rw[of_decide_eq_true z]<;>rfl)
     (hr'.mono fun c hc=>by
       rcases(JF _ _).mp hc with z|z
       ·rw[of_decide_eq_true z];rfl
       ·rcases(JF _ _).mp z with z|z<;>rw[of_decide_eq_true z]<;>rfl) h) (folB _ r) (folB _ r') e2
  obtain⟨e5,e6⟩:=qdz (e:=eB (qgh m)) (R:=fun x y=>decide (x.1=y.1) && (ZI x.2.1 y.2.1 && sameE m x.2.2 y.2.2)) (p:=fun c=>decide (c=91)) (q:=fun c=>decide (c=125)) (fun c hc=>by rw[of_decide_eq_true hc];decide) (fun x _=>⟨91,_,rfl,rfl⟩)
   (fun p hp p' hp' r r' hr hr' h=>by
     obtain⟨p1,p2,p3⟩:=x3 p hp;obtain⟨q1,q2,q3⟩:=y3 p' hp';simp only[eB,Kh,Ja,List.cons.injEq,Kb]at h;obtain⟨f1,f2⟩:=qmg p1 q1 h;have folS:∀(l:List StC) (r:Str),FolB (fun c=>decide (c=91)||decide (c=125)) r->FolB qdG (qgh m l++r):=fun l r hr=>by
      have hz:∀c:UInt8,(decide (c=91)||decide (c=125))=true->qdG c=true:=fun c hc=>by
       rcases(JF _ _).mp hc with z|z<;>rw[of_decide_eq_true z]<;>rfl
      cases m with
      |zero=>exact hr.mono hz
      |succ m=>exact qnF (c:=123) rfl (fun x=>⟨_,rfl⟩) l hr hz
     obtain⟨f3,f4⟩:=qmM p2 q2 (q:=qdG) (fun c hc=>by unfold qdG;rw[hc];rfl) (folS _ _ hr) (folS _ _ hr') f2;obtain⟨f5,f6⟩:=ih p3 q3 hr hr' f4;exact⟨by rw[f1,f5,<-qiL,f3];simp,f6⟩) (.inr ⟨125,r,rfl,rfl⟩) (.inr ⟨125,r',rfl,rfl⟩) e4
  simp only[List.cons.injEq,Kb]at e6;exact⟨by rw[e1,e3,e5];simp,e6⟩
theorem qno:∀(x:Str) (xs:List Str),32::Lib.join (x::xs) [32]=Yg (fun x=>32::x) (x::xs):=fun x xs=>by
 rw[Lib.join_cons];rfl
theorem qgg{α:Type}(e:α->Str)(a b:List α):Yg e (a++b)=Yg e a++Yg e b:=by simp[Yg]
theorem qez{α:Type}(g:α->List Str):∀l:List α,Yg (fun x=>32::x) (l.map g).flatten=Yg (fun x=>Yg (fun x=>32::x) (g x)) l
 |[]=>rfl
 |x::l=>by rw[Ke,Vu,qgg,qez g l,YZ]
theorem qnE{α β:Type}(e:β->Str)(g:α->β)(l:List α):Yg e (l.map g)=Yg (fun x=>e (g x)) l:=by unfold Yg;rw[EF];rfl
theorem qfn{α:Type}{e e':α->Str}(h:∀x,e x=e' x)(l:List α):Yg e l=Yg e' l:=by unfold Yg;rw[EG fun x _=>h x]
theorem qhs:∀(m:Nat) (l:List StC),Yg (fun x=>32::x) (QG m l)=qgh m l
 |0,l=>rfl
 |m+1,l=>by
  rw[QG,qez,qgh];refine qfn (fun s=>?_) l;rw[Kh,YZ,Ja,qgg,qgg,qez,qez,eS];have h1:Yg (fun x=>Yg (fun x=>32::x) ((60::(x.words++[62]))::EH ZU x.toks)) s.phrases=Yg eP s.phrases:=qfn (fun p=>by
   rw[YZ,qnE,eP];show _=32::60::(p.words++62::Yg (fun t=>32::ZU t) p.toks);simp) _
  have h2:Yg (fun x=>Yg (fun x=>32::x) ((91::(x.1++[93]))::(EH ZU x.2.1++QG m x.2.2))) s.bodies=Yg (eB (qgh m)) s.bodies:=qfn (fun b=>by
   rw[YZ,qgg,qnE,qhs m,eB];show _=32::91::(b.1++93::(Yg (fun t=>32::ZU t) b.2.1++qgh m b.2.2));simp) _
  simp only[Kh]at h1 h2|-
  rw[h1,h2];simp[Yg]
theorem qow{m:Nat}{l:List StC}(h:l≠[]):QG (m+1) l≠[]:=by
 cases l with
 |nil=>exact absurd rfl h
 |cons s l=>rw[QG];simp
theorem qfE:∀(m:Nat) {a b:List StC},sameE m a b=true->QG m a=QG m b
 |0,_,_,_=>rfl
 |m+1,a,b,h=>by
  rw[QG,QG];refine congrArg List.flatten (qfG h fun s _ t _ hst=>?_);simp only[Ky,decide_eq_true_eq]at hst;obtain⟨h1,h2,h3⟩:=hst;have htk:∀{a b:List TokC},ZI a b=true->a.map ZU=b.map ZU:=fun{a b} h=>by
   unfold ZI at h;rw[decide_eq_true_eq]at h;have:=congrArg (EH fun q:UInt8×Str=>(48+q.1)::q.2) h;rw[EF,EF]at this;exact this
  have e1:(s.phrases.map fun p=>(60::(p.words++[62]))::p.toks.map ZU)=t.phrases.map fun p=>(60::(p.words++[62]))::p.toks.map ZU:=qfG h2 fun p _ q _ hpq=>by
   simp only[UI,Ky,decide_eq_true_eq]at hpq;rw[hpq.1,htk hpq.2]
  have e2:(s.bodies.map fun b=>(91::(b.1++[93]))::(b.2.1.map ZU++QG m b.2.2))=t.bodies.map fun b=>(91::(b.1++[93]))::(b.2.1.map ZU++QG m b.2.2):=qfG h3 fun p _ q _ hpq=>by
   simp only[Ky,decide_eq_true_eq]at hpq;rw[hpq.1,htk hpq.2.1,qfE m hpq.2.2]
  rw[h1,e1,e2]
theorem qls{m:Nat}{a b:List StC}(ha:OkS (m+1) a)(hb:OkS (m+1) b)(ha0:a≠[])(hb0:b≠[]):decide (Lib.join (QG (m+1) a) [32]=Lib.join (QG (m+1) b) [32])=sameE (m+1) a b:=by
 rw[Bool.eq_iff_iff,decide_eq_true_eq];refine⟨fun h=>?_,fun h=>by rw[qfE _ h]⟩;have key:∀{l:List StC},l≠[]->32::Lib.join (QG (m+1) l) [32]=qgh (m+1) l:=fun{l} hl=>by
  rw[<-qhs];cases hs:QG (m+1) l with
  |nil=>exact absurd hs (qow hl)
  |cons x xs=>exact qno x xs
 have h2:32::Lib.join (QG (m+1) a) [32]=32::Lib.join (QG (m+1) b) [32]:=by rw[h]
 rw[key ha0,key hb0]at h2;exact(qpV (m+1) ha hb (r:=[]) (r':=[]) (.inl rfl) (.inl rfl) (by rw[h2])).1
end Go.Stm
namespace Go.Stm
open Go.Col (Str FaultC okF)
open Go.Tok
open Go.Proofs.YtgiadjbiimkbiaaGreatDoor (Few qlV Few.up)
set_option maxRecDepth 100000
def OutL(N:Nat):Nat->List StC->Prop
 |0,l=>l.length<=N
 |m+1,l=>l.length<=N/\∀s∈l,s.phrases≠[]/\s.phrases.length<=N/\(∀p∈s.phrases,p.toks.length<=N)/\s.bodies.length<=N/\∀b∈s.bodies,b.2.1.length<=N/\OutL N m b.2.2
theorem OutL.snoc{N:Nat}:∀{m:Nat} {l:List StC} {s:StC},OutL N m l->OutL N m [s]->l.length+1<=N->OutL N m (l++[s])
 |0,l,s,_,_,h=>by show(l++[s]).length<=N;rw[Jc,JA];exact h
 |m+1,l,s,h1,h2,h=>⟨by rw[Jc,JA];exact h,fun t ht=>by
  rcases JR.1 ht with z|z
  ·exact h1.2 t z
  ·exact h2.2 t z⟩
theorem OutL.small{N:Nat}(hN:N<=1000000):∀{m:Nat} {l:List StC},OutL N m l->SmallS m l
 |0,l,h=>Vd h hN
 |m+1,l,h=>⟨Vd h.1 hN,fun s hs=>by
  obtain⟨_,h2,h3,h4,h5⟩:=h.2 s hs;exact⟨Vd h4 hN,Vd h2 hN,fun p hp=>Vd (h3 p hp) hN,fun b hb=>⟨Vd (h5 b hb).1 hN,(h5 b hb).2.small hN⟩⟩⟩
def qoi(N:Nat)(c:Cur):Prop:=∀b∈c.bodies,b.2.1.length<=N/\∀m,OutL N m b.2.2
theorem isE_lt{l:List TokC}{i:Nat}(h:¬isE l i=true):i<l.length:=by
 unfold isE at h;by_cases hi:i<l.length
 ·exact hi
 ·rw[if_neg hi]at h;exact absurd rfl h
theorem isV_lt{l:List TokC}{i:Nat}(h:isV l i=true):i<l.length:=by
 unfold isV at h;by_cases hi:i<l.length
 ·exact hi
 ·rw[if_neg hi]at h;cases h
theorem qkm(l:List TokC)(F:Str):∀(f i:Nat) (acc:List TokC),i<=l.length->i<=(Ui l F f i acc).2/\(Ui l F f i acc).2<=l.length/\(Ui l F f i acc).1.length=acc.length+((Ui l F f i acc).2-i)
 |0,i,acc,h=>⟨KM _,h,by rw[Ui];simp⟩
 |f+1,i,acc,h=>by
  rw[Ui];split
  ·exact⟨KM _,h,by simp⟩
  ·rename_i hn
   have hlt:i<l.length:=isE_lt fun e=>hn (.inl e);obtain⟨a,b,c⟩:=qkm l F f (i+1) (acc++[l.getD i noT]) hlt;rw[Jc,JA]at c;exact⟨by omega,b,by omega⟩
theorem headW_ok(l:List TokC)(O:List Str)(w:Str)(n i:Nat)(h:i+n<=l.length):i+n<=(headW l O w n i).2/\(headW l O w n i).2<=l.length/\(headW l O w n i).1.length=(headW l O w n i).2-(i+n):=by
 unfold headW;split
 ·obtain⟨a,b,c⟩:=qkm l (O.getLastD []) (l.length-(i+n)) (i+n) [] h
  exact⟨a,b,by rw[JN,Jq]at c;exact c⟩
 ·exact⟨KM _,h,by simp⟩
section
variable {W:Words} {l:List TokC} {forms:Str->Str×Str} {N:Nat}
theorem tok_in{c c':Cur}{ph:Str}{i j:Nat}(hi:i<l.length)(h:WT l c ph i= .ok c' j):j<=l.length/\c'.phrases≠[]\/c'=c/\j<=l.length:=by
 unfold WT at h;split at h
 ·cases h
 ·split at h
  ·cases h
   exact .inl ⟨by omega,by simp[qpG]⟩
  ·have:=qbl l i ph (Bz hi)
   split at h
   ·cases h
    exact .inl ⟨this,by simp⟩
   ·cases h
    exact .inr ⟨rfl,this⟩
theorem tok_bod{c c':Cur}{ph:Str}{i j:Nat}(h:WT l c ph i= .ok c' j):c'.bodies=c.bodies/\c.bodies=[]:=by
 unfold WT at h;split at h
 ·cases h
 ·rename_i hb
  have hb':c.bodies=[]:=Classical.not_not.1 hb;split at h
  ·cases h;exact⟨rfl,hb'⟩
  ·split at h<;>(cases h;exact⟨rfl,hb'⟩)
theorem qlt(hN:l.length+2<=N):∀f:Nat,
 (∀d O i acc L j,WK W l forms f d O i acc=some (.ok L j)->i<=l.length->i<=j/\j<=l.length/\(isV l i=true->i<j)/\(acc.length<=i->L.length<=j/\∀m,OutL N m acc->OutL N m L))/\
 (∀d O i s j,stF W l forms f d O i=some (.ok s j)->isV l i=true->i<j/\j<=l.length/\∀m,OutL N m [s])/\
 (∀d O ph c i c' b j,We W l forms f d O ph c i=some (.ok (c',b) j)->i<=l.length->Few c i->c.phrases≠[]->qoi N c->i<=j/\j<=l.length/\Few c' j/\c'.phrases≠[]/\qoi N c')/\
 (∀d O c w n i c' j,Ud W l forms f d O c w n i=some (.ok c' j)->i+n<=l.length->(0<n\/isV l i=true)->Few c i->qoi N c->i<j/\j<=l.length/\Few c' j/\c'.phrases=c.phrases/\qoi N c')
 |0=>by
  refine⟨fun d O i acc L j h=>?_,fun d O i s j h=>?_,fun d O ph c i c' b j h=>?_,fun d O c w n i c' j h=>?_⟩
  ·simp only[WK]at h;cases h
  ·simp only[stF]at h;cases h
  ·simp only[We]at h;cases h
  ·simp only[Ud]at h;cases h
 |f+1=>by
  obtain⟨i1,i2,i3,i4⟩:=qlt hN f;refine⟨fun d O i acc L j h hi=>?_,fun d O i s j h hv=>?_,fun d O ph c i c' b j h hi hf hp hg=>?_,fun d O c w n i c' j h hn hw hf hg=>?_⟩
  ·rw[WK]at h
   split at h
   ·rename_i hv
    cases hs:stF W l forms f d O i with
    |none=>rw[hs]at h;cases h
    |some x=>
     rw[hs]at h;cases x with
     |bad e=>cases h
     |ok s k=>
      obtain⟨a1,a2,a3⟩:=i2 _ _ _ _ _ hs hv;obtain⟨b1,b2,_,b4⟩:=i1 _ _ _ _ _ _ h a2;refine⟨by omega,b2,fun _=>by omega,fun hacc=>?_⟩;obtain⟨c1,c2⟩:=b4 (by rw[Jc,JA];omega);exact⟨c1,fun m hm=>c2 m (hm.snoc (a3 m) (by omega))⟩
   ·rename_i hv
    cases h;exact⟨KM _,hi,fun h=>absurd h hv,fun hacc=>⟨hacc,fun m hm=>hm⟩⟩
  ·rw[stF]at h
   split at h
   ·cases h
   ·simp only at h
    generalize hx:We W l forms f d _ _ _ _=x at h;match x,h with
    |some (.ok (c,b) k),h=>
     simp only at h;split at h
     ·cases h
      have hlt:=isV_lt hv;obtain⟨a1,a2,a3,a4,a5⟩:=i3 _ _ _ _ _ _ _ _ hx hlt ⟨by simp,fun p hp=>by rw[VM.1 hp];exact Jr _,Jr _⟩ (by simp) (fun b hb=>by cases hb);refine⟨by omega,a2,fun m=>?_⟩;cases m with
      |zero=>show 1<=N;omega
      |succ m=>exact⟨by simp only[JA];omega,fun s hs=>by
        rw[VM.1 hs];exact⟨a4,by have:=a3.1;show c.phrases.length<=N;omega,fun p hp=>by have:=a3.2.1 p hp;omega,by have:=a3.2.2;show c.bodies.length<=N;omega,fun b hb=>⟨(a5 b hb).1,(a5 b hb).2 m⟩⟩⟩
     ·cases h
  ·rw[We]at h
   split at h
   ·cases h
    exact⟨KM _,hi,hf,hp,hg⟩
   ·rename_i hE
    have hlt:=isE_lt hE;split at h
    ·split at h
     ·cases h
      exact⟨by omega,hlt,hf.up (by omega),hp,hg⟩
     ·cases h
      exact⟨KM _,hi,hf,hp,hg⟩
    ·split at h
     ·rename_i h3
      generalize hx:Ud W l forms f d O c _ _ i=x at h;match x,h with
      |some (.ok c1 k),h=>
       obtain⟨a1,a2,a3,a4,a5⟩:=i4 _ _ _ _ _ _ _ _ hx (qbl l i _ hi) (.inl h3) hf hg;obtain⟨b1,b2,b3,b4,b5⟩:=i3 _ _ _ _ _ _ _ _ h a2 a3 (by rw[a4];exact hp) a5;exact⟨by omega,b2,b3,b4,b5⟩
     ·generalize hm:(if isV l i=true then Yc W c else none)=m at h
      cases m with
      |some w=>
       simp only at h;have hv:isV l i=true:=by
        by_cases z:isV l i=true
        ·exact z
        ·rw[if_neg z]at hm;cases hm
       generalize hx:Ud W l forms f d O c w 0 i=x at h;match x,h with
       |some (.ok c1 k),h=>
        obtain⟨a1,a2,a3,a4,a5⟩:=i4 _ _ _ _ _ _ _ _ hx hi (.inr hv) hf hg;obtain⟨b1,b2,b3,b4,b5⟩:=i3 _ _ _ _ _ _ _ _ h a2 a3 (by rw[a4];exact hp) a5;exact⟨by omega,b2,b3,b4,b5⟩
      |none=>
       simp only at h;split at h
       ·cases h
        exact⟨KM _,hi,hf,hp,hg⟩
       ·generalize hx:WT l c ph i=x at h
        match x,hx,h with
        | .ok c1 k,hx,h=>
          obtain⟨hb1,hb0⟩:=tok_bod hx;obtain⟨f1,f2⟩:=qlV hf hp hb0 hx;have hg1:qoi N c1:=fun b hb=>by rw[hb1,hb0]at hb;cases hb
          have hk:k<=l.length/\c1.phrases≠[]:=by
           rcases tok_in hlt hx with z|⟨z,z2⟩
           ·exact z
           ·exact⟨z2,by rw[z];exact hp⟩
          obtain⟨b1,b2,b3,b4,b5⟩:=i3 _ _ _ _ _ _ _ _ h hk.1 f1 hk.2 hg1;exact⟨by omega,b2,b3,b4,b5⟩
  ·rw[Ud]at h
   split at h
   ·cases h
   ·split at h
    ·cases h
    ·rename_i hwh
     generalize hx:WK W l forms f (d+1) O _ []=x at h;match x,h with
     |some (.ok L k),h=>
      simp only at h;split at h
      ·cases h
      ·cases h
       obtain⟨h1,h2,h3⟩:=headW_ok l O w n i hn;obtain⟨a1,a2,a3,a4⟩:=i1 _ _ _ _ _ _ hx h2;obtain⟨a5,a6⟩:=a4 (Jr _);have hij:i<j:=by
        rcases hw with z|z
        ·omega
        ·by_cases hww:w=Ye
         ·have:(headW l O w n i).1≠[]:=fun e=>hwh ⟨hww,e⟩
          have:=Bc.2 this;omega
         ·by_cases hn0:n=0
          ·have he:(headW l O w n i).2=i:=by unfold headW;rw[if_neg hww];simp only;omega
           rw[he]at a3;exact a3 z
          ·omega
       refine⟨hij,a2,⟨Vd hf.1 (Bz hij),fun p hp=>Vd (hf.2.1 p hp) (Bz hij),?_⟩,rfl,fun b hb=>?_⟩
       ·have:=hf.2.2
        simp only[Jc,JA];omega
       ·rcases JR.1 hb with z|z
        ·exact hg b z
        ·rw[VM.1 z]
         refine⟨by simp only;omega,fun m=>a6 m ?_⟩;cases m with
         |zero=>exact Jr _
         |succ m=>exact⟨Jr _,fun s hs=>by cases hs⟩
theorem small_sent.small_app(hN:l.length+2<=N):∀(f d:Nat) (O:List Str) (i:Nat) (acc0 L:List StC) (j:Nat),WK W l forms f d O i acc0=some (.ok L j)->i<=l.length->∀acc:List StC,(acc++acc0).length<=i->(∀m,OutL N m (acc++acc0))->(acc++L).length<=j/\∀m,OutL N m (acc++L)
 |0,d,O,i,acc0,L,j,h,_,acc,_,_=>by simp only[WK]at h;cases h
 |f+1,d,O,i,acc0,L,j,h,hi,acc,ha,hO=>by
  rw[WK]at h;split at h
  ·rename_i hv
   cases hs:stF W l forms f d O i with
   |none=>rw[hs]at h;cases h
   |some x=>
    rw[hs]at h;cases x with
    |bad e=>cases h
    |ok s k=>
     obtain⟨a1,a2,a3⟩:=(qlt hN f).2.1 _ _ _ _ _ hs hv;refine small_sent.small_app hN f _ _ _ _ _ _ h a2 acc ?_ fun m=>?_
     ·rw[<-Ja,Jc,JA];omega
     ·rw[<-Ja]
      exact(hO m).snoc (a3 m) (by omega)
  ·cases h
   exact⟨ha,hO⟩
theorem small_sent(hN:l.length+2<=N):∀(f i:Nat) (acc L:List StC) (j:Nat),qaP W l forms f i acc=some (.ok L j)->i<=l.length->acc.length<=i->(∀m,OutL N m acc)->L.length<=l.length/\∀m,OutL N m L
 |0,i,acc,L,j,h,_,_,_=>by simp only[qaP]at h;cases h
 |f+1,i,acc,L,j,h,hi,ha,hO=>by
  rw[qaP]at h;split at h
  ·rename_i hlt
   generalize hx:WK W l forms f 1 [] i []=x at h;match x,h with
   |some (.ok L1 k),h=>
    simp only at h;obtain⟨a1,a2,a3,a4⟩:=(qlt hN f).1 _ _ _ _ _ _ hx hi;split at h
    ·cases h
    ·rename_i hk
     have hk2:k<l.length:=by
      rcases Nat.lt_or_ge k l.length with z|z
      ·exact z
      ·exact absurd (.inl (by omega)) hk
     obtain⟨b1,b2⟩:=small_sent.small_app hN f _ _ _ _ _ _ hx hi acc (by rw[Jz];exact ha) (fun m=>by rw[Jz];exact hO m);exact small_sent hN f (k+1) (acc++L1) L j h (by omega) (by omega) b2
  ·cases h
   exact⟨by omega,hO⟩
theorem qhA(hN:l.length+2<=N){L:List StC}{j:Nat}(h:ParseR W l forms (.ok L j)):∀m,OutL N m L:=by
 obtain⟨f,h⟩:=h;unfold WV at h;split at h
 ·cases h
 ·exact(small_sent hN f 0 [] L j h (Jr _) (Jr _) fun m=>by
   cases m with
   |zero=>exact Jr _
   |succ m=>exact⟨Jr _,fun s hs=>by cases hs⟩).2
end
end Go.Stm
namespace Go.Stm
open Go.Col (Str)
open Go.Tok
def ENDd:Str:=[69,78,68,45]
def qei:TokC:=⟨6,[46],0,0,false⟩
def qds(v:Str):TokC:=⟨1,v,0,0,false⟩
def spT2(w:Str):TokC:=⟨if w=[61]then 5 else 1,w,0,0,false⟩
def qcI(s:Str):List TokC:=(Lib.fields s).map spT2
def hasEnd(v:Str):Bool:= !Lib.contains v [32] && Lib.contains qcr ([32]++v++[32])
def qka(out:List TokC)(p:PhrC):List TokC:=out++qcI p.words++p.toks
def qkb(W:List TokC->List StC->List TokC)(out:List TokC)(b:BodC):List TokC:=W (out++qcI b.1++b.2.1) b.2.2
def qfv(v:Str)(o:List TokC):List TokC:=if hasEnd v=true then o++qcI (ENDd++v)else o
def qbU(W:List TokC->List StC->List TokC)(out:List TokC)(s:StC):List TokC:=qfv s.verb (s.bodies.foldl (qkb W) (s.phrases.foldl qka (out++[qds s.verb])))
def YA(W:List TokC->List StC->List TokC):List TokC->List StC->List TokC
 |out,[]=>out
 |out,s::l=>if 65536<out.length then out else YA W (qbU W out s) l
def XH:Nat->List TokC->List StC->List TokC
 |0=>fun out _=>out
 |m+1=>YA (XH m)
theorem Ut{α:Type}{f:List TokC->α->List TokC}(hf:∀o x,o<+:f o x):∀(l:List α) (o:List TokC),o<+:l.foldl f o
 |[],o=>Ei o
 |x::l,o=>(hf o x).trans (Ut hf l (f o x))
theorem qlB(o:List TokC)(p:PhrC):o<+:qka o p:=⟨qcI p.words++p.toks,by unfold qka;simp⟩
theorem qih(v:Str)(o:List TokC):o<+:qfv v o:=by
 unfold qfv;split
 ·exact Eh _ _
 ·exact Ei _
theorem qgJ{W:List TokC->List StC->List TokC}(hW:∀o l,o<+:W o l):∀(l:List StC) (o:List TokC),o<+:YA W o l
 |[],o=>Ei o
 |s::l,o=>by
  rw[YA];split
  ·exact Ei _
  ·refine List.IsPrefix.trans ?_ (qgJ hW l _)
   unfold qbU;refine List.IsPrefix.trans ?_ (qih _ _);refine List.IsPrefix.trans ?_ (Ut (fun o b=>?_) _ _)
   ·exact(Eh _ _).trans (Ut qlB _ _)
   ·exact(List.IsPrefix.trans (Eh _ _) (Eh _ _)).trans (hW _ _)
theorem qaf:∀(m:Nat) (o:List TokC) (l:List StC),o<+:XH m o l
 |0,o,l=>Ei o
 |m+1,o,l=>qgJ (fun o l=>qaf m o l) l o
theorem qlC(m:Nat)(o:List TokC)(b:BodC):o<+:qkb (XH m) o b:=(List.IsPrefix.trans (Eh _ _) (Eh _ _)).trans (qaf m _ _)
end Go.Stm
namespace Go.AM
theorem Sub.set_of{B h:AHeap}{k:Nat}{X:Blk}(hs:Sub B h)(hk:h k=some X):Sub (B.set k X) h:=fun j c hj=>by
 by_cases e:j=k
 ·subst e;rw[Vg]at hj;rw[hk];exact hj
 ·rw[Vf _ _ e]at hj;exact hs _ _ hj
end Go.AM
namespace Go.Proofs.YtgiadjbiimkbiaaGreatDoor
open Go.AM
open Go.Proofs
open Go.Col (Str FaultC okF)
open Go.Tok (TokC)
open Go.Stm
open Go.RowKit (Below)
set_option maxRecDepth 100000
theorem qpD{v:Str}(h:asciiB v=true):asciiB (ENDd++v)=true:=by
 unfold asciiB at*
 rw[List.all_append,h];rfl
theorem qkA(s:Str):qcI s=WU s:=rfl
def qkl:Nat->List StC->Prop
 |0,_=>True
 |m+1,l=>∀s∈l,(asciiB s.verb=true/\s.verb.length<=1000)/\(∀p∈s.phrases,asciiB p.words=true)/\∀b∈s.bodies,asciiB b.1=true/\qkl m b.2.2
structure WrG where
 j:Nat
 xs:List TokC
 rv:AVal
 rp:AHeap
 H:AHeap
def qjL(wz:World)(h:AHeap)(zs:List TokC):AVal->AHeap->Prop:=fun r h'=>∃p,GrowV 5 r p (zs.map Xy)/\isG r=true/\AM.Sep [h,p] h'
theorem qfS{R o:List TokC}(h:o<+:R)(hR:R.length<=1000000000):o.length<=1000000000:=Vd h.length_le hR
theorem qjr{α β:Type}{qs:List (α×β)}{j:Nat}{d:α×β}(hj:j<qs.length):(qs.drop j).map (·.1)=(qs.getD j d).1::(qs.drop (j+1)).map (·.1):=by
 rw[J9 hj,Ke];simp[Ko,hj]
theorem c_write0(wz:World)(h:AHeap)(v ov:AVal)(op H:AHeap)(xs:List TokC)(hv:IsL wz h 5 v [])(hrow:GrowV 5 ov op (xs.map Xy))(hG:isG ov=true)(hS:AM.Sep [h,op] H):ACall Tryz.prog wz 46 [ov,v] H (qjL wz h (XH 0 xs [])):=by
 have nL:∀H:AHeap,Zh Tryz.prog H 45 v=⟨True, .int .i64 0⟩:=fun H=>hv.len Tryz.underlying45 H;have hlv:=hv.live;have hrl:=hrow.live;refine Ql (n:=81) (rs:=[.tmp 4]) Tryz.func46 rfl rfl rfl rfl (VF rfl) ?_;simp only[Qm];refine awp_rseq [0,1] (by rfl) fun K hK=>?_;simp+decide only[qa,ev,qK,qG,putD,VG,VI,Ka,Kb,↓qf,qc,Jq];apply hK;clear hK K;refine qF ?_;refine awp_rseq [0,11,12,13] (by rfl) fun K hK=>?_;simp+decide only[qa,ev,qK,qG,putD,VG,VH,VI,Ka,Kb,↓qg,qd,↓QB,Qo,nL];apply hK;clear hK K;refine Qb ?_;refine QN [0,11,12,13] (fun z:Unit=>[(0,ov),(11,v),(12, .int .i64 0),(13, .int .i64 0)]) (fun z:Unit=>H) (fun z:Unit=>True) (fun z:Unit=>0) () (by rfl) (Vh _) trivial ?_;intro z _;refine awp_rseq [0,11,12,13,14] (by rfl) fun K hK=>?_;simp+decide only[qa,ev,putD,VG,VH,VI,Ka,Kb,↓qo,qh,qN,cond_false,qz,Xt];apply hK;clear hK K;refine qF (qM (b:=_) rfl (fun hb1=>?_) (fun hb1=>?_))
 ·cases hb1
 ·try simp only[decide_eq_false_iff_not]at hb1
  refine QI ?_;change Awp _ _ _ _ _ _ _;refine awp_rseq [4] (by rfl) fun K hK=>?_;simp+decide only[qa,ev,putD,VG,VH,VI,Ka,Kb,↓qg,qd,↓qf,qc];apply hK;clear hK K;refine Qn ?_;refine Xf H zqC (qJ (qO)) ?_;simp+decide only[VH,if_true,Qg];exact⟨op,hrow,hG,hS⟩
set_option maxHeartbeats 16000000 in
theorem c_writeS(wz:World)(hm:MaxL wz)(hsp:Asp wz)(m:Nat)(h:AHeap)(v ov:AVal)(op H₀:AHeap)(xs:List TokC)(l:List StC)(hs:StsV wz (m+1) h v l)(hsm:SmallS (m+1) l)(htx:TxS (m+1) l)(hac:qkl (m+1) l)
 (hrow:GrowV 5 ov op (xs.map Xy)) (hG:isG ov=true) (hS:AM.Sep [h,op] H₀) (hT:(XH (m+1) xs l).length<=1000000000)
 (ih:∀(h':AHeap) (v ov:AVal) (op H':AHeap) (xs:List TokC) (l:List StC),StsV wz m h' v l->SmallS m l->TxS m l->qkl m l->GrowV 5 ov op (xs.map Xy)->isG ov=true->AM.Sep [h',op] H'->(XH m xs l).length<=1000000000->ACall Tryz.prog wz 46 [ov,v] H' (qjL wz h' (XH m xs l))):
 ACall Tryz.prog wz 46 [ov,v] H₀ (qjL wz h (XH (m+1) xs l)):=by
 obtain⟨qs,hqe,hqL,hels⟩:=qee hs hsm;rw[Nat.add_sub_cancel]at hels;have nL:=qgD hqL;have hlv:=hqL.live;have hrl:=hrow.live;have hln:qs.length<=1000000:=by have:=hsm.len;rw[hqe,Jo]at this;exact this
 have hR:XH (m+1) xs l=YA (XH m) xs ((qs.drop 0).map (·.1)):=by rw[Vm,<-hqe];rfl
 unfold qjL;obtain⟨R,hRR⟩:∃R,R=XH (m+1) xs l:=⟨_,rfl⟩
 rw[<-hRR]at hR hT|-
 refine Ql (n:=81) (rs:=[.tmp 4]) Tryz.func46 rfl rfl rfl rfl (VF rfl) ?_;simp only[Qm];refine awp_rseq [0,1] (by rfl) fun K hK=>?_;simp+decide only[qa,ev,qK,qG,putD,VG,VI,Ka,Kb,↓qf,qc,Jq];apply hK;clear hK K;refine qF ?_;refine awp_rseq [0,11,12,13] (by rfl) fun K hK=>?_;simp+decide only[qa,ev,qK,qG,putD,VG,VH,VI,Ka,Kb,↓qg,qd,↓QB,Qo,nL];apply hK;clear hK K;refine Qb ?_;refine QN [0,11,12,13] (fun g:WrG=>[(0,g.rv),(11,v),(12, .int .i64 qs.length),(13, .int .i64 g.j)]) (fun g:WrG=>g.H) (fun g:WrG=>AM.Sep [h,g.rp] g.H/\g.j<=qs.length/\GrowV 5 g.rv g.rp (g.xs.map Xy)/\isG g.rv=true/\R=YA (XH m) g.xs ((qs.drop g.j).map (·.1))) (fun g:WrG=>qs.length-g.j) ⟨0,xs,ov,op,H₀⟩ (by rfl) (Vh _) ⟨hS,Jr _,hrow,hG,hR⟩ ?_;rintro⟨j,xs,rv,rp,H⟩ ⟨hS,hj,hrow,hG,hg⟩;simp only at hS hj hrow hG hg|-
 have hs_H:Sub h H:=hS.in_ (i:=0) rfl;have hrl:=hrow.live;have nr:=Zt (hrow.isL (wz:=wz) (hS.in_ (i:=1) rfl));refine awp_rseq [0,11,12,13,14] (by rfl) fun K hK=>?_;simp+decide only[qa,ev,putD,VG,VH,VI,Ka,Kb,↓qo,qh,qN,cond_false,qz,Xt];apply hK;clear hK K;refine qF (qM (b:=_) rfl (fun hb1=>?_) (fun hb1=>?_))
 ·try simp only[decide_eq_true_eq]at hb1
  have hj1:j<qs.length:=by omega
  obtain⟨q,hqj⟩:∃q,q=qs.getD j qcO:=⟨_,rfl⟩
  have hqm:q∈qs:=by rw[hqj,Ko,JH hj1];exact VA hj1
  obtain⟨lc,o,cc,hpe⟩:=qcH hqL (by omega);have hq2:=hqL.mono hs_H;rw[hpe]at hq2;obtain⟨e0,e1,e2,e3,e4⟩:=qcd hq2 hj1;rw[<-hqj]at e0 e1 e2 e3 e4;obtain⟨hph,hbd,hbn,hpn,hpt,hbb⟩:=hels q hqm;obtain⟨hx1,hx2,hx3⟩:=htx q.1 (by rw[hqe];exact Bp (f:=(·.1)) hqm);obtain⟨⟨hy0,hy1⟩,hy2,hy3⟩:=hac q.1 (by rw[hqe];exact Bp (f:=(·.1)) hqm);have hst:=qjr (d:=qcO) hj1;rw[<-hqj]at hst;rw[hst,YA]at hg;have hl1:=hph.live;have hs1:=hph.scal;have hl2:=hbd.live;have hs2:=hbd.scal;have hs5:=hs1;have hs6:=hs1;obtain⟨pl,hpl,hpq,hpr⟩:=id hph;obtain⟨ql,hql,hqb,hqq⟩:=id hbd;have np:=qfe hpq;have nb:=qdc hqb;have hbn2:ql.length<=1000000:=by rw[hql,Jo]at hbn;exact hbn
  have hpn2:pl.length<=1000000:=by rw[hpl,Jo]at hpn;exact hpn
  obtain⟨⟨qv,qln,qcl,qps,qbs⟩,qp,qb⟩:=q;simp only[StC.verb,StC.line,StC.col,BZ,Ea]at e0 e1 e2 e3 e4 hl1 hs1 hl2 hs2 hs5 hs6 np nb hpq hqb hpl hql hbb hpt hpr hqq hx1 hx2 hx3 hy0 hy1 hy2 hy3 hg;obtain⟨L,hL⟩:∃L,L=(qs.drop (j+1)).map (·.1):=⟨_,rfl⟩
  rw[<-hL]at hg;have hwj:IntKind.i64.wrap ((j:Int)+1)=((j+1:Nat):Int):=by rw[wrap_i64 (by omega) (by omega)];omega
  refine qV ?_;change Awp _ _ _ _ _ _ _;refine qF ?_;refine Qb ?_;refine awp_rseq [0,6,11,12,13] (by rfl) fun K hK=>?_;simp+decide only[ev,putD,VG,VH,Ka,Kb,↓qZ,Qc,qA Tryz.underlying45 Yv,↓qI,Qz qeJ Yv,Qd,QL,Qw,allLive,J4,hpe,e0,e1,e2,e3,e4,hl1,hl2,VN];repeat (with_reducible refine And.intro ?_ ?_;· first|trivial|omega|(intro hg;simp only[Ky,JF,Ji,VO,VL,VK,decide_eq_true_eq,decide_eq_false_iff_not,Xd]at hg;omega))
  refine Xb qhT (cs:=[.str [], .int .i64 0, .int .i64 0, .nilSlice, .nilSlice]) (by rfl) fun k3q2 hk3q2=>?_;have hn_3q2:H k3q2=none:=by first|assumption|(simp only[VU]at hk3q2;simp only[hk3q2])
  have hf_3q2:h k3q2=none:=VV hs_H hn_3q2;refine Qi (by rfl) (by rfl) zqA Yv (by rfl) (by rfl) zqD (Jr _) (by first|rfl|(simp+decide only[ev,putD,VG,VH,Ka,VY,QU,J4,hs1,hs2,qbV,YT])) ?_;simp only[VX,VY];simp+decide only[qa,ev,putD,VG,VH,VI,Ka,setAt,VZ,Kj,Jq,Nat.reduceAdd];apply hK;clear hK K;refine qF ?_;have hS3:=BL hS hn_3q2 (⟨[.str qv, .int .i64 qln, .int .i64 qcl,qp,qb],0⟩:Blk);simp only[Kh,Je]at hS3;refine awp_rseq [0,6,11,12,13,19] (by rfl) fun K hK=>?_;simp+decide only[qa,ev,qK,qG,putD,VG,VH,VI,Ka,Kb,↓qg,qd,↓QB,Qo,↓qo,qh,qE,cond_false,qz,Yk,nr];apply hK;clear hK K;refine qM (b:=_) rfl (fun hb2=>?_) (fun hb2=>?_)
  ·try simp only[decide_eq_true_eq]at hb2
   refine awp_rseq [4] (by rfl) fun K hK=>?_;simp+decide only[qa,ev,putD,VG,VH,VI,Ka,Kb,↓qg,qd,↓qf,qc];apply hK;clear hK K;refine Qn ?_;try simp only[QM,Xl]
   refine Qu (qJ (qO)) ?_;simp+decide only[VH,if_true,Qg];rw[hg,if_pos (by omega)];exact⟨_,Vh _,rp,hrow,hG,hS3.sub (by simp)⟩
  ·try simp only[decide_eq_false_iff_not]at hb2
   rw[if_neg (by omega)]at hg;have hg6:R=YA (XH m) (qfv qv (((ql.drop 0).map (·.1)).foldl (qkb (XH m)) (((pl.drop 0).map (·.1)).foldl qka (xs++[qds qv])))) L:=by rw[hg,qbU];simp only[StC.verb,BZ,Ea,Vm];rw[hpl,hql]
   have hp6:(xs++[qds qv])<+:R:=by
    rw[hg6];exact(((Ut qlB _ _).trans (Ut (qlC m) _ _)).trans (qih _ _)).trans (qgJ (qaf m) _ _)
   have hn6:=qfS hp6 hT;rw[Jc,JA]at hn6;refine qV ?_;change Awp _ _ _ _ _ _ _;refine awp_rseq [0,6,11,12,13] (by rfl) fun K hK=>?_;simp+decide only[ev,qK,qG,putD,VG,VH,Ka,Kb,↓qg,qd,↓qC,qi,WY,↓qI,Qc,qj ag9,↓Zo,↓Xz,qhk,evP,Ke,Vj,XN,VJ,Jq,Qw];refine Qh (cs:=Xy (qds qv)) (by kernel_rfl) fun k6q4 hk6q4=>?_;have ne_6q4_3q2:k6q4≠k3q2:=by simp only[VU]at hk6q4;simp only[hk6q4,ne_eq,not_false_eq_true]
   have hn_6q4:H k6q4=none:=by first|assumption|(simp only[VU]at hk6q4;simp only[hk6q4])
   have hf_6q4:h k6q4=none:=VV hs_H hn_6q4;refine Zj (es:=5) (v:=rv) (p:=rp) (xs:=xs.map Xy) (ys:=[Xy (qds qv)]) (i:=1) (by rfl) (by rfl) Tryz.underlying39 Tryz.underlying39 (fun k e=>by cases e) Yl qfo qdo (by rfl) (by decide) (by rfl) hrow hG rfl (hS3.forget (Vi hk6q4)) (by rfl) (Bh (Vg _ _ _) (fun x hx=>by rw[VM.1 hx];rfl) (by rfl) (by rfl) (.exact 1) (KM _)) (by rfl) (by simp only[Jo,JA];omega) (by simp only[Jo,JA];omega) fun rv6 rp6 h6 hrow6 hG6 hS6=>?_;have hrow6:GrowV 5 rv6 rp6 ((xs++[qds qv]).map Xy):=by rw[Vr];exact hrow6
   simp only[Kj,VZ]at hS6;have hS6:AM.Sep [h,one k3q2 ⟨[.str qv, .int .i64 qln, .int .i64 qcl,qp,qb],0⟩,rp6] h6:=hS6.perm (.cons _ (List.Perm.swap _ _ _));simp+decide only[qa,ev,putD,VG,VH,VI,Ka,Kb,↓qf,qc];apply hK;clear hK K;refine qF ?_;have hrl6:=hrow6.live;have hs_h6:Sub h h6:=hS6.in_ (i:=0) rfl;have eb_3q2:h6 k3q2=some _:=hS6.at_ (i:=1) rfl;refine awp_rseq [0,6,11,12,13,28,29,30] (by rfl) fun K hK=>?_;simp+decide only[qa,ev,qK,qG,putD,VG,VH,VI,Ka,Kb,↓qC,qi,Zz,↓qI,Qc,qj qba,↓QB,Qo,↓qg,qd,Qj wz eb_3q2,VJ,Kn,Jq,np,hl1];apply hK;clear hK K;refine Qb ?_;refine QN [0,6,11,12,13,28,29,30] (fun g:WrG=>[(0,g.rv),(6, .ptr (.own k3q2) 0),(11,v),(12, .int .i64 qs.length),(13, .int .i64 j),(28,qp),(29, .int .i64 pl.length),(30, .int .i64 g.j)]) (fun g:WrG=>g.H) (fun g:WrG=>AM.Sep [h,one k3q2 ⟨[.str qv, .int .i64 qln, .int .i64 qcl,qp,qb],0⟩,g.rp] g.H/\g.j<=pl.length/\GrowV 5 g.rv g.rp (g.xs.map Xy)/\isG g.rv=true/\R=YA (XH m) (qfv qv (((ql.drop 0).map (·.1)).foldl (qkb (XH m)) (((pl.drop g.j).map (·.1)).foldl qka g.xs))) L) (fun g:WrG=>pl.length-g.j) ⟨0,xs++[qds qv],rv6,rp6,h6⟩ (by first|rfl|(rw[hpe];rfl)) (Vh _) ⟨hS6,Jr _,hrow6,hG6,hg6⟩ ?_;rintro⟨a,xs,rv,rp,H⟩ ⟨hS,ha,hrow,hG,hga⟩;simp only at hS ha hrow hG hga|-
   have hs_H:Sub h H:=hS.in_ (i:=0) rfl;have eb_3q2:H k3q2=some _:=hS.at_ (i:=1) rfl;have hrl:=hrow.live;refine awp_rseq [0,6,11,12,13,28,29,30,31] (by rfl) fun K hK=>?_;simp+decide only[qa,ev,putD,VG,VH,VI,Ka,Kb,↓qo,qh,qN,cond_false,qz,Xt];apply hK;clear hK K;refine qF (qM (b:=_) rfl (fun hb3=>?_) (fun hb3=>?_))
   ·try simp only[decide_eq_true_eq]at hb3
    have ha1:a<pl.length:=by omega
    obtain⟨p,hpj⟩:∃p,p=pl.getD a qbu:=⟨_,rfl⟩
    have hpm:p∈pl:=by rw[hpj,Ko,JH ha1];exact VA ha1
    obtain⟨lp,op,cp,hpp⟩:=UK hpq (by omega);have hp2:=hpq.mono hs_H;rw[hpp]at hp2;obtain⟨f0,f1⟩:=qbH hp2 ha1;rw[<-hpj]at f0 f1;have hpk:=hpr p hpm;obtain⟨hu1,hu2⟩:=hx2 p.1 (by rw[hpl];exact Bp (f:=(·.1)) hpm);have hu3:=hy2 p.1 (by rw[hpl];exact Bp (f:=(·.1)) hpm);have hst2:=qjr (d:=qbu) ha1;rw[<-hpj]at hst2;rw[hst2,Es]at hga;have hl5:=hpk.live;have hs5:=hpk.scal;obtain⟨⟨pw,pt⟩,pv⟩:=p;simp only at f0 f1 hpk hl5 hs5 hu1 hu2 hu3 hga;have hwa:IntKind.i64.wrap ((a:Int)+1)=((a+1:Nat):Int):=by rw[wrap_i64 (by omega) (by omega)];omega
    have hp10:(xs++WU pw++pt)<+:R:=by
     rw[hga];exact(((Ut qlB _ _).trans (Ut (qlC m) _ _)).trans (qih _ _)).trans (qgJ (qaf m) _ _)
    have hn10:=qfS hp10 hT;rw[Jc,Jc]at hn10;refine qV ?_;change Awp _ _ _ _ _ _ _;refine qF ?_;refine Qb ?_;refine awp_rseq [0,6,8,11,12,13,28,29,30] (by rfl) fun K hK=>?_;simp+decide only[ev,putD,VG,VH,Ka,Kb,↓qZ,Qc,qA Tryz.underlying79 qab,↓qI,Qz ag84 qab,Qd,Qw,allLive,J4,hpp,f0,f1,hl5,VN];repeat (with_reducible refine And.intro ?_ ?_;· first|trivial|omega|(intro hg;simp only[Ky,JF,Ji,VO,VL,VK,decide_eq_true_eq,decide_eq_false_iff_not,Xd]at hg;omega))
    refine Xb qrJ (cs:=[.str [], .nilSlice]) (by rfl) fun k9q2 hk9q2=>?_;have hn_9q2:H k9q2=none:=by first|assumption|(simp only[VU]at hk9q2;simp only[hk9q2])
    have hf_9q2:h k9q2=none:=VV hs_H hn_9q2;have ne_9q2_3q2:k9q2≠k3q2:=VW hn_9q2 eb_3q2;refine Qi (by rfl) (by rfl) zqA qab (by rfl) (by rfl) zqD (Jr _) (by first|rfl|(simp+decide only[ev,putD,VG,VH,Ka,VY,QU,J4,hs5,YT])) ?_;simp only[VX,VY];simp+decide only[qa,ev,putD,VG,VH,VI,Ka,setAt,VZ,Kj,Jq];apply hK;clear hK K;have hS9:=BL hS hn_9q2 (⟨[.str pw,pv],0⟩:Blk);simp only[Kh,Je]at hS9;refine qak [0,1,2,5,6,3,4,7,8] [0,0,0,2,2,0,0,0,0] [none,none,none,none,none,none,some 5,some 6,some 7] 6 (h.set k9q2 ⟨[.str pw,pv],0⟩) mixed (by kernel_rfl) (by rfl) (EI hs_H _ _) ?_;simp only[Yi,VB,Et,Kz,KN];simp+decide only[qa,ev,putD,VG,VH,Ka,Kb,Uy,Uw,WO,Ub,Wv,↓qg,qd,↓qC,qi,qhc,↓qI,Qc,qj ag9,UT,qj qam,XN,VJ,Kn,Jq,Qw,hl5];refine qY (by rfl) (by rfl) (qml wz hsp _ pw hu1 hu3) fun x10q3 h10q3 hx10q3=>?_;obtain⟨hrS,hsA⟩:=hx10q3;have hSA:=hS9.forget hsA;rw[qa];refine And.intro (by first|exact Vh _|assumption|exact Vi (by assumption)) ?_;simp+decide only[putD,VG,Ka];refine Zj (es:=5) (v:=rv) (p:=rp) (xs:=xs.map Xy) (ys:=(WU pw).map Xy) (i:=2) (by rfl) (by rfl) Tryz.underlying39 Tryz.underlying39 (fun k e=>by cases e) Yl qfo qdo (by rfl) (by decide) (by rfl) hrow hG rfl hSA (by rfl) hrS (qbd _) (by simp only[Jo];omega) (by simp only[Jo];omega) fun rv10 rp10 h10 hrow10 hG10 hS10=>?_;rw[<-Vr]at hrow10;simp only[Kj,VZ]at hS10;have hrl10:=hrow10.live;have hsB:Sub (h.set k9q2 ⟨[.str pw,pv],0⟩) h10:=Sub.set_of (hS10.in_ (i:=0) rfl) (hS10.at_ (i:=3) rfl);rw[qa];refine And.intro (by first|exact Vh _|assumption|exact Vi (by assumption)) ?_;simp+decide only[putD,VG,Ka];refine Zj (es:=5) (v:=rv10) (p:=rp10) (xs:=(xs++WU pw).map Xy) (ys:=pt.map Xy) (i:=2) (by rfl) (by rfl) Tryz.underlying39 Tryz.underlying39 (fun k e=>by cases e) Yl qfo qdo (by rfl) (by decide) (by rfl) hrow10 hG10 rfl hS10 (by rfl) (hpk.mono (hS10.in_ (i:=0) rfl)) (qbd _) (by simp only[Jo,Jc];omega) (by simp only[Jo,Jc];omega) fun rv11 rp11 h11 hrow11 hG11 hS11=>?_;rw[<-Vr]at hrow11;simp only[Kj,VZ]at hS11;have hrl11:=hrow11.live;have hsC:Sub (h.set k9q2 ⟨[.str pw,pv],0⟩) h11:=Sub.set_of (hS11.in_ (i:=0) rfl) (hS11.at_ (i:=3) rfl);rw[qa];refine And.intro (by first|exact Vh _|assumption|exact Vi (by assumption)) ?_;simp+decide only[qa,ev,putD,VG,VH,Ka,Kb,↓qf,qc];repeat (with_reducible refine And.intro ?_ ?_;· first|trivial|omega|(intro hg;simp only[Ky,JF,Ji,VO,VL,VK,decide_eq_true_eq,decide_eq_false_iff_not,Xd]at hg;omega))
    change Awp _ _ _ _ _ _ _;refine Xa [0,6,11,12,13,28,29,30] (by rfl) ?_;simp+decide only[qa,ev,qK,qG,putD,VG,VH,VI,Ka,Kb,↓qo,qh,qE,cond_false,qz,QW,↓qg,qd,hwa];try simp only[qR]
    exact⟨⟨a+1,xs++WU pw++pt,rv11,rp11,h11⟩,by first|rfl|(rw[hpe,hpp];rfl),Vh _,⟨hS11.sub (by simp),ha1,hrow11,hG11,hga⟩,by simp only;omega⟩
   ·try simp only[decide_eq_false_iff_not]at hb3
    have haq:a=pl.length:=by omega
    rw[haq,J8]at hga;have hg12:R=YA (XH m) (qfv qv (((ql.drop 0).map (·.1)).foldl (qkb (XH m)) xs)) L:=hga;refine QI ?_;change Awp _ _ _ _ _ _ _;refine qF ?_;refine awp_rseq [0,6,11,12,13,44,45,46] (by rfl) fun K hK=>?_;simp+decide only[qa,ev,qK,qG,putD,VG,VH,VI,Ka,Kb,↓qC,qi,Yf,↓qI,Qc,qj qbB,↓QB,Qo,↓qg,qd,Qj wz eb_3q2,VJ,Kn,Jq,nb,hl2];apply hK;clear hK K;refine Qb ?_;refine QN [0,6,11,12,13,44,45,46] (fun g:WrG=>[(0,g.rv),(6, .ptr (.own k3q2) 0),(11,v),(12, .int .i64 qs.length),(13, .int .i64 j),(44,qb),(45, .int .i64 ql.length),(46, .int .i64 g.j)]) (fun g:WrG=>g.H) (fun g:WrG=>AM.Sep [h,one k3q2 ⟨[.str qv, .int .i64 qln, .int .i64 qcl,qp,qb],0⟩,g.rp] g.H/\g.j<=ql.length/\GrowV 5 g.rv g.rp (g.xs.map Xy)/\isG g.rv=true/\R=YA (XH m) (qfv qv (((ql.drop g.j).map (·.1)).foldl (qkb (XH m)) g.xs)) L) (fun g:WrG=>ql.length-g.j) ⟨0,xs,rv,rp,H⟩ (by first|rfl|(rw[hpe];rfl)) (Vh _) ⟨hS,Jr _,hrow,hG,hg12⟩ ?_;rintro⟨a,xs,rv,rp,H⟩ ⟨hS,ha,hrow,hG,hga⟩;simp only at hS ha hrow hG hga|-
    have hs_H:Sub h H:=hS.in_ (i:=0) rfl;have eb_3q2:H k3q2=some _:=hS.at_ (i:=1) rfl;have hrl:=hrow.live;refine awp_rseq [0,6,11,12,13,44,45,46,47] (by rfl) fun K hK=>?_;simp+decide only[qa,ev,putD,VG,VH,VI,Ka,Kb,↓qo,qh,qN,cond_false,qz,Xt];apply hK;clear hK K;refine qF (qM (b:=_) rfl (fun hb4=>?_) (fun hb4=>?_))
    ·try simp only[decide_eq_true_eq]at hb4
     have ha1:a<ql.length:=by omega
     obtain⟨p,hpj⟩:∃p,p=ql.getD a qcj:=⟨_,rfl⟩
     have hpm:p∈ql:=by rw[hpj,Ko,JH ha1];exact VA ha1
     obtain⟨lp,op,cp,hpp⟩:=qaZ hqb (by omega);have hp2:=hqb.mono hs_H;rw[hpp]at hp2;obtain⟨f0,f1,f2⟩:=qdT hp2 ha1;rw[<-hpj]at f0 f1 f2;obtain⟨hpk,hps⟩:=hqq p hpm;obtain⟨hu1,hu2,hu4⟩:=hx3 p.1 (by rw[hql];exact Bp (f:=(·.1)) hpm);obtain⟨hu3,hu5⟩:=hy3 p.1 (by rw[hql];exact Bp (f:=(·.1)) hpm);obtain⟨-,hu6⟩:=hbb p.1 (by rw[hql];exact Bp (f:=(·.1)) hpm);have hst2:=qjr (d:=qcj) ha1;rw[<-hpj]at hst2;rw[hst2,Es]at hga;have hl5:=hpk.live;have hs5:=hpk.scal;obtain⟨hl6,hs6,-⟩:=hps.shape;obtain⟨⟨pw,pt,pL⟩,pv,pLv⟩:=p;simp only at f0 f1 f2 hpk hps hl5 hs5 hl6 hs6 hu1 hu2 hu3 hu4 hu5 hu6 hga;have hwa:IntKind.i64.wrap ((a:Int)+1)=((a+1:Nat):Int):=by rw[wrap_i64 (by omega) (by omega)];omega
     have hp15:XH m (xs++WU pw++pt) pL<+:R:=by
      rw[hga];exact((Ut (qlC m) _ _).trans (qih _ _)).trans (qgJ (qaf m) _ _)
     have hn15:=qfS hp15 hT;have hn16:=qfS ((qaf m (xs++WU pw++pt) pL).trans hp15) hT;rw[Jc,Jc]at hn16;refine qV ?_;change Awp _ _ _ _ _ _ _;refine qF ?_;refine Qb ?_;refine awp_rseq [0,6,10,11,12,13,44,45,46] (by rfl) fun K hK=>?_;simp+decide only[ev,putD,VG,VH,Ka,Kb,↓qZ,Qc,qA Tryz.underlying80 UE,↓qI,Qz qoc UE,Qd,Qw,allLive,J4,hpp,f0,f1,f2,hl5,hl6,VN];repeat (with_reducible refine And.intro ?_ ?_;· first|trivial|omega|(intro hg;simp only[Ky,JF,Ji,VO,VL,VK,decide_eq_true_eq,decide_eq_false_iff_not,Xd]at hg;omega))
     refine Xb qjZ (cs:=[.str [], .nilSlice, .nilSlice]) (by rfl) fun k14q2 hk14q2=>?_;have hn_14q2:H k14q2=none:=by first|assumption|(simp only[VU]at hk14q2;simp only[hk14q2])
     have hf_14q2:h k14q2=none:=VV hs_H hn_14q2;have ne_14q2_3q2:k14q2≠k3q2:=VW hn_14q2 eb_3q2;refine Qi (by rfl) (by rfl) zqA UE (by rfl) (by rfl) zqD (Jr _) (by first|rfl|(simp+decide only[ev,putD,VG,VH,Ka,VY,QU,J4,hs5,hs6,YT])) ?_;simp only[VX,VY];simp+decide only[qa,ev,putD,VG,VH,VI,Ka,setAt,VZ,Kj,Jq,Nat.reduceAdd];apply hK;clear hK K;have hS9:=BL hS hn_14q2 (⟨[.str pw,pv,pLv],0⟩:Blk);simp only[Kh,Je]at hS9;refine qak [0,1,2,5,6,8,9,3,4,7,10,11] [0,0,0,2,2,2,2,0,0,0,0,0] [none,none,none,none,none,none,none,none,some 7,some 8,some 9,some 10] 8 (h.set k14q2 ⟨[.str pw,pv,pLv],0⟩) mixed (by kernel_rfl) (by rfl) (EI hs_H _ _) ?_;simp only[Yi,VB,Et,Kz,KN];simp+decide only[qa,ev,putD,VG,VH,Ka,Kb,Uy,Uw,WO,Ub,Wv,↓qg,qd,↓qC,qi,qhb,↓qI,Qc,qj ag9,qcT,qj qam,qcS,qj qhm,XN,VJ,Kn,Jq,Qw,hl5,hl6];refine qY (by rfl) (by rfl) (qml wz hsp _ pw hu1 hu3) fun x15q3 h15q3 hx15q3=>?_;obtain⟨hrS,hsA⟩:=hx15q3;have hSA:=hS9.forget hsA;rw[qa];refine And.intro (by first|exact Vh _|assumption|exact Vi (by assumption)) ?_;simp+decide only[putD,VG,Ka];refine Zj (es:=5) (v:=rv) (p:=rp) (xs:=xs.map Xy) (ys:=(WU pw).map Xy) (i:=2) (by rfl) (by rfl) Tryz.underlying39 Tryz.underlying39 (fun k e=>by cases e) Yl qfo qdo (by rfl) (by decide) (by rfl) hrow hG rfl hSA (by rfl) hrS (qbd _) (by simp only[Jo];omega) (by simp only[Jo];omega) fun rv10 rp10 h10 hrow10 hG10 hS10=>?_;rw[<-Vr]at hrow10;simp only[Kj,VZ]at hS10;have hrl10:=hrow10.live;have hsB:Sub (h.set k14q2 ⟨[.str pw,pv,pLv],0⟩) h10:=Sub.set_of (hS10.in_ (i:=0) rfl) (hS10.at_ (i:=3) rfl);rw[qa];refine And.intro (by first|exact Vh _|assumption|exact Vi (by assumption)) ?_;simp+decide only[putD,VG,Ka];refine Zj (es:=5) (v:=rv10) (p:=rp10) (xs:=(xs++WU pw).map Xy) (ys:=pt.map Xy) (i:=2) (by rfl) (by rfl) Tryz.underlying39 Tryz.underlying39 (fun k e=>by cases e) Yl qfo qdo (by rfl) (by decide) (by rfl) hrow10 hG10 rfl hS10 (by rfl) (hpk.mono (hS10.in_ (i:=0) rfl)) (qbd _) (by simp only[Jo,Jc];omega) (by simp only[Jo,Jc];omega) fun rv11 rp11 h11 hrow11 hG11 hS11=>?_;rw[<-Vr]at hrow11;simp only[Kj,VZ]at hS11;have hrl11:=hrow11.live;have hsC:Sub (h.set k14q2 ⟨[.str pw,pv,pLv],0⟩) h11:=Sub.set_of (hS11.in_ (i:=0) rfl) (hS11.at_ (i:=3) rfl);have hS12:AM.Sep ([h,one k3q2 ⟨[.str qv, .int .i64 qln, .int .i64 qcl,qp,qb],0⟩,one k14q2 ⟨[.str pw,pv,pLv],0⟩]++[rp11]) h11:=hS11.perm (.cons _ (.cons _ (List.Perm.swap _ _ _)));have hB12:=hS12.left;have hF12:=BF hS12;rw[qa];refine And.intro (by first|exact Vh _|assumption|exact Vi (by assumption)) ?_;simp+decide only[putD,VG,Ka];refine qY (by rfl) (by rfl) (ih (WB [h,one k3q2 ⟨[.str qv, .int .i64 qln, .int .i64 qcl,qp,qb],0⟩,one k14q2 ⟨[.str pw,pv,pLv],0⟩]) pLv rv11 rp11 h11 (xs++WU pw++pt) pL (hps.mono (XI hB12 _ (by simp))) hu6 hu4 hu5 hrow11 hG11 hF12 hn15) fun x15q10 h15q10 hx15q10=>?_;obtain⟨rp13,hrow13,hG13,hS13⟩:=hx15q10;have hS14:=Ep hB12 hS13;simp only[Kh,Je]at hS14;have hrl13:=hrow13.live;have hsD:Sub (h.set k14q2 ⟨[.str pw,pv,pLv],0⟩) h15q10:=Sub.set_of (hS14.in_ (i:=0) rfl) (hS14.at_ (i:=2) rfl);rw[qa];refine And.intro (by first|exact Vh _|assumption|exact Vi (by assumption)) ?_;simp+decide only[qa,ev,putD,VG,VH,Ka,Kb,↓qf,qc];repeat (with_reducible refine And.intro ?_ ?_;· first|trivial|omega|(intro hg;simp only[Ky,JF,Ji,VO,VL,VK,decide_eq_true_eq,decide_eq_false_iff_not,Xd]at hg;omega))
     change Awp _ _ _ _ _ _ _;refine Xa [0,6,11,12,13,44,45,46] (by rfl) ?_;simp+decide only[qa,ev,qK,qG,putD,VG,VH,VI,Ka,Kb,↓qo,qh,qE,cond_false,qz,QW,↓qg,qd,hwa];try simp only[qR]
     exact⟨⟨a+1,XH m (xs++WU pw++pt) pL,x15q10,rp13,h15q10⟩,by first|rfl|(rw[hpe,hpp];rfl),Vh _,⟨hS14.sub (by simp),ha1,hrow13,hG13,hga⟩,by simp only;omega⟩
    ·try simp only[decide_eq_false_iff_not]at hb4
     have haq:a=ql.length:=by omega
     rw[haq,J8]at hga;have hg17:R=YA (XH m) (qfv qv xs) L:=hga;have hp17:qfv qv xs<+:R:=by rw[hg17];exact qgJ (qaf m) _ _
     have hn17:=qfS hp17 hT;refine QI ?_;change Awp _ _ _ _ _ _ _;have hcd:hasEnd qv=(!Lib.contains qv [32] && Lib.contains qcr ([32]++qv++[32])):=rfl;cases z1:Lib.contains qv [32];all_goals
      refine awp_rseq [0,6,11,12,13,72] (by rfl) fun K hK=>?_;simp+decide only[ev,putD,VG,VH,Ka,Kb,↓qC,qi,WY,↓qI,Qc,qj ag9,Qj wz eb_3q2,VJ,Jq,Qw];refine QS (V:= .bool (Lib.contains qv [32])) (by rfl) (by rfl) (YM wz hm _ qv [32] (by omega)) ?_;simp+decide only[ev,qK,qG,putD,VG,VH,Ka,Kb,↓qeB,Zn,YJ,↓qg,qd,↓Xe,qi,agP,Qs,qW,qP,qH,implies_true,Bd,Be,Qf,QO,forall_const,false_implies,WY,UB,↓XJ,Xp,ZL,qj ag9,↓QJ,qh,qN,cond_false,Qp,YK,Qy,Qj wz eb_3q2,VJ,Jq,Qw,z1,KY,Jc,JN];repeat (with_reducible refine And.intro ?_ ?_;· first|trivial|omega|(intro hg;simp only[Ky,JF,Ji,VO,VL,VK,decide_eq_true_eq,decide_eq_false_iff_not,Xd]at hg;omega))
      first
      |(refine Zb (by rfl) ?_;refine QS (V:= .bool (Lib.contains qcr ([32]++qv++[32]))) (by rfl) (by rfl) (YM wz hm _ qcr ([32]++qv++[32]) (by decide)) ?_)
      |(refine qbb (by rfl) (by rfl) ?_)
      simp+decide only[qa,ev,qK,qG,putD,VG,VH,VI,Ka,Kb,↓QC,Qr,Qe,QH];apply hK;clear hK K;refine qM (b:=_) rfl (fun hb5=>?_) (fun hb5=>?_)
      ·try (cases hb5;done)
       all_goals have hh:hasEnd qv=true:=by rw[hcd,z1];exact hb5
       all_goals clear hb5
       all_goals unfold qfv at hg17 hn17
       all_goals rw[if_pos hh,Jc]at hn17
       all_goals rw[if_pos hh]at hg17
       all_goals
        refine Xa [0,11,12,13] (by rfl) ?_;simp+decide only[ev,qK,qG,putD,VG,VH,Ka,Kb,↓qg,qd,↓qC,qi,WY,↓qI,Qc,qj ag9,↓qo,qh,qN,cond_false,Qp,YK,Qj wz eb_3q2,VJ,Jq,Nat.reduceAdd,Qw,KY,JN];repeat (with_reducible refine And.intro ?_ ?_;· first|trivial|omega|(intro hg;simp only[Ky,JF,Ji,VO,VL,VK,decide_eq_true_eq,decide_eq_false_iff_not,Xd]at hg;omega))
        refine qY (by rfl) (by rfl) (qml wz hsp _ (ENDd++qv) (by unfold ENDd;simp only[Jc,KY,JN];omega) (qpD hy0)) fun x18q4 h18q4 hx18q4=>?_;obtain⟨hrS,hsA⟩:=hx18q4;have hSA:=hS.forget hsA;refine Zj (es:=5) (v:=rv) (p:=rp) (xs:=xs.map Xy) (ys:=(WU (ENDd++qv)).map Xy) (i:=2) (by rfl) (by rfl) Tryz.underlying39 Tryz.underlying39 (fun k e=>by cases e) Yl qfo qdo (by rfl) (by decide) (by rfl) hrow hG rfl hSA (by rfl) hrS (qbd _) (by simp only[Jo];rw[<-qkA];omega) (by simp only[Jo];rw[<-qkA];omega) fun rv18 rp18 h18 hrow18 hG18 hS18=>?_;rw[<-Vr]at hrow18;simp only[Kj,VZ]at hS18;simp+decide only[qa,ev,putD,VG,VH,VI,Ka,Kb,↓qf,qc];change Awp _ _ _ _ _ _ _;refine Xa [0,11,12,13] (by rfl) ?_;simp+decide only[qa,ev,qK,qG,putD,VG,VH,VI,Ka,Kb,↓qo,qh,qE,cond_false,qz,QW,↓qg,qd,hwj];try simp only[qR]
        first
        |exact⟨⟨j+1,xs++WU (ENDd++qv),rv18,rp18,h18⟩,by first|rfl|(rw[hpe];rfl),Vh _,⟨hS18.sub (by simp),hj1,hrow18,hG18,by simp only;rw[<-hL];exact hg17⟩,by simp only;omega⟩
        |exact⟨⟨j+1,xs,rv,rp,H⟩,by first|rfl|(rw[hpe];rfl),Vh _,⟨hS.sub (by simp),hj1,hrow,hG,by simp only;rw[<-hL];exact hg17⟩,by simp only;omega⟩
      ·have hh:hasEnd qv=false:=by
        rw[hcd,z1];first
         |rfl
         |(have q:Lib.contains qcr ([32]++qv++[32])=false:=hb5
           rw[q];rfl)
       clear hb5;unfold qfv at hg17;rw[if_neg (by rw[hh];decide)]at hg17;all_goals
        refine qV ?_;change Awp _ _ _ _ _ _ _;refine Xa [0,11,12,13] (by rfl) ?_;simp+decide only[qa,ev,qK,qG,putD,VG,VH,VI,Ka,Kb,↓qo,qh,qE,cond_false,qz,QW,↓qg,qd,hwj];try simp only[qR]
        first
        |exact⟨⟨j+1,xs++WU (ENDd++qv),rv18,rp18,h18⟩,by first|rfl|(rw[hpe];rfl),Vh _,⟨hS18.sub (by simp),hj1,hrow18,hG18,by simp only;rw[<-hL];exact hg17⟩,by simp only;omega⟩
        |exact⟨⟨j+1,xs,rv,rp,H⟩,by first|rfl|(rw[hpe];rfl),Vh _,⟨hS.sub (by simp),hj1,hrow,hG,by simp only;rw[<-hL];exact hg17⟩,by simp only;omega⟩
 ·try simp only[decide_eq_false_iff_not]at hb1
  have hjq:j=qs.length:=by omega
  rw[hjq,J8]at hg;have hgR:R=xs:=hg;refine QI ?_;change Awp _ _ _ _ _ _ _;refine awp_rseq [4] (by rfl) fun K hK=>?_;simp+decide only[qa,ev,putD,VG,VH,VI,Ka,Kb,↓qg,qd,↓qf,qc];apply hK;clear hK K;refine Qn ?_;refine Qu (qJ (qO)) ?_;simp+decide only[VH,if_true,Qg];exact⟨H,Vh _,rp,by rw[hgR];exact hrow,hG,hS⟩
theorem qrs(wz:World)(hm:MaxL wz)(hsp:Asp wz):∀(m:Nat) (h:AHeap) (v ov:AVal) (op H:AHeap) (xs:List TokC) (l:List StC),StsV wz m h v l->SmallS m l->TxS m l->qkl m l->GrowV 5 ov op (xs.map Xy)->isG ov=true->AM.Sep [h,op] H->(XH m xs l).length<=1000000000->ACall Tryz.prog wz 46 [ov,v] H (qjL wz h (XH m xs l))
 |0,h,v,ov,op,H,xs,l,hs,_,_,_,hrow,hG,hS,_=>by
  obtain⟨rfl,hv⟩:=sts0 hs;exact c_write0 wz h v ov op H xs hv hrow hG hS
 |m+1,h,v,ov,op,H,xs,l,hs,hsm,htx,hac,hrow,hG,hS,hT=>c_writeS wz hm hsp m h v ov op H xs l hs hsm htx hac hrow hG hS hT fun h' v ov op H' xs l a b c d e f g i=>qrs wz hm hsp m h' v ov op H' xs l a b c d e f g i
end Go.Proofs.YtgiadjbiimkbiaaGreatDoor
namespace Go.Stm
open Go.Col (Str FaultC okF)
open Go.Tok
set_option maxRecDepth 100000
theorem qew(l:List TokC)(i j:Nat):(l.drop i).getD j noT=l.getD (i+j) noT:=by
 rw[Ko,Ko,List.getElem?_drop]
theorem qev(l:List TokC)(i j:Nat):j<(l.drop i).length↔i+j<l.length:=by rw[K6];omega
theorem qsv(l:List TokC)(i j:Nat)(w:Str):qkf (l.drop i) j w=qkf l (i+j) w:=by
 unfold qkf;rw[qew];by_cases h:i+j<l.length
 ·rw[if_pos ((qev l i j).2 h),if_pos h]
 ·rw[if_neg (fun q=>h ((qev l i j).1 q)),if_neg h]
theorem qdJ(l:List TokC)(i:Nat):∀(ws:List Str) (j:Nat),YY l ws (i+j)=(YY (l.drop i) ws j).map (i+ ·)
 |[],j=>rfl
 |w::ws,j=>by
  rw[YY,YY,qsv];split
  ·rw[Nat.add_assoc,qdJ l i ws (j+1)]
  ·split
   ·rfl
   ·exact qdJ l i ws j
theorem qpd(l:List TokC)(i:Nat)(f:Str):qae l i f=qae (l.drop i) 0 f:=by
 unfold qae;have:=qdJ l i (Lib.fields f) 0;rw[K7]at this;rw[this];cases YY (l.drop i) (Lib.fields f) 0 with
 |none=>rfl
 |some j=>simp
theorem qfC(l:List TokC)(i:Nat)(F:Str):QZ l i F=QZ (l.drop i) 0 F:=by
 unfold QZ;simp only[qpd l i]
theorem qnr(l:List TokC)(i:Nat):isE l i=isE (l.drop i) 0:=by
 unfold isE;rw[qew,K7];by_cases h:i<l.length
 ·rw[if_pos h,if_pos ((qev l i 0).2 (by omega))]
 ·rw[if_neg h,if_neg (fun q=>h (by have:=(qev l i 0).1 q;omega))]
theorem qnp(l:List TokC)(i:Nat):isV l i=isV (l.drop i) 0:=by
 unfold isV;rw[qew,K7];by_cases h:i<l.length
 ·rw[if_pos h,if_pos ((qev l i 0).2 (by omega))]
 ·rw[if_neg h,if_neg (fun q=>h (by have:=(qev l i 0).1 q;omega))]
theorem qkU(l:List TokC)(i:Nat):qai l i=qai (l.drop i) 0:=by
 unfold qai;rw[qew,K7]
def TEf:Str:=[84,72,69,78,59,69,76,83,69]
def EVf:Str:=[87,72,69,78,32,79,84,72,69,82,59,87,72,69,78]
def UNTILw:Str:=[85,78,84,73,76]
def Aw:Str:=[65]
def Bw:Str:=[66]
def nestF:List Str:=[[],TEf,EVf]
structure WordAt(l:List TokC)(i:Nat):Prop where
 e:isE l i=false
 n:qai l i=[]
 v:isV l i=false
 f:∀F∈nestF,(QZ l i F).2=0
theorem qss{p:Str->Prop}(h0:p [])(h1:p TEf)(h2:p EVf):∀F∈nestF,p F:=fun F hF=>by
 simp only[nestF,KX,List.not_mem_nil,or_false]at hF;rcases hF with rfl|rfl|rfl<;>assumption
theorem word_at{l:List TokC}{i:Nat}{w:Str}{a b:Int}{c:Bool}{R:List TokC}(h:l.drop i=⟨1,w,a,b,c⟩::R)(hw:w=Aw\/w=UNTILw\/w=Bw):WordAt l i:=by
 rcases hw with rfl|rfl|rfl;all_goals refine⟨by rw[qnr,h];kernel_rfl,by rw[qkU,h];kernel_rfl,by rw[qnp,h];kernel_rfl,qss ?_ ?_ ?_⟩
 all_goals (rw[qfC,h];kernel_rfl)
section
variable {l:List TokC} {d i:Nat} {O:List Str}
theorem one_at{u:TokC}{R:List TokC}{a b:Int}{c:Bool}(hu:u=⟨2,[49],a,b,c⟩)(h:l.drop i=u::R):isE l i=false/\isV l i=false/\qai l i=[]/\(QZ l i EVf).2=0:=by
 subst hu;refine⟨by rw[qnr,h];kernel_rfl,by rw[qnp,h];kernel_rfl,by rw[qkU,h];kernel_rfl,by rw[qfC,h];kernel_rfl⟩
end
section
variable {l:List TokC} {d i:Nat} {O:List Str}
end
def kt(t:TokC):UInt8×Str:=(t.kind,t.text)
section
variable {ta:List TokC} {x y z u:UInt8×Str}
end
end Go.Stm
namespace Go.Stm
open Go.Col (Str FaultC)
open Go.Tok
def XK(d:Nat)(l:List StC):List TokC:=
 if l=[]then[]else if YF 32 l=true then[]else if 65536<(XH d [] l++[qei]).length then[]else XH d [] l++[qei]
def qdZ(d:Nat)(l:List StC)(e:Int):Prop:=
 (0<l.length/\XK d l=[]/\e=3)\/
 (¬(0<l.length/\XK d l=[])/\((∃f,ParseR QV (XK d l) XE (.bad f)/\e=if f.e=0 then(if qaJ 32 [] l=true then 0 else 4)else 4)\/∃L j,ParseR QV (XK d l) XE (.ok L j)/\e=if qaJ 32 L l=true then 0 else 4))
end Go.Stm
namespace Go.Proofs.YtgiadjbiimkbiaaGreatDoor
open Go.AM
open Go.Proofs
open Go.Col (Str FaultC okF)
open Go.Tok (TokC)
open Go.Stm
open Go.RowKit (Below)
set_option maxRecDepth 100000
structure StsOk(wz:World)(d:Nat)(h:AHeap)(v:AVal)(l:List StC):Prop where
 mem:StsV wz d h v l
 small:SmallS d l
 tx:TxS d l
 asc:qkl d l
set_option maxHeartbeats 8000000 in
theorem qlb(wz:World)(hm:MaxL wz)(ha:Asp wz)(d:Nat)(h:AHeap)(v:AVal)(l:List StC)(hs:StsOk wz d h v l)(hT:(XH d [] l).length<=1000000000):
 ACall Tryz.prog wz 23 [v] h (fun r h'=>IsL wz h' 5 r ((XK d l).map Xy)/\AM.Sub h h'):=by
 have hlv:=hs.mem.shape.1;have nL:=qas hs.mem;obtain⟨R,hRR⟩:∃R,R=XK d l:=⟨_,rfl⟩
 have hR:=hRR;unfold XK at hR;rw[<-hRR];refine Ql (n:=21) (rs:=[.tmp 2]) Tryz.func23 rfl rfl rfl rfl (VF rfl) ?_;simp only[Qm];refine awp_rseq [0] (by rfl) fun K hK=>?_;simp+decide only[qa,ev,qK,qG,putD,VG,VI,Ka,Kb,↓qf,qc];apply hK;clear hK K;refine qF ?_;have y0:(l.length=0/\∀z:Bool,(z && true)=z)\/(¬l.length=0/\YF 32 l=true)\/(¬l.length=0/\YF 32 l=false):=by
  by_cases y1:l.length=0
  ·exact .inl ⟨y1,J4⟩
  ·cases y2:YF 32 l with
   |true=>exact .inr (.inl ⟨y1,rfl⟩)
   |false=>exact .inr (.inr ⟨y1,rfl⟩)
 rcases y0 with⟨y1,y2⟩|⟨y1,y2⟩|⟨y1,y2⟩
 all_goals
  refine awp_rseq [0,10] (by rfl) fun K hK=>?_;simp+decide only[ev,qK,qG,putD,VG,VH,Ka,Kb,↓qg,qd,↓QB,Qo,↓qo,qh,qE,cond_false,qz,XV,↓Xc,agP,Qs,qW,qP,qU,implies_true,decide_true,decide_false,Bd,Be,Qf,QO,nL,y1,Int.natCast_eq_zero];first
  |(refine qbb (by rfl) (by rfl) ?_)
  |(refine Zb (by rfl) ?_
    refine qY (by rfl) (by rfl) (qjw wz 32 d _ v l (by decide) hs.mem hs.small) fun x1q5 h1q5 hx1q5=>?_;obtain⟨rfl,hs1⟩:=hx1q5)
  simp+decide only[qa,ev,qK,qG,putD,VG,VH,VI,Ka,Kb,↓QC,Qr,Qe,QH,XO,J4,y2];apply hK;clear hK K;refine qM (b:=_) rfl (fun hb1=>?_) (fun hb1=>?_)
  ·try (cases hb1;done)
   all_goals clear hb1
   all_goals
    have hN:R=[]:=by
     rw[hR];first
      |(rw[if_pos (Kg y1)];done)
      |(rw[if_neg (fun e=>y1 (by rw[e];rfl)),if_pos y2];done)
   all_goals
    refine awp_rseq [2] (by rfl) fun K hK=>?_;simp+decide only[qa,ev,qK,qG,putD,VG,VI,Ka,Kb,↓qf,qc];apply hK;clear hK K;refine Qn ?_;try simp only[QM]
    refine Qu (qJ (qO)) ?_;simp+decide only[VH,if_true,Qg];rw[hN];exact⟨h,by first|exact Vh _|exact hs1, .nil,Vh _⟩
  ·try (cases hb1;done)
   all_goals clear hb1
   all_goals (rw[if_neg (fun e=>y1 (by rw[e];rfl)),if_neg (by rw[y2];decide)]at hR)
   all_goals have hS0:AM.Sep [h1q5,emp] h1q5:=BU (ps:=[h1q5]) ⟨fun p hp=>by rw[VM.1 hp];exact Vh _,by simp⟩
   all_goals
    refine qV ?_;change Awp _ _ _ _ _ _ _;refine awp_rseq [3] (by rfl) fun K hK=>?_;simp+decide only[ev,putD,VG,VH,Ka,Kb,↓qg,qd];refine qY (by rfl) (by rfl) (qrs wz hm ha d h1q5 v .nilSlice emp h1q5 [] l (hs.mem.mono hs1) hs.small hs.tx hs.asc .nil rfl hS0 hT) fun x3q1 h3q1 hx3q1=>?_;obtain⟨p3,hrow3,hG3,hS3⟩:=hx3q1;have hrl3:=hrow3.live;simp+decide only[ev,qK,qG,putD,VG,VH,if_false,Kb,↓Zo,↓Xz,qhk,evP,Ke,Vj];refine Qh (cs:=Xy qei) (by kernel_rfl) fun k3q3 hk3q3=>?_;try have hf_3q3:h k3q3=none:=by first|assumption|(simp only[VU]at hk3q3;simp only[hk3q3])
    refine Zj (es:=5) (v:=x3q1) (p:=p3) (xs:=(XH d [] l).map Xy) (ys:=[Xy qei]) (i:=1) (by rfl) (by rfl) Tryz.underlying39 Tryz.underlying39 (fun k e=>by cases e) Yl qfo qdo (by rfl) (by decide) (by rfl) hrow3 hG3 rfl (hS3.forget (Vi hk3q3)) (by rfl) (Bh (Vg _ _ _) (fun x hx=>by rw[VM.1 hx];rfl) (by rfl) (by rfl) (.exact 1) (KM _)) (by rfl) (by simp only[Jo,JA];omega) (by simp only[Jo,JA];omega) fun rv4 rp4 h4 hrow4 hG4 hS4=>?_;have hrow4:GrowV 5 rv4 rp4 ((XH d [] l++[qei]).map Xy):=by rw[Vr];exact hrow4
    have hrl4:=hrow4.live;have n4:=Zt (hrow4.isL (wz:=wz) (hS4.in_ (i:=1) rfl));have hs4:AM.Sub h h4:=hs1.trans (hS4.in_ (i:=0) rfl);simp+decide only[qa,ev,putD,VG,VH,VI,Ka,Kb,↓qf,qc];apply hK;clear hK K;refine qF ?_;refine awp_rseq [3,18] (by rfl) fun K hK=>?_;simp+decide only[qa,ev,qK,qG,putD,VG,VH,VI,Ka,Kb,↓qg,qd,↓QB,Qo,↓qo,qh,qE,cond_false,qz,Yk,n4];apply hK;clear hK K;refine qM (b:=_) rfl (fun hb2=>?_) (fun hb2=>?_)
    ·try simp only[decide_eq_true_eq]at hb2
     refine awp_rseq [2] (by rfl) fun K hK=>?_;simp+decide only[qa,ev,qK,qG,putD,VG,VI,Ka,Kb,↓qf,qc];apply hK;clear hK K;refine Qn ?_;try simp only[QM]
     refine Qu (qJ (qO)) ?_;simp+decide only[VH,if_true,Qg];rw[hR,if_pos (by omega)];exact⟨h4,Vh _, .nil,hs4⟩
    ·try simp only[decide_eq_false_iff_not]at hb2
     rw[if_neg (by omega)]at hR;refine qV ?_;change Awp _ _ _ _ _ _ _;refine awp_rseq [2] (by rfl) fun K hK=>?_;simp+decide only[ev,putD,VG,VH,Ka,Kb,↓qg,qd];refine QS (V:=Zi rv4) (by rfl) (by rfl) (qgj wz _ rv4 _ (hrow4.isL (hS4.in_ (i:=1) rfl))) ?_;simp+decide only[qa,ev,putD,VG,VH,VI,Ka,Kb,↓qf,qc];apply hK;clear hK K;refine Qn ?_;refine Qu (qJ (qO)) ?_;simp+decide only[VH,if_true,Qg];rw[hR];exact⟨h4,Vh _,(hrow4.isL (hS4.in_ (i:=1) rfl)).clip,hs4⟩
theorem qbC(d:Nat)(l:List StC):(XK d l).length<=65536:=by
 unfold XK;repeat' split
 all_goals first|(simp;done)|omega
set_option maxHeartbeats 8000000 in
theorem qij(wz:World)(hm:MaxL wz)(ha:Asp wz)(d:Nat)(h:AHeap)(v:AVal)(l:List StC)(hs:StsOk wz d h v l)(hT:(XH d [] l).length<=1000000000)(hsh:Short (XK d l))(hL:∀L j,ParseR QV (XK d l) XE (.ok L j)->SmallS 32 L):
 ACall Tryz.prog wz 22 [v] h (fun r h'=>(∃e,r= .int .i64 e/\qdZ d l e)/\AM.Sub h h'):=by
 have hlv:=hs.mem.shape.1;have nL:=qas hs.mem;refine Ql (n:=30) (rs:=[.tmp 2]) Tryz.func22 rfl rfl rfl rfl (VF rfl) ?_;simp only[Qm];refine awp_rseq [0] (by rfl) fun K hK=>?_;simp+decide only[qa,ev,qK,qG,putD,VG,VI,Ka,Kb,↓qf,qc];apply hK;clear hK K;refine awp_rseq [0,3] (by rfl) fun K hK=>?_;simp+decide only[ev,putD,VG,VH,Ka,Kb,↓qg,qd];refine qY (by rfl) (by rfl) (qlb wz hm ha d _ v l hs hT) fun x1q1 h1q1 hx1q1=>?_;obtain⟨ht1,hs1⟩:=hx1q1;have nT:=Zt ht1;have htl:=ht1.live;have hs_h1q1:Sub h h1q1:=Ba zqC hs1;have hr_h1q1:=hs_h1q1;simp+decide only[qa,ev,putD,VG,VH,VI,Ka,Kb,↓qf,qc];apply hK;clear hK K;refine qF ?_;refine awp_rseq [0,3,15] (by rfl) fun K hK=>?_;simp+decide only[qa,ev,qK,qG,putD,VG,VH,VI,Ka,Kb,↓qg,qd,↓QB,Qo,↓qo,qh,qE,cond_false,qz,Yk,↓Xc,agP,Qs,qW,qP,qH,implies_true,↓qal,qcW,qcY,↓QJ,XL,XM,XV,↓QC,Qr,Qe,QT,QH,nL,nT];apply hK;clear hK K;refine qM (b:=_) rfl (fun hb1=>?_) (fun hb1=>?_)
 ·try simp only[decide_eq_true_eq,Ky]at hb1
  refine awp_rseq [2] (by rfl) fun K hK=>?_;simp+decide only[qa,ev,qK,qG,putD,VG,VI,Ka,Kb,↓qf,qc];apply hK;clear hK K;refine Qn ?_;try simp only[QM]
  refine Qu (qJ (qO)) ?_;simp+decide only[VH,if_true,Qg];refine⟨h1q1,Vh _,⟨3,rfl, .inl ⟨by omega,Kg (by omega),rfl⟩⟩,hs1⟩
 ·try simp only[decide_eq_false_iff_not,VO]at hb1
  have hneg:¬(0<l.length/\XK d l=[]):=fun z=>by
   have z2:=z.2;have z3:(XK d l).length=0:=by rw[z2];rfl
   have:=z.1;omega
  refine qV ?_;change Awp _ _ _ _ _ _ _;refine qF ?_;refine awp_rseq [0,4,5] (by rfl) fun K hK=>?_;simp+decide only[ev,putD,VG,VH,Ka,Kb,↓qg,qd];refine qY (by rfl) (by rfl) (qdb wz hm ha (XK d l) (Vd (qbC d l) (by decide)) hsh _ x1q1 ht1) fun x4q1 h4q1 hx4q1=>?_;obtain⟨hs4,ho⟩:=hx4q1;obtain⟨f,L,rv,rfl,hv4,hsL,hcase⟩:∃f L rv,x4q1= .tuple [rv,faultV f]/\StsV wz 32 h4q1 rv L/\SmallS 32 L/\((ParseR QV (XK d l) XE (.bad f)/\L=[])\/(∃j,ParseR QV (XK d l) XE (.ok L j)/\f=okF)):=by
   rcases ho with⟨f,q,e⟩|⟨L,j,rv,q,e,hv⟩
   ·exact⟨f,[], .nilSlice,e,⟨[],rfl, .nil,fun q hq=>by cases hq⟩,⟨Jr _,fun s hs=>by cases hs⟩, .inl ⟨q,rfl⟩⟩
   ·exact⟨okF,L,rv,e,hv,hL L j q, .inr ⟨j,q,rfl⟩⟩
  have hrl:=hv4.shape.1;have hs_h4q1:Sub h h4q1:=Ba zqC hs4;have hr_h4q1:Sub h1q1 h4q1:=Ba zqC hs4;simp+decide only[ev,putD,VG,VH,Ka,Kb,↓qg,qd,↓Xu,Xk,XA,KY,JN,VJ,Kn,VJ,Kn,Jq,Nat.reduceAdd,faultV];refine Xb qlk (cs:=[.int .i64 0, .int .i64 0, .int .i64 0]) (by rfl) fun k4q5 hk4q5=>?_;have hn_4q5:h4q1 k4q5=none:=by first|assumption|(simp only[VU]at hk4q5;simp only[hk4q5])
  have hf_4q5:h k4q5=none:=VV hs_h4q1 hn_4q5;simp+decide only[ev,putD,VG,VH,Ka,Kb,↓qf,qc];refine Qi (by rfl) (by rfl) zqA qdv (by rfl) (by rfl) zqD (Jr _) (by rfl) ?_;simp only[VX,VY];simp+decide only[qa,ev,putD,VH,VI,Ka,setAt,VZ,Kj,Jq,Nat.reduceAdd];apply hK;clear hK K;have y0:f.e=0\/¬f.e=0:=Classical.em _;rcases y0 with y1|y1;all_goals
   refine awp_rseq [29] (by rfl) fun K hK=>?_;simp+decide only[ev,qK,qG,putD,VG,VH,Ka,Kb,↓qC,qi,fa48_0,↓qI,Qc,qj ag46,↓qo,qh,qE,cond_false,qz,WW,↓qg,qd,↓Xc,agP,Qs,qW,qP,qU,implies_true,decide_true,decide_false,Bd,Be,Qf,QO,XN,VJ,Jq,QL,y1];first
   |(refine qbb (by rfl) (by rfl) ?_)
   |(refine Zb (by rfl) ?_
     refine qY (by rfl) (by rfl) (qmp wz 32 d _ rv v L l (hv4.mono zqB) (hs.mem.mono zqB) hsL hs.small) fun x5q6 h5q6 hx5q6=>?_;obtain⟨rfl,hs5⟩:=hx5q6;have hs5':AM.Sub h h5q6:=Ba zqB hs5)
   simp+decide only[qa,ev,qK,qG,putD,VG,VH,VI,Ka,Kb,qW,qU,↓WR,Zn,agP,Qs,qP,implies_true,Bd,Be,Qf,QO,false_implies,qbo,Bool.false_or,YJ,↓QC,Qr,Qe,XO];apply hK;clear hK K;refine qM (b:=_) rfl (fun hb2=>?_) (fun hb2=>?_)
   ·have hcr:qdZ d l 4:=by
     refine .inr ⟨hneg,?_⟩;rcases hcase with⟨q,rfl⟩|⟨j,q,rfl⟩
     ·refine .inl ⟨f,q,?_⟩
      by_cases z:f.e=0
      ·have zs:qaJ 32 [] l=false:=by first|exact absurd z y1|simpa using hb2
       rw[if_pos z,zs];rfl
      ·rw[if_neg z]
     ·have zs:qaJ 32 L l=false:=by first|exact absurd rfl y1|simpa using hb2
      exact .inr ⟨L,j,q,by rw[zs];rfl⟩
    all_goals
     try simp only[Ji]at hb2
     refine awp_rseq [2] (by rfl) fun K hK=>?_;simp+decide only[qa,ev,qK,qG,putD,VG,VI,Ka,Kb,↓qf,qc];apply hK;clear hK K;refine Qn ?_;try simp only[QM]
     refine Qu (qJ (qO)) ?_;simp+decide only[VH,if_true,Qg];exact⟨h,by first|exact hs5'|exact zqB,⟨4,rfl,hcr⟩,Vh _⟩
   ·try (cases hb2;done)
    all_goals
     have hcr:qdZ d l 0:=by
      refine .inr ⟨hneg,?_⟩;have zs:qaJ 32 L l=true:=by simpa using hb2
      rcases hcase with⟨q,rfl⟩|⟨j,q,rfl⟩
      ·exact .inl ⟨f,q,by rw[if_pos y1,zs];rfl⟩
      ·exact .inr ⟨L,j,q,by rw[zs];rfl⟩
    all_goals
     try simp only[VK]at hb2
     refine qV ?_;change Awp _ _ _ _ _ _ _;refine awp_rseq [2] (by rfl) fun K hK=>?_;simp+decide only[qa,ev,qK,qG,putD,VG,VI,Ka,Kb,↓qf,qc];apply hK;clear hK K;refine Qn ?_;refine Qu (qJ (qO)) ?_;simp+decide only[VH,if_true,Qg];exact⟨h,hs5',⟨0,rfl,hcr⟩,Vh _⟩
end Go.Proofs.YtgiadjbiimkbiaaGreatDoor
namespace Go.Stm
open Go.Col (Str FaultC okF)
open Go.Tok
open Go.Proofs.YtgiadjbiimkbiaaGreatDoor (asciiB TxS qkl Short)
set_option maxRecDepth 100000
end Go.Stm
namespace Go.Stm
open Go.Col (Str FaultC okF)
open Go.Tok
open Go.Proofs.YtgiadjbiimkbiaaGreatDoor (asciiB)
set_option maxRecDepth 100000
theorem qlU(a:Str){b:Str}(hb:b=[]\/∃Y,b=32::Y):Lib.fields (a++b)=Lib.fields a++Lib.fields b:=by
 rcases hb with rfl|⟨Y,rfl⟩
 ·rw[Jz,show Lib.fields []=[]from rfl,Jz]
 ·rw[qkT]
  have:Lib.fields (32::Y)=Lib.fields Y:=by have:=qkT [] Y;rw[Je]at this;rw[this];rfl
  rw[this]
theorem flat_sp{l:List Str}(h:∀x∈l,∃Y,x=32::Y):l.flatten=[]\/∃Y,l.flatten=32::Y:=by
 cases l with
 |nil=>exact .inl rfl
 |cons x l=>
  obtain⟨Y,e⟩:=h x Jf;exact .inr ⟨Y++l.flatten,by rw[Vu,e];rfl⟩
theorem qhK:∀{l:List Str},(∀x∈l,∃Y,x=32::Y)->Lib.fields l.flatten=(l.map Lib.fields).flatten
 |[],_=>rfl
 |x::l,h=>by
  have hl:∀y∈l,∃Y,y=32::Y:=fun y hy=>h y (Jg _ hy);rw[Vu,qlU x (flat_sp hl),qhK hl,Ke,Vu]
end Go.Stm
namespace Go.Stm
open Go.Col (Str FaultC okF)
open Go.Tok
open Go.Proofs.YtgiadjbiimkbiaaGreatDoor (asciiB Short TxS qkl)
set_option maxRecDepth 100000
def Uo(w:Str):Bool:=decide (w.length<=100) && (asciiB w && (!w.contains 62 && (!w.contains 93 && decide ((Lib.fields w).length<=8))))
def qit(v:Str):Bool:=decide (v.length<=20) && (asciiB v && !v.contains 32)
def rowWB(k:Nat):Bool:=let r:=Xn 58 [] (rowsT.getD k []);qit (r.getD 0 []) && ((Yo (r.getD 1 [])).all (fun f=>Uo (Yr f) && decide (f.length<=500)) && (Yo (r.getD 2 [])).all fun f=>Uo (Yr f) && decide (f.length<=500))
theorem rows_W:(((KQ 39).all rowWB) && (Uo (Yr qcC) && Uo (Yr Ye)))=true:=by decide+kernel
def qdY(l:List Str):Prop:=∀f∈l,Uo (Yr f)=true/\f.length<=500
theorem row_W{k:Nat}(hk:k<39){a b c:Str}(h:Xn 58 [] (rowsT.getD k [])=[a,b,c]):qit a=true/\qdY (Yo b)/\qdY (Yo c):=by
 have hr:=rows_W;rw[Ky]at hr;have h1:=JC.1 hr.1 k (JD.2 hk);unfold rowWB at h1;rw[h]at h1;simp only[VJ,Kn,Ky,JC,decide_eq_true_eq]at h1;exact⟨h1.1,h1.2.1,h1.2.2⟩
def qia(t:TokC):Prop:=OkT t/\t.text.length<=16
theorem qbL:∀(s cur:Str),(32:UInt8)∉cur->∀w∈Lib.fieldsGo cur s,(32:UInt8)∉w
 |[],cur,hc,w,hw=>by
  unfold Lib.fieldsGo at hw;split at hw
  ·cases hw
  ·rw[VM.1 hw];exact hc
 |c::s,cur,hc,w,hw=>by
  unfold Lib.fieldsGo at hw;split at hw
  ·split at hw
   ·exact qbL s [] (by simp) w hw
   ·rcases KX.1 hw with z|z
    ·rw[z];exact hc
    ·exact qbL s [] (by simp) w z
  ·rename_i hsp
   refine qbL s (cur++[c]) (fun hm=>?_) w hw;rcases JR.1 hm with z|z
   ·exact hc z
   ·rw[<-VM.1 z]at hsp
    exact hsp (by decide)
theorem qsC{s:Str}:∀w∈Lib.fields s,(32:UInt8)∉w:=qbL s [] (by simp)
theorem qrO{s:Str}{c b:UInt8}(h:b∈Lib.trimB s c):b∈s:=by
 unfold Lib.trimB Lib.trimLeftB Lib.trimRightB at h;have h1:=(EJ _).subset h;have h2:=(EJ _).subset (Eg.1 h1);exact Eg.1 h2
theorem lawT_ok(i:Nat)(w:Str)(h32:(32:UInt8)∉w):OkT (qag i w):=by
 have htr:(32:UInt8)∉Lib.trimB w 34:=fun hm=>h32 (qrO hm);rw[qag];by_cases a:w.getD 0 0=34
 ·rw[if_pos a];exact⟨(by decide:(3:UInt8)<=9),htr⟩
 ·rw[if_neg a]
  by_cases b:48<=w.getD 0 0/\w.getD 0 0<=57
  ·rw[if_pos b];exact⟨(by decide:(2:UInt8)<=9),h32⟩
  ·rw[if_neg b]
   by_cases c:w=[46]
   ·rw[if_pos c];exact⟨(by decide:(6:UInt8)<=9),h32⟩
   ·rw[if_neg c]
    split
    ·exact⟨(by decide:(5:UInt8)<=9),h32⟩
    ·exact⟨(by decide:(1:UInt8)<=9),h32⟩
theorem lawT_len(i:Nat)(w:Str):(qag i w).text.length<=w.length:=by
 have htr:(Lib.trimB w 34).length<=w.length:=Go.Proofs.YtgiadjbiimkbiaaGreatDoor.trimB_le w 34;rw[qag];by_cases a:w.getD 0 0=34
 ·rw[if_pos a];exact htr
 ·rw[if_neg a]
  by_cases b:48<=w.getD 0 0/\w.getD 0 0<=57
  ·rw[if_pos b];exact KM _
  ·rw[if_neg b]
   by_cases c:w=[46]
   ·rw[if_pos c];exact KM _
   ·rw[if_neg c]
    split<;>exact KM _
theorem qkJ:∀(ws:List Str) (i:Nat),∀t∈qaE i ws,∃j,∃w∈ws,t=qag j w
 |[],_,t,h=>by cases h
 |w::ws,i,t,h=>by
  rcases KX.1 h with z|z
  ·exact⟨i,w,Jf,z⟩
  ·obtain⟨j,w',h1,h2⟩:=qkJ ws (i+1) t z
   exact⟨j,w',Jg _ h1,h2⟩
theorem qem{s:Str}(hs:s.length<=16):∀t∈Xg s,qia t:=fun t ht=>by
 obtain⟨j,w,hw,rfl⟩:=qkJ _ _ t ht;exact⟨lawT_ok j w (qsC w hw),Vd (lawT_len j w) (Vd (Go.Proofs.YtgiadjbiimkbiaaGreatDoor.fields_small w hw) hs)⟩
theorem qti(l:List UInt8):∀x∈l.map (fun o:UInt8=>32::opsT.getD (o.toNat%5) []),∃Y,x=32::Y:=fun x hx=>by
 obtain⟨o,_,rfl⟩:=JP.1 hx;exact⟨_,rfl⟩
theorem qll(ops:List UInt8):(Xg (Zd ops)).length<=4:=by
 rw[qdI];unfold Zd;have h4:(ops.take 4).length<=4:=List.length_take_le _ _;rw[qhK (qti _)];generalize ops.take 4=l at h4;have key:∀l:List UInt8,(((l.map fun o:UInt8=>32::opsT.getD (o.toNat%5) []).map Lib.fields).flatten).length=l.length:=by
  intro l;induction l with
  |nil=>rfl
  |cons o l ih=>
   rw[Ke,Ke,Vu,Jc,ih,KY];have h5:o.toNat%5<5:=Km _ (by decide);have:∀q<5,(Lib.fields (32::opsT.getD q [])).length=1:=by decide+kernel
   rw[this _ h5];omega
 rw[key];exact h4
theorem first_4(x:XC)(verb:Str):(Xg (ZZ x verb)).length<=4:=by
 have h:(Xg (if x.p=[]then[]else Zd (x.p.getD 0 noY).ops)).length<=4:=by
  split
  ·exact(by decide:(Xg []).length<=4)
  ·exact qll _
 unfold ZZ;simp only;by_cases hc:verb=IFv/\(if x.p=[]then[]else Zd (x.p.getD 0 noY).ops)=[]
 ·rw[if_pos hc];decide
 ·rw[if_neg hc];exact h
def PhrW(p:PhrC):Prop:=Uo p.words=true/\p.toks.length<=20/\∀t∈p.toks,qia t
def WfS:Nat->List StC->Prop
 |0,l=>l=[]
 |m+1,l=>l.length<=4/\∀s∈l,qit s.verb=true/\(s.phrases≠[]/\s.phrases.length<=5/\∀p∈s.phrases,PhrW p)/\s.bodies.length<=4/\∀b∈s.bodies,Uo b.1=true/\b.2.1.length<=4/\(∀t∈b.2.1,qia t)/\WfS m b.2.2
theorem phrase_W{forms:List Str}(hF:qdY forms)(hne:forms≠[])(y:YC)(b:BuC)(hn:b.cur.phrases≠[]){M:Nat}(h:∀p∈b.cur.phrases,Uo p.words=true/\p.toks.length<=M/\∀t∈p.toks,qia t):
 (XD forms b y).cur.phrases≠[]/\(XD forms b y).cur.phrases.length<=b.cur.phrases.length+1/\(∀p∈(XD forms b y).cur.phrases,Uo p.words=true/\p.toks.length<=M+4/\∀t∈p.toks,qia t)/\(XD forms b y).text.length<=b.text.length+260000:=by
 have hm:y.form.toNat%forms.length<forms.length:=Km _ (Bc.2 hne);obtain⟨form,hf⟩:∃form,form=forms.getD (y.form.toNat%forms.length) []:=⟨_,rfl⟩
 obtain⟨hfw,hfl⟩:=hF form (by rw[hf,Ko,JH hm];exact VA hm);have hw16:=(Go.Stm.wordsE_ok y.ops).1;have ht:=qem hw16;have h4:=qll y.ops;have hlen:=qfc hfl y.short true;unfold XD;simp only;rw[<-hf];split
 ·refine⟨by simp[qaB],?_,fun p hp=>?_,by simp only[WC,Jc,JA];omega⟩
  ·have:=Bc.2 hn
   have e:(WC b (Wy form y.short true++Zd y.ops)).cur.phrases=b.cur.phrases:=rfl;simp only[qaB,Jc,Ex,JA,e];omega
  simp only[qaB]at hp;have e:(WC b (Wy form y.short true++Zd y.ops)).cur.phrases=b.cur.phrases:=rfl;rw[e]at hp;rcases JR.1 hp with z|z
  ·exact⟨(h p (Ey _ z)).1,Vd (h p (Ey _ z)).2.1 (by omega),(h p (Ey _ z)).2.2⟩
  ·rw[VM.1 z]
   have hl:=h (b.cur.phrases.getLastD ⟨[],[]⟩) (by
    rw[Bu,Ez hn];exact EA hn)
   refine⟨hl.1,by have:=hl.2.1;rw[Jc];omega,fun t htm=>?_⟩;rcases JR.1 htm with z|z
   ·exact hl.2.2 t z
   ·exact ht t z
 ·refine⟨by simp,by rw[Jc,JA];exact KM _,fun p hp=>?_,by simp only[WC,Jc,JA];omega⟩
  have e:(WC b (Wy form y.short true++Zd y.ops)).cur.phrases=b.cur.phrases:=rfl;rw[e]at hp;rcases JR.1 hp with z|z
  ·exact⟨(h p z).1,Vd (h p z).2.1 (by omega),(h p z).2.2⟩
  ·rw[VM.1 z]
   exact⟨hfw,by simp only;omega,ht⟩
theorem qiU{forms:List Str}(hF:qdY forms)(hne:forms≠[]):∀(l:List YC) (b:BuC) (M:Nat),b.cur.phrases≠[]->(∀p∈b.cur.phrases,Uo p.words=true/\p.toks.length<=M/\∀t∈p.toks,qia t)->
 (l.foldl (XD forms) b).cur.phrases≠[]/\(l.foldl (XD forms) b).cur.phrases.length<=b.cur.phrases.length+l.length/\(∀p∈(l.foldl (XD forms) b).cur.phrases,Uo p.words=true/\p.toks.length<=M+4*l.length/\∀t∈p.toks,qia t)/\(l.foldl (XD forms) b).text.length<=b.text.length+260000*l.length
 |[],b,M,hn,h=>⟨hn,by simp,h,by simp⟩
 |y::l,b,M,hn,h=>by
  obtain⟨a1,a2,a3,a4⟩:=phrase_W hF hne y b hn h;obtain⟨b1,b2,b3,b4⟩:=qiU hF hne l _ (M+4) a1 a3;rw[KY];exact⟨b1,by rw[Es];omega,fun p hp=>⟨(b3 p hp).1,by have:=(b3 p hp).2.1;omega,(b3 p hp).2.2⟩,by rw[Es];omega⟩
theorem qsa{forms:List Str}(hF:qdY forms)(x:XC)(b:BuC):(Za x b forms).cur.phrases≠[]/\((Za x b forms).cur.phrases.length<=5/\∀p∈(Za x b forms).cur.phrases,PhrW p)/\(Za x b forms).text.length<=b.text.length+1100000:=by
 have h16:=qkS x b.cur.verb;have ht:=qem h16;have h0:∀p∈[(⟨[],Xg (ZZ x b.cur.verb)⟩:PhrC)],Uo p.words=true/\p.toks.length<=4/\∀t∈p.toks,qia t:=fun p hp=>by rw[VM.1 hp];exact⟨(by decide:Uo []=true),first_4 x _,ht⟩
 unfold Za;simp only;split
 ·exact⟨by simp,⟨by simp,fun p hp=>⟨(h0 p hp).1,Vd (h0 p hp).2.1 (by decide),(h0 p hp).2.2⟩⟩,by simp only[WC,Jc,JA];omega⟩
 ·rename_i hne
  have hl:((x.p.take 5).drop 1).length<=4:=by rw[K6,K5];omega
  obtain⟨b1,b2,b3,b4⟩:=qiU hF hne ((x.p.take 5).drop 1) {WC b (ZZ x b.cur.verb)with cur:={(WC b (ZZ x b.cur.verb)).cur with phrases:=[⟨[],Xg (ZZ x b.cur.verb)⟩]}} 4 (by simp) h0;refine⟨b1,⟨Vd b2 (by simp only[JA];omega),fun p hp=>⟨(b3 p hp).1,Vd (b3 p hp).2.1 (by omega),(b3 p hp).2.2⟩⟩,Vd b4 ?_⟩;show(b.text++[32]++ZZ x b.cur.verb).length+_<=_
  simp only[Jc,JA];omega
end Go.Stm
namespace Go.Stm
open Go.Col (Str FaultC okF)
open Go.Tok
open Go.Proofs.YtgiadjbiimkbiaaGreatDoor (asciiB)
set_option maxRecDepth 100000
def YO(m:Nat)(bs:List (Str×List TokC×List StC)):Nat:=(bs.map fun b=>Xj m b.2.2).sum
theorem qkY(m:Nat)(bs:List BodC)(b:BodC):YO m (bs++[b])=YO m bs+Xj m b.2.2:=by simp[YO]
structure BOk(B:List XC->Nat->Bool->Str×List StC)(m d:Nat)(cF:List XC->Nat):Prop where
 wf:∀l last,WfS m (B l d last).2
 cnt:∀l last,Xj m (B l d last).2<=1+5*cF l
 len:∀l last,(B l d last).1.length<=3000000*Xj m (B l d last).2
def qoj(m:Nat)(b:BodC):Prop:=Uo b.1=true/\b.2.1.length<=4/\(∀t∈b.2.1,qia t)/\WfS m b.2.2
theorem body_W{B:List XC->Nat->Bool->Str×List StC}{m d:Nat}{cF:List XC->Nat}(hB:BOk B m (d+1) cF){b:BuC}{name ops:Str}{l:List XC}{last:Bool}(hw:Uo name=true)(ho:ops.length<=16)(h17:(Xg ops).length<=4)(h:∀x∈b.cur.bodies,qoj m x):
 (∀x∈(qcv B b name ops l d last).cur.bodies,qoj m x)/\YO m (qcv B b name ops l d last).cur.bodies<=YO m b.cur.bodies+(1+5*cF l)/\
 (qcv B b name ops l d last).text.length+3000000*YO m b.cur.bodies<=b.text.length+16+3000000*YO m (qcv B b name ops l d last).cur.bodies:=by
 refine⟨fun x hx=>?_,?_,?_⟩
 ·rcases JR.1 hx with z|z
  ·exact h x z
  ·rw[VM.1 z]
   exact⟨hw,h17,qem ho,hB.wf l last⟩
 ·show YO m (b.cur.bodies++[_])<=_
  rw[qkY];have:=hB.cnt l last;simp only;omega
 ·show(b.text++ops++(B l (d+1) last).1).length+_<=_+3000000*YO m (b.cur.bodies++[_])
  rw[qkY];have:=hB.len l last;simp only[Jc];omega
def qfH(cF:List XC->Nat)(x:XC)(is:List Nat):Nat:=(is.map fun i=>cF (x.b.getD i noZ).2.2.1).sum
theorem formB_W{verb:Str}{forms:List Str}(hF:qdY forms)(z:ZC)(i:Nat)(hne:qbK verb forms z i≠[]):Uo (Yr (qbK verb forms z i))=true/\(qbK verb forms z i).length<=500:=by
 have hr:=rows_W;rw[Ky,Ky]at hr;unfold qbK at hne|-
 split
 ·split
  ·exact⟨hr.2.1,by decide⟩
  ·exact⟨hr.2.2,by decide⟩
 ·rename_i h1
  rw[if_neg h1]at hne;split
  ·rename_i h2
   rw[if_pos h2]at hne;exact absurd rfl hne
  ·rename_i h2
   have hm:z.1.toNat%forms.length<forms.length:=Km _ (Bc.2 h2);exact hF _ (by rw[Ko,JH hm];exact VA hm)
theorem opsB_4(name:Str)(z:ZC):(Xg (qke name z)).length<=4:=by
 unfold qke;split
 ·split
  ·decide
  ·exact qll _
 ·decide
theorem qpW{B:List XC->Nat->Bool->Str×List StC}{m d:Nat}{cF:List XC->Nat}(hB:BOk B m (d+1) cF)(x:XC){forms:List Str}(hF:qdY forms)(last:Bool):∀(is:List Nat) (s:BuC×Str),(∀y∈s.1.cur.bodies,qoj m y)->
 (∀y∈(is.foldl (Xw B x forms d last) s).1.cur.bodies,qoj m y)/\(is.foldl (Xw B x forms d last) s).1.cur.bodies.length<=s.1.cur.bodies.length+is.length/\
 YO m (is.foldl (Xw B x forms d last) s).1.cur.bodies<=YO m s.1.cur.bodies+is.length+5*qfH cF x is/\
 (is.foldl (Xw B x forms d last) s).1.text.length+3000000*YO m s.1.cur.bodies<=s.1.text.length+300000*is.length+3000000*YO m (is.foldl (Xw B x forms d last) s).1.cur.bodies
 |[],s,h=>⟨h,by simp,by simp[qfH],by simp⟩
 |i::is,s,h=>by
  have hstep:(∀y∈(Xw B x forms d last s i).1.cur.bodies,qoj m y)/\(Xw B x forms d last s i).1.cur.bodies.length<=s.1.cur.bodies.length+1/\YO m (Xw B x forms d last s i).1.cur.bodies<=YO m s.1.cur.bodies+(1+5*cF (x.b.getD i noZ).2.2.1)/\
   (Xw B x forms d last s i).1.text.length+3000000*YO m s.1.cur.bodies<=s.1.text.length+300000+3000000*YO m (Xw B x forms d last s i).1.cur.bodies:=by
   unfold Xw;simp only;split
   ·exact⟨h,by omega,by omega,by omega⟩
   ·rename_i hsk
    obtain⟨form,hf⟩:∃form,form=qbK s.1.cur.verb forms (x.b.getD i noZ) i:=⟨_,rfl⟩
    rw[<-hf]at hsk|-
    have hne:form≠[]:=fun e=>hsk (by unfold qht;rw[e];rfl);have hw:=formB_W hF (x.b.getD i noZ) i (verb:=s.1.cur.verb) (by rw[<-hf];exact hne);rw[<-hf]at hw;have htx:=qkv hw.2 (Yr form) (x.b.getD i noZ);obtain⟨a1,a2,a3⟩:=body_W hB (b:=WC s.1 (qdu form (Yr form) (x.b.getD i noZ))) (l:=(x.b.getD i noZ).2.2.1) (last:=last && (decide (i=3)||decide (x.b.length<=i+1))) hw.1 (qri (Yr form) (x.b.getD i noZ)).1 (opsB_4 _ _) h;refine⟨a1,?_,a2,?_⟩
    ·show(s.1.cur.bodies++[_]).length<=_
     rw[Jc,JA];exact KM _
    ·have e:(WC s.1 (qdu form (Yr form) (x.b.getD i noZ))).text.length=s.1.text.length+1+(qdu form (Yr form) (x.b.getD i noZ)).length:=by
      show(s.1.text++[32]++_).length=_
      simp only[Jc,JA]
     have e2:(WC s.1 (qdu form (Yr form) (x.b.getD i noZ))).cur.bodies=s.1.cur.bodies:=rfl;rw[e,e2]at a3;simp only;omega
  obtain⟨s1,s2,s3,s4⟩:=hstep;obtain⟨b1,b2,b3,b4⟩:=qpW hB x hF last is _ s1;rw[Es,KY];have er:qfH cF x (i::is)=cF (x.b.getD i noZ).2.2.1+qfH cF x is:=by simp[qfH]
  rw[er];exact⟨b1,by omega,by omega,by omega⟩
theorem qiz{α:Type}:∀l:List α,(l.map fun _=>0).sum=0
 |[]=>rfl
 |_::l=>by rw[Ke,ED,qiz l]
theorem qlp{α:Type}:∀l:List α,(l.map fun _=>1).sum=l.length
 |[]=>rfl
 |_::l=>by rw[Ke,ED,qlp l,KY];omega
theorem qmY{cF:List XC->Nat}(h0:cF []=0)(x:XC)(n:Nat):qfH cF x (KQ n)<=(x.b.map fun z=>cF z.2.2.1).sum:=by
 unfold qfH;generalize x.b=b;induction b generalizing n with
 |nil=>
  have:(KQ n).map (fun i=>cF (([]:List ZC).getD i noZ).2.2.1)=(KQ n).map fun _=>0:=EG fun i _=>h0;rw[this,qiz];exact Jr _
 |cons z b ih=>
  cases n with
  |zero=>simp
  |succ n=>
   rw[List.range_succ_eq_map,Ke,ED,EF,Ke,ED];have:=ih n;have e:((fun i=>cF ((z::b).getD i noZ).2.2.1) ∘ Nat.succ)=fun i=>cF (b.getD i noZ).2.2.1:=rfl;rw[e];show cF z.2.2.1+_<=_
   omega
theorem bodies_W{B:List XC->Nat->Bool->Str×List StC}{m d:Nat}{cF:List XC->Nat}(h0:cF []=0)(hB:BOk B m (d+1) cF)(x:XC){forms:List Str}(hF:qdY forms)(last:Bool){b:BuC}(hb:b.cur.bodies=[]):
 (∀y∈(Zr B x b forms d last).cur.bodies,qoj m y)/\(Zr B x b forms d last).cur.bodies.length<=4/\YO m (Zr B x b forms d last).cur.bodies<=4+5*(x.b.map fun z=>cF z.2.2.1).sum/\
 (Zr B x b forms d last).text.length<=b.text.length+1200100+3000000*YO m (Zr B x b forms d last).cur.bodies:=by
 unfold Zr;simp only;split
 ·split
  ·obtain⟨a1,a2,a3⟩:=body_W hB (b:=b) (name:=[]) (ops:=[]) (l:=(x.b.getD 0 noZ).2.2.1) (last:=false) (by decide) (by decide) (by decide) (fun y hy=>by rw[hb]at hy;cases hy)
   have hr:=qmY h0 x 1;have er:qfH cF x (KQ 1)=cF (x.b.getD 0 noZ).2.2.1:=by simp[qfH,List.range_succ]
   rw[er]at hr;have hc:YO m b.cur.bodies=0:=by rw[hb];rfl
   rw[hc]at a2 a3;refine⟨a1,?_,by omega,by omega⟩;show(b.cur.bodies++[_]).length<=4
   rw[hb];exact(by decide:1<=4)
  ·rw[hb]
   exact⟨(fun y hy=>by cases hy),Jr _,Jr _,by omega⟩
 ·obtain⟨n,hn⟩:∃n,n=min 4 (max x.b.length (if qhB b.cur.verb=true then 1 else 0)):=⟨_,rfl⟩
  have hn4:n<=4:=by omega
  rw[<-hn];obtain⟨a1,a2,a3,a4⟩:=qpW hB x hF last (KQ n) (b,[]) (fun y hy=>by simp only at hy;rw[hb]at hy;cases hy);have hr:=qmY h0 x n;have hc:YO m b.cur.bodies=0:=by rw[hb];rfl
  simp only[hb,JN,Ev]at a2 a3 a4;rw[show YO m []=0 from rfl]at a3 a4;exact⟨a1,by omega,by omega,by omega⟩
theorem qnU(B:List XC->Nat->Bool->Str×List StC)(x:XC)(b:BuC)(d:Nat)(last:Bool)(hv:b.cur.verb≠Uf)(hn:qhB b.cur.verb=false):Zr B x b [] d last=b:=by
 unfold Zr;simp only;rw[if_neg hv];have key:∀(is:List Nat) (s:BuC×Str),s.1.cur.verb=b.cur.verb->is.foldl (Xw B x [] d last) s=s:=by
  intro is;induction is with
  |nil=>intro s _;rfl
  |cons i is ih=>
   intro s hs;have:Xw B x [] d last s i=s:=by
    unfold Xw;simp only;rw[if_pos];unfold qht qbK;rw[hs,hn,if_neg (by simp),if_pos rfl];rfl
   rw[Es,this];exact ih s hs
 rw[key _ (b,[]) rfl]
theorem qtg{B:List XC->Nat->Bool->Str×List StC}{m d:Nat}{cF:List XC->Nat}(h0:cF []=0)(hB:d<=4->BOk B m (d+1) cF)(x:XC)(end_ last:Bool):
 qit (XY B x d end_ last).cur.verb=true/\((XY B x d end_ last).cur.phrases≠[]/\(XY B x d end_ last).cur.phrases.length<=5/\∀p∈(XY B x d end_ last).cur.phrases,PhrW p)/\
 ((XY B x d end_ last).cur.bodies.length<=4/\∀y∈(XY B x d end_ last).cur.bodies,qoj m y)/\YO m (XY B x d end_ last).cur.bodies<=4+5*(x.b.map fun z=>cF z.2.2.1).sum/\
 (XY B x d end_ last).text.length<=2500000+3000000*YO m (XY B x d end_ last).cur.bodies:=by
 obtain⟨k,hk⟩:∃k,k=if 4<d then 21 else x.verb.toNat%39:=⟨_,rfl⟩
 have hk39:k<39:=by rw[hk];split<;>omega
 obtain⟨r0,r1,r2,hrow,hr0,_⟩:=qkE hk39;obtain⟨w0,w1,w2⟩:=row_W hk39 hrow;obtain⟨b1,hb1⟩:∃b1,b1=Za x ⟨32::r0,⟨r0,0,0,[],[]⟩⟩ (Yo r1):=⟨_,rfl⟩
 obtain⟨b2,hb2⟩:∃b2,b2=Zr B x b1 (Yo r2) d last:=⟨_,rfl⟩
 have hxE:XY B x d end_ last=if qbM b2 r0 x.cut end_ last=true then WC b2 (ENDw++r0)else b2:=by
  unfold XY rowOf;rw[<-hk,hrow,hb2,hb1];rfl
 obtain⟨p1,p2,p3⟩:=qsa w1 x ⟨32::r0,⟨r0,0,0,[],[]⟩⟩;obtain⟨v1,v2,_,_⟩:=qeN x ⟨32::r0,⟨r0,0,0,[],[]⟩⟩ (Yo r1);rw[<-hb1]at p1 p2 p3 v1 v2;simp only[KY]at p3;simp only at v1 v2;obtain⟨u1,u2,_,_⟩:=qgl B x b1 (Yo r2) d last;rw[<-hb2]at u1 u2;have hbW:(∀y∈b2.cur.bodies,qoj m y)/\b2.cur.bodies.length<=4/\YO m b2.cur.bodies<=4+5*(x.b.map fun z=>cF z.2.2.1).sum/\b2.text.length<=b1.text.length+1200100+3000000*YO m b2.cur.bodies:=by
  by_cases h4:d<=4
  ·rw[hb2]
   exact bodies_W h0 (hB h4) x w2 last v2
  ·rw[if_pos (by omega)]at hk
   rw[hk,row_21]at hrow;simp only[List.cons.injEq,and_true]at hrow;have e2:Yo r2=[]:=by rw[<-hrow.2.2];rfl
   have:b2=b1:=by
    rw[hb2,e2];exact qnU B x b1 d last (by rw[v1,<-hrow.1];decide) (by rw[v1,<-hrow.1];decide)
   rw[this,v2];exact⟨(fun y hy=>by cases hy),Jr _,Jr _,by omega⟩
 have hc:(XY B x d end_ last).cur=b2.cur:=by rw[hxE];split<;>rfl
 have ht:(XY B x d end_ last).text.length<=b2.text.length+100:=by
  rw[hxE];split
  ·show(b2.text++[32]++(ENDw++r0)).length<=_
   simp only[Jc,JA,show ENDw.length=4 from rfl];omega
  ·omega
 rw[hc,u1,u2,v1];exact⟨w0,⟨p1,p2⟩,⟨hbW.2.1,hbW.1⟩,hbW.2.2.1,by omega⟩
theorem qjs(m:Nat)(S:List StC)(s:StC):Xj (m+1) (S++[s])=Xj (m+1) S+(1+YO m s.bodies):=by
 simp only[Xj,Jc,JA,Vr,EK,List.map_singleton,List.sum_singleton,YO];omega
def cX1(cF:List XC->Nat)(x:XC):Nat:=1+(x.b.map fun z=>cF z.2.2.1).sum
theorem qhj{B:List XC->Nat->Bool->Str×List StC}{m d:Nat}{cF:List XC->Nat}(h0:cF []=0)(hB:d<=4->BOk B m (d+1) cF)(l:List XC)(last:Bool):∀(n:Nat) (T:Str) (S:List StC),S.length+n<=4->WfS (m+1) S->
 Xj (m+1) S<=5*((l.take S.length).map (cX1 cF)).sum->T.length<=3000000*Xj (m+1) S->
 WfS (m+1) (ZE B l d last n (T,S)).2/\Xj (m+1) (ZE B l d last n (T,S)).2<=5*(l.map (cX1 cF)).sum/\(ZE B l d last n (T,S)).1.length<=3000000*Xj (m+1) (ZE B l d last n (T,S)).2
 |0,T,S,_,hW,hc,ht=>by
  refine⟨hW,Vd hc ?_,ht⟩;have:((l.take S.length).map (cX1 cF)).sum<=(l.map (cX1 cF)).sum:=by
   have e:(l.map (cX1 cF)).sum=((l.take S.length).map (cX1 cF)).sum+((l.drop S.length).map (cX1 cF)).sum:=by rw[<-EK,<-Vr,List.take_append_drop]
   omega
  omega
 |n+1,T,S,hn,hW,hc,ht=>by
  by_cases hi:S.length<l.length/\S.length<4
  ·rw[qaW _ _ _ _ _ _ _ hi.1 hi.2]
   obtain⟨e,he⟩:∃e,e=(decide (S.length+1=l.length)||decide (S.length=3)):=⟨_,rfl⟩
   rw[<-he];obtain⟨x,hx⟩:∃x,x=l.getD S.length noX:=⟨_,rfl⟩
   rw[<-hx];obtain⟨a1,a2,a3,a4,a5⟩:=qtg h0 hB x e (last && e);obtain⟨b,hb⟩:∃b,b=XY B x d e (last && e):=⟨_,rfl⟩
   rw[<-hb]at a1 a2 a3 a4 a5|-
   have ht2:((l.take (S.length+1)).map (cX1 cF)).sum=((l.take S.length).map (cX1 cF)).sum+cX1 cF x:=by
    rw[List.take_add_one,JH hi.1,Vr,EK];have:l[S.length]=x:=by rw[hx,Ko,JH hi.1];rfl
    rw[this];simp
   refine qhj h0 hB l last n _ _ (by rw[Jc,JA];omega) ⟨by rw[Jc,JA];omega,fun s hs=>?_⟩ ?_ ?_
   ·rcases JR.1 hs with z|z
    ·exact hW.2 s z
    ·rw[VM.1 z]
     exact⟨a1,a2,a3⟩
   ·rw[qjs,Jc,JA,ht2]
    have:YO m b.cur.done.bodies=YO m b.cur.bodies:=rfl;rw[this];unfold cX1 at hc|-
    omega
   ·rw[qjs,Jc]
    have:YO m b.cur.done.bodies=YO m b.cur.bodies:=rfl;rw[this];omega
  ·rw[qaV _ _ _ _ _ _ _ hi]
   exact qhj h0 hB l last 0 T S (by omega) hW hc ht
theorem cntX_nil:∀f,qhh f []=0
 |0=>rfl
 |_+1=>rfl
theorem contC_W(m:Nat):WfS (m+1) [contC]:=⟨by decide,fun s hs=>by
 rw[VM.1 hs];exact⟨by decide,⟨by simp[contC,BZ],by simp[contC,BZ],fun p hp=>by rw[VM.1 hp];exact⟨by decide,Jr _,fun t ht=>by cases ht⟩⟩,by simp[contC,Ea],fun b hb=>by cases hb⟩⟩
theorem qrA:∀(f F d:Nat),6<=f+d->d<=5->f<=F+1->BOk (Xo f) f d (qhh F)/\∀l last,(Xo f l d last).2≠[]
 |0,_,_,h6,h5,_=>by omega
 |f+1,F,d,h6,h5,hF=>by
  have key:∀(cF:List XC->Nat),cF []=0->(d<=4->BOk (Xo f) f (d+1) cF)->∀l last,WfS (f+1) (Xo (f+1) l d last).2/\Xj (f+1) (Xo (f+1) l d last).2<=1+5*(l.map (cX1 cF)).sum/\(Xo (f+1) l d last).1.length<=3000000*Xj (f+1) (Xo (f+1) l d last).2/\(Xo (f+1) l d last).2≠[]:=fun cF h0 hB l last=>by
   obtain⟨a1,a2,a3⟩:=qhj h0 hB l last 4 [] [] (by decide) ⟨by decide,fun s hs=>by cases hs⟩ (by simp[Xj]) (Jr _);have hE:Xo (f+1) l d last=if (ZE (Xo f) l d last 4 ([],[])).2=[]then([32,67,79,78,84,73,78,85,69],[contC])else ZE (Xo f) l d last 4 ([],[]):=rfl
   rw[hE];split
   ·refine⟨contC_W f,?_,?_,by simp⟩
    ·have:Xj (f+1) [contC]=1:=by simp[Xj,contC,Ea]
     rw[this];omega
    ·have:Xj (f+1) [contC]=1:=by simp[Xj,contC,Ea]
     rw[this];decide
   ·rename_i hne
    exact⟨a1,by omega,a3,hne⟩
  cases F with
  |zero=>
   have hf0:f=0:=by omega
   have h:=key (fun _=>0) rfl (fun h4=>by omega);refine⟨⟨fun l last=>(h l last).1,fun l last=>?_,fun l last=>(h l last).2.2.1⟩,fun l last=>(h l last).2.2.2⟩;have h2:=(h l last).2.1;have e:(l.map (cX1 fun _=>0)).sum=l.length:=by
    have:(cX1 fun _=>0)=fun _=>1:=by
     funext x;unfold cX1;rw[qiz]
    rw[this,qlp]
   rw[e]at h2;exact h2
  |succ F=>
   have h:=key (qhh F) (cntX_nil F) (fun h4=>(qrA f F (d+1) (by omega) (by omega) (by omega)).1);refine⟨⟨fun l last=>(h l last).1,fun l last=>?_,fun l last=>(h l last).2.2.1⟩,fun l last=>(h l last).2.2.2⟩;have h2:=(h l last).2.1;have e:∀l:List XC,(l.map (cX1 (qhh F))).sum=qhh (F+1) l:=fun l=>by
    rw[qhh];induction l with
    |nil=>rfl
    |cons x l ih=>
     rw[Ke,ED,ih,Ke,ED,KY];unfold cX1;omega
   rw[e]at h2;exact h2
end Go.Stm
namespace Go.Stm
open Go.Col (Str FaultC okF)
open Go.Tok
open Go.Proofs.YtgiadjbiimkbiaaGreatDoor (asciiB Short TxS qkl)
set_option maxRecDepth 100000
def WfQ:Nat->List StC->Prop
 |0,l=>l=[]
 |m+1,l=>l.length<=4/\∀s∈l,qit s.verb=true/\(s.phrases.length<=5/\∀p∈s.phrases,PhrW p)/\s.bodies.length<=4/\∀b∈s.bodies,Uo b.1=true/\b.2.1.length<=4/\(∀t∈b.2.1,qia t)/\WfQ m b.2.2
theorem WfS.q:∀{m:Nat} {l:List StC},WfS m l->WfQ m l
 |0,_,h=>h
 |_+1,_,h=>⟨h.1,fun s hs=>⟨(h.2 s hs).1,(h.2 s hs).2.1.2,(h.2 s hs).2.2.1,fun b hb=>⟨((h.2 s hs).2.2.2 b hb).1,((h.2 s hs).2.2.2 b hb).2.1,((h.2 s hs).2.2.2 b hb).2.2.1,((h.2 s hs).2.2.2 b hb).2.2.2.q⟩⟩⟩
theorem Ym{w:Str}(h:Uo w=true):w.length<=100/\asciiB w=true/\(62:UInt8)∉w/\(93:UInt8)∉w/\(Lib.fields w).length<=8:=by
 simp only[Uo,Ky,decide_eq_true_eq,Ji]at h;obtain⟨h1,h2,h3,h4,h5⟩:=h;exact⟨h1,h2,(fun e=>by rw[J6.2 e]at h3;cases h3),(fun e=>by rw[J6.2 e]at h4;cases h4),h5⟩
theorem Uk{v:Str}(h:qit v=true):v.length<=20/\asciiB v=true/\(32:UInt8)∉v:=by
 simp only[qit,Ky,decide_eq_true_eq,Ji]at h;obtain⟨h1,h2,h3⟩:=h;exact⟨h1,h2,fun e=>by rw[J6.2 e]at h3;cases h3⟩
theorem WfQ.ok:∀{m:Nat} {l:List StC},WfQ m l->OkS m l
 |0,_,h=>h
 |_+1,_,h=>fun s hs=>by
  obtain⟨h1,h2,h3,h4⟩:=h.2 s hs;exact⟨(Uk h1).2.2,fun p hp=>⟨(Ym (h2.2 p hp).1).2.2.1,fun t ht=>((h2.2 p hp).2.2 t ht).1⟩,fun b hb=>⟨(Ym (h4 b hb).1).2.2.2.1,fun t ht=>((h4 b hb).2.2.1 t ht).1,(h4 b hb).2.2.2.ok⟩⟩
theorem WfQ.small:∀{m:Nat} {l:List StC},WfQ m l->SmallS m l
 |0,l,h=>by rw[show l=[]from h];exact Jr _
 |_+1,_,h=>⟨Vd h.1 (by decide),fun s hs=>by
  obtain⟨h1,h2,h3,h4⟩:=h.2 s hs;exact⟨Vd h3 (by decide),Vd h2.1 (by decide),fun p hp=>Vd (h2.2 p hp).2.1 (by decide),fun b hb=>⟨Vd (h4 b hb).2.1 (by decide),(h4 b hb).2.2.2.small⟩⟩⟩
theorem qif{l:List TokC}(h:∀t∈l,qia t):Short l:=fun t ht=>Vd (h t ht).2 (by decide)
theorem WfQ.tx:∀{m:Nat} {l:List StC},WfQ m l->TxS m l
 |0,_,_=>trivial
 |_+1,_,h=>fun s hs=>by
  obtain⟨h1,h2,h3,h4⟩:=h.2 s hs;exact⟨Vd (Uk h1).1 (by decide),fun p hp=>⟨Vd (Ym (h2.2 p hp).1).1 (by decide),qif (h2.2 p hp).2.2⟩,fun b hb=>⟨Vd (Ym (h4 b hb).1).1 (by decide),qif (h4 b hb).2.2.1,(h4 b hb).2.2.2.tx⟩⟩
theorem WfQ.asc:∀{m:Nat} {l:List StC},WfQ m l->qkl m l
 |0,_,_=>trivial
 |_+1,_,h=>fun s hs=>by
  obtain⟨h1,h2,h3,h4⟩:=h.2 s hs;exact⟨⟨(Uk h1).2.1,Vd (Uk h1).1 (by decide)⟩,fun p hp=>(Ym (h2.2 p hp).1).2.1,fun b hb=>⟨(Ym (h4 b hb).1).2.1,(h4 b hb).2.2.2.asc⟩⟩
theorem deep_nil:∀k,YF k []=false
 |0=>rfl
 |_+1=>rfl
theorem WfQ.deep:∀{m k:Nat} {l:List StC},WfQ m l->m<=k->YF k l=false
 |0,k,l,h,_=>by rw[show l=[]from h];exact deep_nil k
 |m+1,k+1,l,h,hk=>by
  rw[YF,EL];intro s hs;rw[Bool.not_eq_true,EL];intro b hb;rw[WfQ.deep ((h.2 s hs).2.2.2 b hb).2.2.2 (Nat.le_of_succ_le_succ hk)];decide
theorem qfa{α:Type}{f g:α->Nat}:∀{l:List α},(∀x∈l,f x<=g x)->(l.map f).sum<=(l.map g).sum
 |[],_=>KM _
 |x::l,h=>by
  have:=h x Jf;have:=qfa (l:=l) fun y hy=>h y (Jg _ hy);rw[Ke,Ke,ED,ED];omega
theorem WN{α:Type}{f:α->Nat}{c:Nat}:∀{l:List α},(∀x∈l,f x<=c)->(l.map f).sum<=c*l.length
 |[],_=>KM _
 |x::l,h=>by
  have:=h x Jf;have:=WN (l:=l) fun y hy=>h y (Jg _ hy);rw[Ke,ED,KY,Nat.mul_succ];omega
theorem qid{α:Type}{f g:α->Nat}:∀{l:List α},(l.map fun x=>f x+g x).sum=(l.map f).sum+(l.map g).sum
 |[]=>rfl
 |x::l=>by
  rw[Ke,ED,qid,Ke,ED,Ke,ED];omega
theorem qfB{α:Type}{f:α->Nat}{c:Nat}:∀{l:List α},(l.map fun x=>c*f x).sum=c*(l.map f).sum
 |[]=>rfl
 |x::l=>by rw[Ke,ED,qfB,Ke,ED,Nat.mul_add]
theorem qjt(m:Nat)(l:List StC):Xj (m+1) l=(l.map fun s=>1+YO m s.bodies).sum:=by
 rw[qid,qlp];rfl
theorem WfQ.spelled:∀{m:Nat} {l:List StC},WfQ m l->(QG m l).length<=400*Xj m l
 |0,_,_=>Jr _
 |m+1,l,h=>by
  rw[QG,EM,EF,qjt,<-qfB];refine qfa fun s hs=>?_;obtain⟨h1,h2,h3,h4⟩:=h.2 s hs;simp only[Function.comp,Jc,KY,JN,EM,EF];have e1:(s.phrases.map (EN ∘ fun p:PhrC=>(60::(p.words++[62]))::p.toks.map ZU)).sum<=21*s.phrases.length:=WN fun p hp=>by
   simp only[Function.comp,KY,Jo];have:=(h2.2 p hp).2.1;omega
  have e2:(s.bodies.map (EN ∘ fun b:Str×List TokC×List StC=>(91::(b.1++[93]))::(b.2.1.map ZU++QG m b.2.2))).sum<=(s.bodies.map fun b=>5+400*Xj m b.2.2).sum:=qfa fun b hb=>by
   simp only[Function.comp,KY,Jc,Jo];have:=(h4 b hb).2.1;have:=(h4 b hb).2.2.2.spelled;omega
  have e3:(s.bodies.map fun b=>5+400*Xj m b.2.2).sum=(s.bodies.map fun _=>5).sum+(s.bodies.map fun b=>400*Xj m b.2.2).sum:=qid;have e4:(s.bodies.map fun _:Str×List TokC×List StC=>5).sum<=5*s.bodies.length:=WN fun _ _=>KM _;have e5:(s.bodies.map fun b=>400*Xj m b.2.2).sum=400*YO m s.bodies:=qfB;have e6:(s.phrases.map (EN ∘ fun p:PhrC=>(60::(p.words++[62]))::EH ZU p.toks)).sum<=21*s.phrases.length:=e1;have:=h2.1;obtain⟨A,hA⟩:∃A,A=(s.bodies.map (EN ∘ fun b:Str×List TokC×List StC=>(91::(b.1++[93]))::(b.2.1.map ZU++QG m b.2.2))).sum:=⟨_,rfl⟩
  obtain⟨C,hC⟩:∃C,C=(s.phrases.map (EN ∘ fun p:PhrC=>(60::(p.words++[62]))::p.toks.map ZU)).sum:=⟨_,rfl⟩
  rw[<-hA]at e2;rw[<-hC]at e1;have e7:A<=20+400*YO m s.bodies:=by omega
  refine Vd (Nat.add_le_add_right (Nat.succ_le_succ (Nat.add_le_add (EO hC.symm) (EO hA.symm))) _) ?_;omega
theorem qkz{w:Str}(h:Uo w=true):(qcI w).length<=8:=by
 unfold qcI;rw[Jo];exact(Ym h).2.2.2.2
theorem qjj{α:Type}{f:List TokC->α->List TokC}{g:α->Nat}:∀{l:List α},(∀x∈l,∀o,(f o x).length<=o.length+g x)->∀o,(l.foldl f o).length<=o.length+(l.map g).sum
 |[],_,o=>by simp
 |x::l,h,o=>by
  rw[Es,Ke,ED];have h1:=h x Jf o;have h2:=qjj (l:=l) (fun y hy=>h y (Jg _ hy)) (f o x);omega
theorem WfQ.write:∀{m:Nat} {l:List StC},WfQ m l->∀o,(XH m o l).length<=o.length+300*Xj m l
 |0,_,_,o=>by show o.length<=_;omega
 |m+1,l,h,o=>by
  have hs:∀s∈l,∀o,(qbU (XH m) o s).length<=o.length+300*(1+YO m s.bodies):=fun s hs o=>by
   obtain⟨h1,h2,h3,h4⟩:=h.2 s hs;unfold qbU;have e1:=qjj (f:=qka) (g:=fun _=>28) (l:=s.phrases) (fun p hp o=>by
    unfold qka;rw[Jc,Jc];have:=qkz (h2.2 p hp).1;have:=(h2.2 p hp).2.1;omega) (o++[qds s.verb])
   have e2:=qjj (f:=qkb (XH m)) (g:=fun b=>12+300*Xj m b.2.2) (l:=s.bodies) (fun b hb o=>by
    unfold qkb;refine Vd ((h4 b hb).2.2.2.write _) ?_;rw[Jc,Jc];have:=qkz (h4 b hb).1;have:=(h4 b hb).2.1;omega) (s.phrases.foldl qka (o++[qds s.verb]))
   have e3:(s.bodies.map fun b=>12+300*Xj m b.2.2).sum=(s.bodies.map fun _=>12).sum+(s.bodies.map fun b=>300*Xj m b.2.2).sum:=qid;have e4:(s.bodies.map fun _:Str×List TokC×List StC=>12).sum<=12*s.bodies.length:=WN fun _ _=>KM _;have e5:(s.bodies.map fun b=>300*Xj m b.2.2).sum=300*YO m s.bodies:=qfB;have e6:(s.phrases.map fun _:PhrC=>28).sum<=28*s.phrases.length:=WN fun _ _=>KM _;have hf:∀x:List TokC,(qfv s.verb x).length<=x.length+25:=fun x=>by
    unfold qfv;split
    ·rw[Jc]
     unfold qcI;rw[Jo];have h7:=Go.Proofs.YtgiadjbiimkbiaaGreatDoor.fields_few (ENDd++s.verb);have h8:=(Uk h1).1;rw[Jc,show ENDd.length=4 from rfl]at h7;omega
    ·omega
   obtain⟨A,hA⟩:∃A,A=(s.bodies.map fun b=>12+300*Xj m b.2.2).sum:=⟨_,rfl⟩
   have e7:A<=48+300*YO m s.bodies:=by rw[hA];omega
   have e8:=Vd e2 (Nat.add_le_add_left (EO hA.symm) _);have h9:=hf (s.bodies.foldl (qkb (XH m)) (s.phrases.foldl qka (o++[qds s.verb])));have:=h2.1;rw[Jc,JA]at e1;omega
  have key:∀(l:List StC),(∀s∈l,∀o,(qbU (XH m) o s).length<=o.length+300*(1+YO m s.bodies))->∀o,(YA (XH m) o l).length<=o.length+(l.map fun s=>300*(1+YO m s.bodies)).sum:=by
   intro l;induction l with
   |nil=>intro _ o;rw[YA];simp
   |cons s l ih=>
    intro hl o;rw[YA];split
    ·omega
    ·have h1:=hl s Jf o
     have h2:=ih (fun y hy=>hl y (Jg _ hy)) (qbU (XH m) o s);rw[Ke,ED];omega
  have:=key l hs o;rw[qfB,<-qjt]at this;exact this
theorem qho:∀{m:Nat} {l:List StC},WfQ m l->∀o,Short o->Short (XH m o l)
 |0,_,_,o,ho=>ho
 |m+1,l,h,o,ho=>by
  have sp:∀{w:Str},w.length<=1000->Short (qcI w):=fun{w} hw t ht=>by
   obtain⟨u,hu,rfl⟩:=JP.1 ht;exact Vd (Go.Proofs.YtgiadjbiimkbiaaGreatDoor.fields_small u hu) (Vd hw (by decide))
  have ap:∀{a b:List TokC},Short a->Short b->Short (a++b):=fun ha hb t ht=>by
   rcases JR.1 ht with z|z
   ·exact ha t z
   ·exact hb t z
  have fo:∀{α:Type} {f:List TokC->α->List TokC} (l:List α),(∀x∈l,∀o,Short o->Short (f o x))->∀o,Short o->Short (l.foldl f o):=by
   intro α f l;induction l with
   |nil=>intro _ o ho;exact ho
   |cons x l ih=>intro hl o ho;exact ih (fun y hy=>hl y (Jg _ hy)) _ (hl x Jf o ho)
  have hs:∀s∈l,∀o,Short o->Short (qbU (XH m) o s):=fun s hs o ho=>by
   obtain⟨h1,h2,h3,h4⟩:=h.2 s hs;have hv:=(Uk h1).1;unfold qbU qfv;have hb:=fo (f:=qkb (XH m)) s.bodies (fun b hb o ho=>qho (h4 b hb).2.2.2 _ (ap (ap ho (sp (Vd (Ym (h4 b hb).1).1 (by decide)))) (qif (h4 b hb).2.2.1))) _
    (fo (f:=qka) s.phrases (fun p hp o ho=>ap (ap ho (sp (Vd (Ym (h2.2 p hp).1).1 (by decide)))) (qif (h2.2 p hp).2.2)) _ (ap ho (show Short [qds s.verb]from fun t ht=>by rw[VM.1 ht];show s.verb.length<=1000000;omega)))
   split
   ·exact ap hb (sp (by rw[Jc,show ENDd.length=4 from rfl];omega))
   ·exact hb
  have key:∀(l:List StC),(∀s∈l,∀o,Short o->Short (qbU (XH m) o s))->∀o,Short o->Short (YA (XH m) o l):=by
   intro l;induction l with
   |nil=>intro _ o ho;exact ho
   |cons s l ih=>
    intro hl o ho;rw[YA];split
    ·exact ho
    ·exact ih (fun y hy=>hl y (Jg _ hy)) _ (hl s Jf o ho)
  exact key l hs o ho
theorem qar{m:Nat}{l:List StC}(h:WfQ m l):Short (XK m l):=by
 unfold XK;split
 ·intro t ht;cases ht
 ·split
  ·intro t ht;cases ht
  ·split
   ·intro t ht;cases ht
   ·intro t ht
    rcases JR.1 ht with z|z
    ·exact qho h [] (fun t ht=>by cases ht) t z
    ·rw[VM.1 z];exact(by decide:1<=1000000)
theorem qrP{m:Nat}{l:List StC}(h:WfQ m l)(hm:m<=32)(hl:l≠[])(hc:Xj m l<=200):XK m l=XH m [] l++[qei]:=by
 have:=h.write [];rw[JN]at this;unfold XK;rw[if_neg hl,if_neg (by rw[h.deep hm];decide),if_neg (by rw[Jc,JA];omega)]
end Go.Stm
namespace Go.Stm
def qcE:Nat->List XC->Int->Int
 |0=>fun _ _=>0
 |f+1=>Yn f
def qbP(f:Nat):Bool:=decide (0<f)
theorem qrL(f:Nat)(l:List XC)(most:Int):Yn f l most=Wh (qcE f) most (qbP f) l l.length:=by cases f<;>rfl
theorem LenX.at_{m f:Nat}{l:List XC}(h:LenX m f l){x:XC}(hx:x∈l)(hf:qbP f=true):∃g,f=g+1/\∀z∈x.b,LenX m g z.2.2.1:=by
 cases f with
 |zero=>cases hf
 |succ g=>exact⟨g,rfl,(h.2 x hx).2.2⟩
end Go.Stm
namespace Go.Proofs.YtgiadjbiimkbiaaGreatDoor
open Go.AM
open Go.Proofs
open Go.Col (Str FaultC okF)
open Go.Tok (TokC)
open Go.Stm
open Go.RowKit (Below)
set_option maxRecDepth 100000
theorem XsV.els{wz:World}{h:AHeap}{d:Nat}{v:AVal}{l:List XC}(hX:XsV wz d h v l):∃qs:List (XC×AVal×AVal),l=qs.map (·.1)/\IsL wz h 4 v (qs.map xC)/\∀q∈qs,YsV wz h q.2.1 q.1.p/\∃d',ZsV wz (XsV wz d' h) h q.2.2 q.1.b:=by
 cases d with
 |zero=>exact⟨[],hX.1,hX.2,fun q hq=>by cases hq⟩
 |succ d=>
  obtain⟨qs,a,b,c⟩:=hX;exact⟨qs,a,b,fun q hq=>⟨(c q hq).1,d,(c q hq).2⟩⟩
structure WgG where
 i:Nat
 n:Int
set_option maxHeartbeats 16000000 in
theorem qnI(wz:World)(f d:Nat)(h:AHeap)(v:AVal)(l:List XC)(most:Int)(hf:f<=8)(hX:XsV wz d h v l)(hL:LenX 140737488355328 f l)(h0:0<=most)(h6:most<=1000000)
 (ih:∀g,f=g+1->∀(d:Nat) (v:AVal) (l:List XC) (most:Int),XsV wz d h v l->LenX 140737488355328 g l->0<=most->most<=1000000->ACall Tryz.prog wz 32 [v, .int .i64 most, .int .i64 ((8-g:Nat):Int)] h (fun r h'=>r= .int .i64 (Yn g l most)/\h'=h)):
 ACall Tryz.prog wz 32 [v, .int .i64 most, .int .i64 ((8-f:Nat):Int)] h (fun r h'=>r= .int .i64 (Yn f l most)/\h'=h):=by
 obtain⟨hvl,hvs,hvc⟩:=hX.shape;obtain⟨qs,hqe,hqL,hqo⟩:=hX.els;have nv:∀H:AHeap,Zh Tryz.prog H 35 v=⟨True, .int .i64 qs.length⟩:=fun H=>by have:=hqL.len Tryz.underlying35 H;rwa [Jo]at this
 have hln:l.length=qs.length:=by rw[hqe,Jo]
 have hl2:=hL.len;have hWb:∀x∈l,qbP f=true->∀z∈x.b,∀k:Int,0<=k->k<=most->0<=qcE f z.2.2.1 k/\qcE f z.2.2.1 k<=k+(140737488355328:Nat):=fun x hx hdp z hz k hk _=>by
  obtain⟨g,rfl,hg⟩:=hL.at_ hx hdp;exact qkn (hg z hz) hk
 rw[qrL];obtain⟨R,hR⟩:∃R,R=Wh (qcE f) most (qbP f) l l.length:=⟨_,rfl⟩
 rw[<-hR];have hdp:qbP f=decide (((8-f:Nat):Int)<8):=by unfold qbP;rw[decide_eq_decide];omega
 have hwd:IntKind.i64.wrap (((8-f:Nat):Int)+1)=((8-f:Nat):Int)+1:=wrap_i64 (by omega) (by omega);refine Ql (n:=77) (rs:=[.tmp 6]) Tryz.func32 rfl rfl rfl rfl (VF rfl) ?_;simp only[Qm];refine awp_rseq [0,1,2] (by rfl) fun K hK=>?_;simp+decide only[qa,ev,qK,qG,putD,VG,VI,Ka,Kb,↓qf,qc,Jq,Nat.reduceAdd];apply hK;clear hK K;refine awp_rseq [0,1,2,7] (by rfl) fun K hK=>?_;simp+decide only[qa,ev,putD,VG,VH,VI,Ka,Kb,↓qg,qd,↓QB,Qo,↓qf,qc,nv];apply hK;clear hK K;refine qF ?_;refine awp_rseq [0,1,2,7,8] (by rfl) fun K hK=>?_;simp+decide only[qa,ev,qK,qG,putD,VG,VI,Ka,Kb,↓qf,qc];apply hK;clear hK K;refine Qb ?_;refine QN [0,1,2,7,8] (fun g:WgG=>[(0,v),(1, .int .i64 most),(2, .int .i64 ((8-f:Nat):Int)),(7, .int .i64 g.n),(8, .int .i64 g.i)]) (fun g:WgG=>h) (fun g:WgG=>g.i<=qs.length/\0<=g.n/\g.n<=most+140737488355328/\R=Wh (qcE f) most (qbP f) (l.drop g.i) g.n) (fun g:WgG=>qs.length-g.i) ⟨0,qs.length⟩ (by rfl) (Vh _) ⟨Jr _,by simp only;omega,by simp only;omega,by rw[Vm,<-hln];exact hR⟩ ?_;rintro⟨i,n⟩ ⟨hi,hn0,hn1,hg⟩;simp only at hi hn0 hn1 hg|-
 refine qF ?_;refine awp_rseq [0,1,2,7,8,20] (by rfl) fun K hK=>?_;simp+decide only[qa,ev,qK,qG,putD,VG,VH,VI,Ka,Kb,↓qg,qd,↓QB,Qo,↓qo,qh,qN,cond_false,qz,Xt,↓Xc,agP,Qs,qW,qP,qH,implies_true,↓QJ,XL,UV,XM,UW,qoK,↓QC,Qr,Qe,QT,QH,nv];apply hK;clear hK K;refine qM (b:=_) rfl (fun hb1=>?_) (fun hb1=>?_)
 ·try simp only[decide_eq_true_eq,Ky]at hb1
  have hi1:i<qs.length:=by omega
  have hnm:n<=most:=by omega
  obtain⟨lc,o,cc,hpe⟩:=hqL.open (fun e=>by rw[VD]at e;rw[e]at hi1;cases hi1);have hq2:=hqL;rw[hpe]at hq2;obtain⟨e0,e1,e2,e3⟩:=x_at hq2 hi1;obtain⟨q,hqq⟩:∃q,q=qs.getD i qoN:=⟨_,rfl⟩
  rw[<-hqq]at e0 e1 e2 e3;have hqm:q∈qs:=by rw[hqq,Ko,JH hi1];exact VA hi1
  obtain⟨hqY,dx',hqZ⟩:=hqo q hqm;obtain⟨hyl,hys,hyc⟩:=hqY.shape;obtain⟨hzl,hzs,hzc⟩:=hqZ.shape;have hxm:q.1∈l:=by rw[hqe];exact Bp hqm
  obtain⟨hxp,hxb⟩:=hL.xs q.1 hxm;obtain⟨ys,hye,hyL,-⟩:=id hqY;obtain⟨zs,hze,hzL,hzo⟩:=id hqZ;have hyn:q.1.p.length=ys.length:=by rw[hye,Jo]
  have hzn:q.1.b.length=zs.length:=by rw[hze,Jo]
  have ny:∀H:AHeap,Zh Tryz.prog H 28 q.2.1=⟨True, .int .i64 ys.length⟩:=fun H=>by have:=hyL.len Tryz.underlying28 H;rwa [Jo]at this
  have nz:∀H:AHeap,Zh Tryz.prog H 29 q.2.2=⟨True, .int .i64 zs.length⟩:=fun H=>by have:=hzL.len Tryz.underlying29 H;rwa [Jo]at this
  have hib:(0<=(i:Int)/\(i:Int)<(qs.length:Int))=True:=eq_true ⟨by omega,by omega⟩;have hqy:Int.tdiv (ys.length:Int) 2=((ys.length / 2:Nat):Int):=by rw[EP (by omega)];exact(EQ _ 2).symm
  have hqz:Int.tdiv (zs.length:Int) 2=((zs.length / 2:Nat):Int):=by rw[EP (by omega)];exact(EQ _ 2).symm
  have hwy:IntKind.i64.wrap ((ys.length / 2:Nat):Int)=((ys.length / 2:Nat):Int):=wrap_i64 (by omega) (by omega);have hwz:IntKind.i64.wrap ((zs.length / 2:Nat):Int)=((zs.length / 2:Nat):Int):=wrap_i64 (by omega) (by omega);have hw1:IntKind.i64.wrap (n+((ys.length / 2:Nat):Int))=n+((ys.length / 2:Nat):Int):=wrap_i64 (by omega) (by omega);have hw2:IntKind.i64.wrap (n+((ys.length / 2:Nat):Int)+((zs.length / 2:Nat):Int))=n+((ys.length / 2:Nat):Int)+((zs.length / 2:Nat):Int):=wrap_i64 (by omega) (by omega);have hwi:IntKind.i64.wrap ((i:Int)+1)=((i+1:Nat):Int):=by rw[wrap_i64 (by omega) (by omega)];omega
  obtain⟨n1,hn1E⟩:∃n1,n1=n+((ys.length / 2:Nat):Int)+((zs.length / 2:Nat):Int):=⟨_,rfl⟩
  rw[<-hn1E]at hw2;have hdrop:l.drop i=q.1::l.drop (i+1):=by
   rw[J9 (by omega)];congr 1;have:l[i]?=some q.1:=by rw[hqe,VE,JH hi1,hqq,Ko,JH hi1];rfl
   rw[JH (by omega)]at this;exact Option.some.inj this
  rw[hdrop,Wh,if_pos hnm]at hg;obtain⟨m,hmE⟩:∃m,m=Ur (qcE f) most (qbP f) q.1 n:=⟨_,rfl⟩
  have hmB:=qmO (deep:=qbP f) (n:=n) (hWb q.1 hxm) hxp hxb hn0 hnm;rw[<-hmE]at hg hmB;have hmE2:m=if qbP f=true then Uj (qcE f) most q.1.b n1 else n1:=by rw[hmE,hn1E,<-hyn,<-hzn];rfl
  refine qV ?_;change Awp _ _ _ _ _ _ _;refine qF ?_;refine Qb ?_;refine WP [0,1,2,7,8] mixed (by kernel_rfl) (by rfl) (by rfl) fun K hK=>?_;simp+decide only[ev,qK,qG,putD,VG,VH,Ka,Kb,↓qg,qd,↓qZ,Qc,qA Tryz.underlying35 qot,↓qC,qi,qfj,↓qI,qj qpF,↓QB,Qo,↓qo,qh,qE,cond_false,qz,pI_quo,qN,QW,hpe,e1,hyl,ny,hib,hqy,hwy,hw1,VN,Jo];try simp+decide only[qa,ev,qK,qG,putD,VG,VH,VI,Ka,Kb,Qc,qcU,qj qmC,↓QB,Qo,↓qo,qh,qE,cond_false,qz,pI_quo,qN,QW,↓qf,qc,e2,hzl,nz,hqz,hwz,<-hn1E,hw2]
  apply hK;clear hK K;refine awp_rseq [0,1,2,7,8,9] (by rfl) fun K hK=>?_;simp+decide only[qa,ev,qK,qG,putD,VG,VI,Ka,Kb,↓qf,qc];apply hK;clear hK K;refine Qb ?_;refine QN [0,1,2,7,8,9] (fun g:WgG=>[(0,v),(1, .int .i64 most),(2, .int .i64 ((8-f:Nat):Int)),(7, .int .i64 g.n),(8, .int .i64 i),(9, .int .i64 g.i)]) (fun g:WgG=>h) (fun g:WgG=>g.i<=zs.length/\0<=g.n/\g.n<=most+140737488355328/\(qbP f=true->m=Uj (qcE f) most (q.1.b.drop g.i) g.n)/\(qbP f=false->m=g.n)) (fun g:WgG=>zs.length-g.i) ⟨0,n1⟩ (by rw[hpe,Jo];rfl) (Vh _) ⟨Jr _,by simp only;omega,by simp only;omega,fun hz=>by rw[hmE2,if_pos hz];rfl,fun hz=>by rw[hmE2,if_neg (by rw[hz];decide)]⟩ ?_;rintro⟨k,n2⟩ ⟨hk,hk0,hk1,hkt,hkf⟩;simp only at hk hk0 hk1 hkt hkf|-
  refine qF ?_;refine awp_rseq [0,1,2,7,8,9,56] (by rfl) fun K hK=>?_;simp+decide only[qa,ev,qK,qG,putD,VG,VH,VI,Ka,Kb,↓qg,qd,↓qZ,Qc,qA Tryz.underlying35 qot,↓qC,qi,qcU,↓qI,qj qmC,↓QB,Qo,↓qo,qh,qN,cond_false,qz,Xt,↓Xc,agP,Qs,qW,qP,qH,implies_true,↓QJ,XL,UV,XM,UW,qoK,↓QC,Qr,Qe,QT,QH,qE,hpe,e2,hzl,nz,hib,VN,Jo];apply hK;clear hK K;refine qM (b:=_) rfl (fun hb2=>?_) (fun hb2=>?_)
  ·try simp only[decide_eq_true_eq,Ky]at hb2
   have hk2:k<zs.length:=by omega
   have hd8:qbP f=true:=by rw[hdp];exact decide_eq_true (by omega)
   have hn2m:n2<=most:=by omega
   obtain⟨lz,oz,cz,hze2⟩:=hzL.open (fun e=>by rw[VD]at e;rw[e]at hk2;cases hk2);have hz2:=hzL;rw[hze2]at hz2;obtain⟨g0,g1,g2,g3⟩:=z_at hz2 hk2;obtain⟨z,hzz⟩:∃z,z=zs.getD k qnj:=⟨_,rfl⟩
   rw[<-hzz]at g0 g1 g2 g3;have hzm:z∈zs:=by rw[hzz,Ko,JH hk2];exact VA hk2
   have hzX:=(hzo z hzm).2;obtain⟨hul,hus,huc⟩:=hzX.shape;have hzb:z.1∈q.1.b:=by rw[hze];exact Bp hzm
   obtain⟨f',hff,hfL⟩:=hL.at_ hxm hd8;have hkb:(0<=(k:Int)/\(k:Int)<(zs.length:Int))=True:=eq_true ⟨by omega,by omega⟩;have hw8:IntKind.i64.wrap (((8-f:Nat):Int)+1)=((8-f':Nat):Int):=by rw[hwd];omega
   have hwn:IntKind.i64.wrap (most-n2)=most-n2:=wrap_i64 (by omega) (by omega);have hWz:=hWb q.1 hxm hd8 z.1 hzb (most-n2) (by omega) (by omega);have hWe:qcE f=Yn f':=by rw[hff];rfl
   obtain⟨u,huE⟩:∃u,u=Yn f' z.1.2.2.1 (most-n2):=⟨_,rfl⟩
   rw[hWe,<-huE]at hWz;have hwu:IntKind.i64.wrap (n2+u)=n2+u:=wrap_i64 (by omega) (by omega);have hwk:IntKind.i64.wrap ((k:Int)+1)=((k+1:Nat):Int):=by rw[wrap_i64 (by omega) (by omega)];omega
   have hdz:q.1.b.drop k=z.1::q.1.b.drop (k+1):=by
    have hbl:k<q.1.b.length:=by omega
    rw[J9 hbl];congr 1;have:q.1.b[k]?=some z.1:=by rw[hze,VE,JH hk2,hzz,Ko,JH hk2];rfl
    rw[JH hbl]at this;exact Option.some.inj this
   refine qV ?_;change Awp _ _ _ _ _ _ _;refine qF ?_;refine Qb ?_;refine Xa [0,1,2,7,8,9] (by rfl) ?_;simp+decide only[ev,qK,qG,putD,VG,VH,Ka,Kb,↓qg,qd,↓qZ,Qc,qA Tryz.underlying35 qot,↓qC,qi,qcU,↓qI,qj qmC,qA Tryz.underlying29 sz37,qpg,qj ag35,↓qo,qh,qN,cond_false,qz,Wl,qE,QW,Xv,hpe,e2,hze2,g2,hul,hib,hkb,hw8,hwn,VN,Jo];refine qY (by rfl) (by rfl) (ih f' hff _ z.2.2 z.1.2.2.1 (most-n2) hzX (hfL z.1 hzb) (by omega) (by omega)) fun x9q15 h9q15 hx9q15=>?_;obtain⟨rfl,rfl⟩:=hx9q15;rw[<-huE];simp+decide only[qa,ev,putD,VG,VH,VI,Ka,Kb,↓qo,qh,qN,cond_false,qz,QW,↓qf,qc,hwu];change Awp _ _ _ _ _ _ _;refine Xa [0,1,2,7,8,9] (by rfl) ?_;simp+decide only[qa,ev,qK,qG,putD,VG,VH,VI,Ka,Kb,↓qg,qd,↓qo,qh,qE,cond_false,qz,QW,↓qf,qc,hwk];try simp only[qR]
   exact⟨⟨k+1,n2+u⟩,by first|rfl|(rw[hpe,Jo];rfl),Vh _,⟨hk2,by simp only;omega,by simp only;omega,fun hz=>by rw[hkt hz,hdz,Uj,if_pos hn2m,hWe,<-huE],fun hz=>by rw[hd8]at hz;cases hz⟩,by simp only;omega⟩
  ·try simp only[decide_eq_false_iff_not,VO]at hb2
   have hmk:m=n2:=by
    cases hz:qbP f with
    |false=>exact hkf hz
    |true=>
     have hz8:((8-f:Nat):Int)<8:=by rw[hdp]at hz;exact of_decide_eq_true hz
     rw[hkt hz];by_cases hkl:k<zs.length
     ·have hbl:k<q.1.b.length:=by omega
      rw[J9 hbl,Uj,if_neg (by omega)]
     ·rw[Eu (by omega)];rfl
   refine QI ?_;change Awp _ _ _ _ _ _ _;refine Xa [0,1,2,7,8] (by rfl) ?_;simp+decide only[qa,ev,qK,qG,putD,VG,VH,VI,Ka,Kb,↓qg,qd,↓qo,qh,qE,cond_false,qz,QW,↓qf,qc,hwi];try simp only[qR]
   exact⟨⟨i+1,n2⟩,by rw[hpe,Jo];rfl,Vh _,⟨hi1,hk0,hk1,by rw[<-hmk];exact hg⟩,by simp only;omega⟩
 ·try simp only[decide_eq_false_iff_not,VO]at hb1
  have hRn:R=n:=by
   rw[hg];by_cases hil:i<qs.length
   ·rw[J9 (by omega),Wh,if_neg (by omega)]
   ·rw[Eu (by omega)];rfl
  refine QI ?_;change Awp _ _ _ _ _ _ _;refine awp_rseq [6] (by rfl) fun K hK=>?_;simp+decide only[qa,ev,putD,VG,VH,VI,Ka,Kb,↓qg,qd,↓qf,qc];apply hK;clear hK K;refine Qn ?_;refine Xf h zqC (qJ (qO)) ?_;simp+decide only[VH,if_true,and_true,Qg];rw[hRn]
theorem qrt(wz:World):∀(f d:Nat) (h:AHeap) (v:AVal) (l:List XC) (most:Int),f<=8->XsV wz d h v l->LenX 140737488355328 f l->0<=most->most<=1000000->ACall Tryz.prog wz 32 [v, .int .i64 most, .int .i64 ((8-f:Nat):Int)] h (fun r h'=>r= .int .i64 (Yn f l most)/\h'=h)
 |0,d,h,v,l,most,hf,hX,hL,h0,h6=>qnI wz 0 d h v l most hf hX hL h0 h6 fun g hg=>by cases hg
 |f+1,d,h,v,l,most,hf,hX,hL,h0,h6=>qnI wz (f+1) d h v l most hf hX hL h0 h6 fun g hg d v l most hX hL h0 h6=>by
  obtain rfl:f=g:=Nat.succ.inj hg;exact qrt wz f d h v l most (by omega) hX hL h0 h6
def qkk(l:List XC)(most:Int):Bool:=decide (most<Yn 8 l most)
theorem c_big(wz:World)(d:Nat)(h:AHeap)(v:AVal)(l:List XC)(most:Int)(hX:XsV wz d h v l)(hL:LenX 140737488355328 8 l)(h0:0<=most)(h6:most<=1000000):ACall Tryz.prog wz 14 [v, .int .i64 most] h (fun r h'=>r= .bool (qkk l most)/\h'=h):=by
 have hvl:=hX.shape.1;refine Ql (n:=10) (rs:=[.tmp 4]) Tryz.func14 rfl rfl rfl rfl (VF rfl) ?_;simp only[Qm];refine awp_rseq [0,1] (by rfl) fun K hK=>?_;simp+decide only[qa,ev,qK,qG,putD,VG,VI,Ka,Kb,↓qf,qc,Jq];apply hK;clear hK K;refine awp_rseq [4] (by rfl) fun K hK=>?_;simp+decide only[ev,putD,VG,VH,Ka,Kb,↓qg,qd];refine QS (V:= .int .i64 (Yn 8 l most)) (by rfl) (by rfl) (qrt wz 8 d _ v l most (KM _) hX hL h0 h6) ?_;simp+decide only[qa,ev,putD,VG,VH,VI,Ka,Kb,↓qg,qd,↓qo,qh,qN,cond_false,qz,Yk,↓qf,qc];apply hK;clear hK K;refine Qn ?_;refine Xf h zqC (qJ (qO)) ?_;simp+decide only[VH,if_true,and_true,Qg];all_goals first|rfl|exact⟨rfl,rfl⟩|(simp+decide only[Ka, *];done)|(trace_state;fail)
end Go.Proofs.YtgiadjbiimkbiaaGreatDoor
namespace Go.Stm
open Go.Col (Str FaultC okF)
open Go.Tok
open Go.Proofs.YtgiadjbiimkbiaaGreatDoor (asciiB Short TxS qkl qkk qbA qbC)
set_option maxRecDepth 100000
theorem qef{α:Type}{R:α->α->Bool}:∀{l:List α},(∀x∈l,R x x=true)->rowE R l l=true
 |[],_=>rfl
 |x::l,h=>by rw[rowE,h x Jf,qef fun y hy=>h y (Jg _ hy)];rfl
theorem qhv(l:List TokC):ZI l l=true:=decide_eq_true rfl
theorem qmV(p:PhrC):UI p p=true:=by unfold UI;rw[qhv];simp
theorem qkC:∀(m:Nat) (l:List StC),sameE m l l=true
 |0,l=>decide_eq_true rfl
 |m+1,l=>qef fun s _=>by
  rw[qef fun p _=>qmV p,qef fun b _=>by rw[qhv,qkC m];simp];simp
theorem qmU:∀{m:Nat} {a b:List StC},sameE m a b=true->a.length=b.length
 |0,_,_,h=>of_decide_eq_true h
 |_+1,_,_,h=>qiM h
theorem same_app{m:Nat}{x y:List StC}(hy:y≠[]):sameE m x (x++y)=false:=by
 rw[ER];intro h;have:=qmU h;rw[Jc]at this;exact hy (EB.1 (by omega))
structure BuiltOk(x:List StC)(a:Str):Prop where
 wf:WfS 6 x
 cnt:Xj 6 x<=151
 ne:x≠[]
 len:a.length<=1000000000
 txt:a≠[]
theorem build_sp.xbuild_sp(B:List XC->Nat->Bool->Str×List StC)(x:XC)(d:Nat)(e last:Bool):∃Y,(XY B x d e last).text=32::Y:=by
 obtain⟨row,hr⟩:∃row,row=rowOf x d:=⟨_,rfl⟩
 obtain⟨b2,hb2⟩:∃b2,b2=Zr B x (Za x ⟨32::row.getD 0 [],⟨row.getD 0 [],0,0,[],[]⟩⟩ (Yo (row.getD 1 []))) (Yo (row.getD 2 [])) d last:=⟨_,rfl⟩
 have h1:(XY B x d e last)=if qbM b2 (row.getD 0 []) x.cut e last=true then WC b2 (ENDw++row.getD 0 [])else b2:=by rw[hb2,hr];rfl
 have h2:(32::row.getD 0 [])<+:b2.text:=by
  rw[hb2];refine List.IsPrefix.trans ?_ (qiS _ _ _ _ _ _);have hw:∀b:BuC,∀forms:List Str,b.text<+:(Za x b forms).text:=fun b forms=>by
   unfold Za;simp only;split
   ·exact qiT _ _
   ·exact(qiT b _).trans (qbF forms _ {WC b (ZZ x b.cur.verb)with cur:={(WC b (ZZ x b.cur.verb)).cur with phrases:=[⟨[],Xg (ZZ x b.cur.verb)⟩]}})
  exact hw ⟨32::row.getD 0 [],⟨row.getD 0 [],0,0,[],[]⟩⟩ _
 obtain⟨Z,hZ⟩:=h2;have h3:∃Y,b2.text=32::Y:=⟨_,hZ.symm⟩
 rw[h1];split
 ·obtain⟨Y,hY⟩:=h3
  exact⟨_,show b2.text++[32]++_=_ by rw[hY];rfl⟩
 ·exact h3
theorem qnT{l:List XC}{most:Int}(h:qkk l most=false)(h0:0<=most)(h30:most<=30)(last:Bool):BuiltOk (Xo 6 l 1 last).2 (Xo 6 l 1 last).1/\qbA 6 l:=by
 have hle:Yn 8 l most<=most:=by
  unfold qkk at h;have:=of_decide_eq_false h;omega
 obtain⟨h1,h2⟩:=qcF h0 hle;obtain⟨hB,hne⟩:=qrA 6 8 1 (by decide) (by decide) (by decide);have hc:=hB.cnt l last;have hl:=hB.len l last;have hx:qhh 8 l<=30:=by omega
 refine⟨⟨hB.wf l last,by omega,hne l last,by omega,fun e=>?_⟩,qkB (m:=2*30+1) (by decide) (h2 30 (by omega)) (by decide)⟩;have hw:=hB.wf l last;have hE:Xo 6 l 1 last=if (ZE (Xo 5) l 1 last 4 ([],[])).2=[]then([32,67,79,78,84,73,78,85,69],[contC])else ZE (Xo 5) l 1 last 4 ([],[]):=rfl
 rw[hE]at e;split at e
 ·cases e
 ·rename_i hz
  by_cases hl0:l.length=0
  ·exact hz (by rw[qaV _ _ _ _ _ _ _ (by simp[hl0])])
  ·rw[qaW _ _ _ _ _ _ _ (by simp only[JN];omega) (by decide)]at e
   obtain⟨Y,hY⟩:=build_sp.xbuild_sp (Xo 5) (l.getD ([]:List StC).length noX) 1 (decide (([]:List StC).length+1=l.length)||decide (([]:List StC).length=3)) (last && (decide (([]:List StC).length+1=l.length)||decide (([]:List StC).length=3)));have hp:=qdP (Xo 5) l 1 last 3 ([]++(XY (Xo 5) (l.getD ([]:List StC).length noX) 1 (decide (([]:List StC).length+1=l.length)||decide (([]:List StC).length=3)) (last && (decide (([]:List StC).length+1=l.length)||decide (([]:List StC).length=3)))).text,[]++[(XY (Xo 5) (l.getD ([]:List StC).length noX) 1 (decide (([]:List StC).length+1=l.length)||decide (([]:List StC).length=3)) (last && (decide (([]:List StC).length+1=l.length)||decide (([]:List StC).length=3)))).cur.done]);rw[e]at hp;simp only[Je]at hp;rw[hY]at hp;have:=hp.length_le;simp at this
theorem BuiltOk.join_len{x:List StC}{a:Str}(h:BuiltOk x a):(QG 6 x).length<=1000000:=Vd h.wf.q.spelled (by have:=h.cnt;omega)
theorem join_len_le{l:List Str}{n:Nat}(h:∀s∈l,s.length<=n):(Lib.join l [32]).length<=(n+1)*l.length:=by
 cases l with
 |nil=>exact Jr _
 |cons x l=>
  have h1:32::Lib.join (x::l) [32]=Yg (fun x=>32::x) (x::l):=qno x l;have h2:(Yg (fun x:Str=>32::x) (x::l)).length<=(n+1)*(x::l).length:=by
   unfold Yg;rw[EM,EF];exact WN fun s hs=>by
    have:=h s hs;simp only[Function.comp,KY];omega
  rw[<-h1,KY]at h2;omega
theorem qeM:∀{m:Nat} {l:List StC},WfQ m l->∀s∈QG m l,s.length<=200
 |0,_,_,s,hs=>by cases hs
 |m+1,l,h,s,hs=>by
  rw[QG]at hs;obtain⟨r,hr,hs⟩:=ES.1 hs;obtain⟨t,ht,rfl⟩:=JP.1 hr;obtain⟨h1,h2,h3,h4⟩:=h.2 t ht;have tk:∀{ts:List TokC},(∀t∈ts,qia t)->∀s∈ts.map ZU,s.length<=200:=fun hts s hs=>by
   obtain⟨u,hu,rfl⟩:=JP.1 hs;have:=(hts u hu).2;simp only[ZU,KY];omega
  rcases JR.1 hs with hs|hs
  ·rcases KX.1 hs with rfl|hs
   ·have:=(Uk h1).1
    rw[KY];omega
   ·rcases JR.1 hs with hs|hs
    ·obtain⟨r,hr,hs⟩:=ES.1 hs
     obtain⟨p,hp,rfl⟩:=JP.1 hr;rcases KX.1 hs with rfl|hs
     ·have:=(Ym (h2.2 p hp).1).1
      simp only[KY,Jc,JN];omega
     ·exact tk (h2.2 p hp).2.2 s hs
    ·obtain⟨r,hr,hs⟩:=ES.1 hs
     obtain⟨b,hb,rfl⟩:=JP.1 hr;rcases KX.1 hs with rfl|hs
     ·have:=(Ym (h4 b hb).1).1
      simp only[KY,Jc,JN];omega
     ·rcases JR.1 hs with hs|hs
      ·exact tk (h4 b hb).2.2.1 s hs
      ·exact qeM (h4 b hb).2.2.2 s hs
  ·rw[VM.1 hs];decide
theorem BuiltOk.join{x:List StC}{a:Str}(h:BuiltOk x a):(Lib.join (QG 6 x) [32]).length<=140737488355328:=by
 have h1:=join_len_le (qeM h.wf.q);have h2:=h.join_len;have:(200+1)*(QG 6 x).length<=(200+1)*1000000:=Nat.mul_le_mul_left _ h2;omega
theorem BuiltOk.sameE{x y:List StC}{a b:Str}(hx:BuiltOk x a)(hy:BuiltOk y b):qaJ 6 x y=decide (Lib.join (QG 6 x) [32]=Lib.join (QG 6 y) [32]):=by
 unfold qaJ;rw[hx.wf.q.deep (by decide),hy.wf.q.deep (by decide),qls (m:=5) hx.wf.q.ok hy.wf.q.ok hx.ne hy.ne];rfl
theorem qbR{d:Nat}{l:List StC}:∀L j,ParseR QV (XK d l) XE (.ok L j)->SmallS 32 L:=fun L j h=>
 (qhA (N:=100000) (by have:=qbC d l;omega) h 32).small (by decide)
theorem qmT{m:Nat}{s:StC}{l:List StC}:qaJ 32 [] (s::l)=false:=by
 unfold qaJ;have:sameE 32 [] (s::l)=false:=rfl;rw[this];simp
theorem check_p{d:Nat}{v:Str}{bs:List BodC}{e:Int}(hT:XK d [.mk v 0 0 [] bs]≠[])(h:qdZ d [.mk v 0 0 [] bs] e):e=4:=by
 rcases h with⟨_,h,_⟩|⟨_,⟨f,_,h⟩|⟨L,j,hp,h⟩⟩
 ·exact absurd h hT
 ·rw[qmT (m:=d)]at h
  rw[h];split<;>rfl
 ·have hO:=qhA (N:=100000) (by have:=qbC d [StC.mk v 0 0 [] bs];omega) hp 1
  have:qaJ 32 L [.mk v 0 0 [] bs]=false:=by
   rw[ER];intro hs;unfold qaJ at hs;simp only[Ky]at hs;have h1:sameE 32 L [.mk v 0 0 [] bs]=true:=hs.2.2;match L,h1,hO with
   |[s],h1,hO=>
    rw[Go.Stm.sameE,rowE]at h1;simp only[Ky]at h1;have h2:rowE UI s.phrases []=true:=h1.1.2.1;have:=(hO.2 s Jf).1;cases hph:s.phrases with
    |nil=>exact this hph
    |cons p ps=>rw[hph]at h2;cases h2
   |[],h1,_=>cases h1
   |s::t::L,h1,_=>
    have:=qmU h1;simp at this
  rw[this]at h;exact h
theorem qkZ{d:Nat}{s:StC}{e:Int}{n:Nat}{f:FaultC}(hT:XK d [s]≠[])(hp:WV QV (XK d [s]) XE n=some (.bad f))(h:qdZ d [s] e):e=4:=by
 rcases h with⟨_,h,_⟩|⟨_,⟨g,_,h⟩|⟨L,j,hq,h⟩⟩
 ·exact absurd h hT
 ·rw[qmT (m:=d)]at h
  rw[h];split<;>rfl
 ·cases ET hq ⟨n,hp⟩
def qS:StC:= .mk [78,79,45,86,69,82,66] 0 0 [⟨[],[]⟩] []
def rS:StC:= .mk IFv 0 0 [⟨[],Xg [65]⟩] [(qcC,[],[])]
theorem q_bad:(match WV QV (XK 6 [qS]) XE 20 with|some (.bad _)=>true|_=>false)=true/\XK 6 [qS]≠[]:=by decide+kernel
theorem r_bad:(match WV QV (XK 6 [rS]) XE 20 with|some (.bad _)=>true|_=>false)=true/\XK 6 [rS]≠[]:=by decide+kernel
theorem bad_of{x:Option (Rs (List StC))}(h:(match x with|some (.bad _)=>true|_=>false)=true):∃f,x=some (.bad f):=by
 match x,h with
 |some (.bad f),_=>exact⟨f,rfl⟩
theorem check_q{e:Int}(h:qdZ 6 [qS] e):e=4:=by
 obtain⟨f,hf⟩:=bad_of q_bad.1;exact qkZ q_bad.2 hf h
theorem check_r{e:Int}(h:qdZ 6 [rS] e):e=4:=by
 obtain⟨f,hf⟩:=bad_of r_bad.1;exact qkZ r_bad.2 hf h
theorem qsN{d:Nat}{e:Int}(h:qdZ d [] e):e=0:=by
 have hp:ParseR QV (XK d []) XE (.ok [] 0):=ParseR.sent (by show ¬65536<(XK d []).length;rw[show XK d []=[]from rfl];decide) (SentR.stop (by rw[show XK d []=[]from rfl];decide));rcases h with⟨h,_,_⟩|⟨_,⟨g,hq,h⟩|⟨L,j,hq,h⟩⟩
 ·cases h
 ·cases ET hp hq
 ·cases ET hp hq
  exact h
theorem wf_q:WfQ 6 [qS]:=⟨by decide,fun s hs=>by
 rw[VM.1 hs];exact⟨by decide,⟨by decide,fun p hp=>by rw[VM.1 (show p∈[(⟨[],[]⟩:PhrC)]from hp)];exact⟨by decide,by decide,fun t ht=>by cases ht⟩⟩,by decide,fun b hb=>by cases hb⟩⟩
theorem wf_r:WfQ 6 [rS]:=⟨by decide,fun s hs=>by
 rw[VM.1 hs];refine⟨by decide,⟨by decide,fun p hp=>?_⟩,by decide,fun b hb=>?_⟩
 ·rw[VM.1 (show p∈[(⟨[],Xg [65]⟩:PhrC)]from hp)]
  exact⟨by decide,by decide,qem (by decide)⟩
 ·rw[VM.1 (show b∈[(qcC,([]:List TokC),([]:List StC))]from hb)]
  exact⟨by decide,by decide,(fun t ht=>by cases ht),by decide,fun s hs=>by cases hs⟩⟩
def pS(s:StC):StC:= .mk s.verb 0 0 [] s.bodies
theorem BuiltOk.p{s:StC}{l:List StC}{a:Str}(h:BuiltOk (s::l) a):WfQ 6 [pS s]/\XK 6 [pS s]≠[]/\Xj 6 [pS s]<=151:=by
 have hq:=h.wf.q;have hw:WfQ 6 [pS s]:=⟨by simp,fun t ht=>by
  rw[VM.1 ht];obtain⟨h1,h2,h3,h4⟩:=hq.2 s Jf;exact⟨h1,⟨Jr _,fun p hp=>by cases hp⟩,h3,h4⟩⟩
 have hc:Xj 6 [pS s]<=151:=by
  have h1:=h.cnt;rw[qjt]at h1|-
  simp only[Ke,Vj,ED,List.sum_nil]at h1|-
  have:YO 5 (pS s).bodies=YO 5 s.bodies:=rfl;omega
 exact⟨hw,by rw[qrP hw (by decide) (by simp) (by omega)];simp,hc⟩
end Go.Stm
