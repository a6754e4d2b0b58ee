/-
  Texts of this proof, joined: SsF, SsG, SsH, SvF, SvG, SvH, SsI, SsJ, SsL, SsK, StA, StB, StC, StD, SvI, SvJ, SvK, SvL, StE, SsM, StF, SvM, SvN, SvO, SvP.
  Conditions: none.
-/
import Derived.Test.YtgiadjbiimkbiaaGreatDoorBd
import Derived.Test.YtgiadjbiimkbiaaGreatDoorBb
set_option linter.unusedSimpArgs false
set_option linter.unnecessarySimpa false
set_option linter.unusedVariables false
open List renaming append_assoc->Jb,prefix_append->EG,prefix_refl->EH,length_take->K6,drop_eq_getElem_cons->Ve,getD->Ko,getElem?_eq_getElem->JD,length_map->Jp,getLastD_eq_getLast?->BQ,getLast?_append->EI,getLast?_cons_cons->EJ,getLast?_singleton->EK,map_eq_nil_iff->V5,getElem_mem->VY,getElem?_map->V6,length_nil->JF,eq_nil_of_length_eq_zero->Kg,length_append->Jd,mem_singleton->V9,foldl_cons->EP,length_singleton->JH,getElem?_cons_zero->Kz,getElem?_cons_succ->KM,filterMap_cons->VZ,filterMap_nil->EQ,map_append->JK,mem_append->JX,getD_cons_zero->VQ,getD_cons_succ->Kn,drop_eq_nil_of_le->ER,length_pos_iff->Bv,range->KP,length_range->ES,mem_cons_of_mem->Jh,mem_cons_self->Jg,length_cons->KZ,cons_append->Kh,mem_cons->KY,length_eq_zero_iff->ET,any_eq_false->EW,all_eq_true->JB,mem_range->JC,any_eq_true->Vb,mem_map->JM,exists_cons_of_ne_nil->Ev,headD_cons->EX,append_nil->JG,nil_append->Jf,mem_map_of_mem->BL,length_dropLast->E8,dropLast_subset->E9,getLast?_eq_some_getLast->Da,getLast_mem->Db,length_drop->K7,map_cons->Ke,sum_cons->De,dropWhile_sublist->Df,mem_reverse->EF,flatten_cons->VS,map_congr_left->Dg,range_succ_eq_map->Dh,map_map->Di,sum_append->Dj,map_singleton->Es,sum_singleton->Dk,contains_iff_mem->Va,drop_zero->Vp,getD_eq_getElem?_getD->Dq,length->Ee
open Nat renaming mul_one->Bo,le_trans->Vg,le_of_ble_eq_true->V7,add_zero->K8,zero_mul->K9,zero_le->Js,le_refl->KL,mod_lt->Km,zero_add->Jr,le_of_lt->BS,add_assoc->Kw
open Option renaming some_or->EL,getD_some->EM
open Go.AM.AHeap renaming set_none->Bi,ne_some->Bl,set_same->Vj,set_set->Bn
open Go.AM.Sub renaming none->Bj,refl->Vk,trans->Bt,set->Vl
open Go.AM.Sep renaming lay->Ec,unfold->EN,nest->EO,fold->BZ
open Go.AM.Awp renaming forget->BO
open Int renaming toNat_zero->Bz,tmod->EC,tmod_eq_emod_of_nonneg->ED,natCast_emod->EE,toNat_natCast->Vw,le_refl->Dc,tdiv_eq_ediv_of_nonneg->Dl,natCast_ediv->Dm
open Go.AM.IsL renaming own->BA
open Bool renaming and_eq_true->Ky,or_eq_false_iff->VD,not_eq_false'->VE,and_eq_false_iff->VF,not_eq_true'->Jj,or_eq_true->JJ,false_or->VJ,not_true->VK,not_eq_true->BP,true_and->Vz,or_assoc->E5,not_not->VA,and_true->J8
open Go.Stm.At renaming app->EU,one->EY
open Go.Stm.LoopR renaming impl->EZ
open Go.AM.Slots renaming put->V8
open Go.Stm.StC renaming bodies->Eo
open Go.Stm.ListR renaming next->Dn,stop->Dp
open Go.Stm.ParseR renaming sent->Ea,one->Dr
open UInt8 renaming ofNat->KD
namespace Go.Stm
open Go.Col (Str)
open Go.Tok
theorem qti(forms:List Str)(b:BuC)(y:YC):b.text<+:(QJ forms b y).text:=by
 have:(QJ forms b y).text=b.text++[32]++(Zl (forms.getD (y.form.toNat%forms.length) []) y.short true++QY y.ops):=by
  unfold QJ;simp only;split<;>rfl
 rw[this,Jb];exact EG _ _
theorem qde(forms:List Str):∀(l:List YC) (b:BuC),b.text<+:(l.foldl (QJ forms) b).text
 |[],b=>EH _
 |y::l,b=>(qti forms b y).trans (qde forms l _)
theorem qlb{α:Type}{l:List α}{n i:Nat}{d:α}(hi:i<l.length)(hn:i<n):(l.take n).drop i=l.getD i d::(l.take n).drop (i+1):=by
 have h:i<(l.take n).length:=by rw[K6];omega
 rw[Ve h,List.getElem_take,Ko,JD hi];rfl
end Go.Stm
namespace Go.Proofs.YtgiadjbiimkbiaaGreatDoor
open Go.AM
open Go.Proofs
open Go.Col (Str FaultC okF)
open Go.Tok (TokC)
open Go.Stm
open Go.RowKit (Below)
set_option maxRecDepth 100000
def yC(q:YC×AVal):List AVal:=[.int .u8 q.1.form.toNat,q.2, .int .u8 q.1.short.toNat]
def zC(q:ZC×AVal×AVal):List AVal:=[.int .u8 q.1.1.toNat,q.2.1,q.2.2, .int .u8 q.1.2.2.2.toNat]
def xC(q:XC×AVal×AVal):List AVal:=[.int .u8 q.1.verb.toNat,q.2.1,q.2.2, .bool q.1.cut]
def YsV(wz:World)(h:AHeap)(v:AVal)(l:List YC):Prop:=∃qs:List (YC×AVal),l=qs.map (·.1)/\IsL wz h 3 v (qs.map yC)/\∀q∈qs,IsL wz h 1 q.2 (q.1.ops.map u8C)
def ZsV(wz:World)(S:AVal->List XC->Prop)(h:AHeap)(v:AVal)(l:List ZC):Prop:=∃qs:List (ZC×AVal×AVal),l=qs.map (·.1)/\IsL wz h 4 v (qs.map zC)/\∀q∈qs,IsL wz h 1 q.2.1 (q.1.2.1.map u8C)/\S q.2.2 q.1.2.2.1
def XsV(wz:World):Nat->AHeap->AVal->List XC->Prop
 |0,h,v,l=>l=[]/\IsL wz h 4 v []
 |d+1,h,v,l=>∃qs:List (XC×AVal×AVal),l=qs.map (·.1)/\IsL wz h 4 v (qs.map xC)/\∀q∈qs,YsV wz h q.2.1 q.1.p/\ZsV wz (XsV wz d h) h q.2.2 q.1.b
theorem YsV.mono{wz:World}{h h':AHeap}{v:AVal}{l:List YC}(hp:YsV wz h v l)(hs:AM.Sub h h'):YsV wz h' v l:=by
 obtain⟨qs,e,a,b⟩:=hp;exact⟨qs,e,a.mono hs,fun q hq=>(b q hq).mono hs⟩
theorem ZsV.mono{wz:World}{h h':AHeap}{S S':AVal->List XC->Prop}{v:AVal}{l:List ZC}(hp:ZsV wz S h v l)(hs:AM.Sub h h')(hS:∀v l,S v l->S' v l):ZsV wz S' h' v l:=by
 obtain⟨qs,e,a,b⟩:=hp;exact⟨qs,e,a.mono hs,fun q hq=>⟨(b q hq).1.mono hs,hS _ _ (b q hq).2⟩⟩
theorem XsV.mono{wz:World}{h h':AHeap}(hs:AM.Sub h h'):∀{d:Nat} {v:AVal} {l:List XC},XsV wz d h v l->XsV wz d h' v l
 |0,_,_,hp=>⟨hp.1,hp.2.mono hs⟩
 |d+1,_,_,⟨qs,e,a,b⟩=>⟨qs,e,a.mono hs,fun q hq=>⟨(b q hq).1.mono hs,(b q hq).2.mono hs fun _ _=>XsV.mono hs⟩⟩
theorem YsV.shape{wz:World}{h:AHeap}{v:AVal}{l:List YC}(hp:YsV wz h v l):v.live=true/\v.scal=true/\v.cells=[v]:=by obtain⟨_,_,a,_⟩:=hp;exact⟨a.live,a.scal,a.cells⟩
theorem ZsV.shape{wz:World}{h:AHeap}{S:AVal->List XC->Prop}{v:AVal}{l:List ZC}(hp:ZsV wz S h v l):v.live=true/\v.scal=true/\v.cells=[v]:=by obtain⟨_,_,a,_⟩:=hp;exact⟨a.live,a.scal,a.cells⟩
def noYq:YC×AVal:=(noY, .nilSlice)
theorem y_at{wz:World}{h:AHeap}{lc:AM.Loc}{o n:Nat}{c:Cap}{qs:List (YC×AVal)}(ht:IsL wz h 3 (.slice lc o n c) (qs.map yC)){i:Nat}(hi:i<qs.length):
 rd wz h lc (o+i*3)= .int .u8 (qs.getD i noYq).1.form.toNat/\rd wz h lc (o+i*3+1)=(qs.getD i noYq).2/\rd wz h lc (o+i*3+2)= .int .u8 (qs.getD i noYq).1.short.toNat:=by
 have he:=ht.elem (i:=i) (by rw[Jp];exact hi);rw[getD_map noYq hi]at he;simp only[and_true,cellsAt,List.cons.injEq,yC]at he;exact he
def qgy(l:List Str):Prop:=l.length<=1000/\∀f∈l,f.length<=500/\asciiB f=true
theorem frm_at{wz:World}{h:AHeap}{lc:AM.Loc}{o n:Nat}{c:Cap}{l:List Str}(hv:IsL wz h 1 (.slice lc o n c) (l.map strC)){i:Nat}(hi:i<l.length):rd wz h lc (o+i)= .str (l.getD i []):=by
 have:=hv.at0 (i:=i) (by rw[Jp];exact hi) (by decide);rw[Bo]at this;rw[this,getD_map ([]:Str) hi];rfl
structure StH where
 f:Str
 H:AHeap
structure PhG where
 i:Nat
 b:BuC
 pv:AVal
 pp:AHeap
 tp:AHeap
 E:AHeap
 H:AHeap
structure BuS(wz:World)(d:Nat)(B:AHeap)(kb:Nat)(b:BuC)(pv bv:AVal)(pp tp bp E:AHeap)(H:AHeap):Prop where
 sep:AM.Sep [B,one kb (buB b.text b.cur pv bv),pp,tp,bp,E] H
 cur:CurS wz d b.cur pv bv pp tp bp E
def qsG(pp:AHeap):Prop:=∀k b,pp k=some b->isG (b.cells.getLastD .dead)=true
theorem qjo{kh:Nat}{F:List AVal}{w tv:AVal}(h:isG tv=true):qsG (one kh ⟨F++[w,tv],0⟩):=fun k b hk=>by
 obtain⟨rfl,rfl⟩:=qlD hk;simp only[BQ,EI,EJ,EK,EL,EM];exact h
theorem lastG_of{kh:Nat}{F:List AVal}{w tv:AVal}(h:qsG (one kh ⟨F++[w,tv],0⟩)):isG tv=true:=by
 have:=h kh _ (one_at kh _);simp only[BQ,EI,EJ,EK,EL,EM]at this;exact this
theorem qeS(ps:List PhrC)(w:Str)(ts l:List TokC):qaj (ps++[⟨w,ts⟩]) l=ps++[⟨w,ts++l⟩]:=by simp[qaj]
theorem lawToks_16(s:Str)(h:s.length<=16):(Qh s).length<=17:=by rw[qfs];exact Vg (fields_few s) (by omega)
set_option maxHeartbeats 16000000 in
theorem c_phrases(wz:World)(hm:MaxL wz)(ha:Asp wz)(B H₀:AHeap)(kb:Nat)(x:XC)(xp xb fv:AVal)(forms:List Str)(text verb:Str)
 (hS:AM.Sep [B,one kb (buB text ⟨verb,0,0,[],[]⟩ .nilSlice .nilSlice)] H₀) (hY:YsV wz B xp x.p) (hxl:xb.live=true) (hxs:xb.scal=true) (hxc:xb.cells=[xb]) (hF:IsL wz B 1 fv (forms.map strC)) (hFo:qgy forms) (hPl:x.p.length<=1000000)
 (hT:(Xb x ⟨text,⟨verb,0,0,[],[]⟩⟩ forms).text.length<=1000000000):
 ACall Tryz.prog wz 53 [.agg [.int .u8 x.verb.toNat,xp,xb, .bool x.cut], .ptr (.own kb) 0,fv] H₀ (fun _ h'=>∃pv pp tp E,BuS wz 0 B kb (Xb x ⟨text,⟨verb,0,0,[],[]⟩⟩ forms) pv .nilSlice pp tp emp E h'):=by
 obtain⟨hyl,hys,hyc⟩:=hY.shape;have hfl:=hF.live;have nf:∀H:AHeap,Ze Tryz.prog H 22 fv=⟨True, .int .i64 forms.length⟩:=fun H=>by have:=hF.len Tryz.underlying22 H;rwa [Jp]at this
 obtain⟨qs,hqe,hqL,hqo⟩:=id hY;have hpl:x.p.length=qs.length:=by rw[hqe,Jp]
 have ny:∀H:AHeap,Ze Tryz.prog H 28 xp=⟨True, .int .i64 qs.length⟩:=fun H=>by have:=hqL.len Tryz.underlying28 H;rwa [Jp]at this
 have hs_H₀:AM.Sub B H₀:=hS.in_ (i:=0) rfl;have eb_b:H₀ kb=some _:=hS.at_ (i:=1) rfl;refine qP (n:=136) (rs:=[]) Tryz.func53 rfl rfl rfl rfl (V7 rfl) ?_;simp only[qU];refine awp_rseq [1,2,3] (by rfl) fun K hK=>?_;refine Ut (by rfl) (by rfl) (by rfl) fun k0q0 hk0q0=>?_;have hn_0q0:H₀ k0q0=none:=by first|assumption|(simp only[Bi]at hk0q0;simp only[hk0q0])
 have hf_0q0:B k0q0=none:=Bj hs_H₀ hn_0q0;have ne_0q0_b:k0q0≠kb:=Bl hn_0q0 eb_b;skip;simp+decide only[qR,Nat.reduceAdd];apply hK;clear hK K;obtain⟨X,hX⟩:∃X:Blk,X=⟨[.int .u8 x.verb.toNat,xp,xb, .bool x.cut],0⟩:=⟨_,rfl⟩
 have hS1:=Ec hS hk0q0 X;simp only[Xv]at hS1;obtain⟨H1,hH1⟩:∃H1,H1=H₀.set k0q0 X:=⟨_,rfl⟩
 rw[<-hH1]at hS1;refine BO (h':=H1) (by rw[hH1,hX];exact Vk _) ?_;have hs_H1:AM.Sub B H1:=hS1.in_ (i:=0) rfl;have eb_b:=hS1.at_ (i:=1) rfl;have eb_0q0:H1 k0q0=some ⟨[.int .u8 x.verb.toNat,xp,xb, .bool x.cut],0⟩:=by rw[<-hX];exact hS1.at_ (i:=2) rfl
 have ne_0q0_b:k0q0≠kb:=hS1.ne (i:=2) (j:=1) rfl rfl (by decide);refine awp_rseq [1,2,3,6] (by rfl) fun K hK=>?_;simp+decide only[qJ,↓qa];apply hK;clear hK K;refine qo ?_;refine awp_rseq [1,2,3,6,14] (by rfl) fun K hK=>?_;simp+decide only[Zp,XD,qO,Qm,WL,↓qg,qhj,↓qj,qd ag28,↓Qr,↓qf,Ql eb_0q0,hyl,ny];apply hK;clear hK K;refine YE [1,2,3,6] (fun g:StH=>[(1, .ptr (.own kb) 0),(2,fv),(3, .ptr (.own k0q0) 0),(6, .str g.f)]) (fun g:StH=>g.H) (fun g:StH=>g.f=(if x.p=[]then[]else QY (x.p.getD 0 noY).ops)/\AM.Sep [B,one kb (buB text ⟨verb,0,0,[],[]⟩ .nilSlice .nilSlice),one k0q0 X] g.H) ?_ ?_
 ·refine qz (b:=_) rfl (fun hb1=>?_) (fun hb1=>?_)
  ·try simp only[qG]at hb1
   have hq0:0<qs.length:=by omega
   obtain⟨lc,o,cc,hpe⟩:=hqL.open (fun e=>by rw[V5]at e;rw[e]at hq0;cases hq0);have hq2:=hqL.mono hs_H1;rw[hpe]at hq2;obtain⟨e0,e1,e2⟩:=y_at hq2 hq0;simp only[K8,K9]at e0 e1 e2;obtain⟨q,hqq⟩:∃q,q=qs.getD 0 noYq:=⟨_,rfl⟩
   rw[<-hqq]at e0 e1 e2;have hqm:q∈qs:=by rw[hqq,Ko,JD hq0];exact VY hq0
   have hqv:=hqo q hqm;have hql:=hqv.live;have hx0:x.p.getD 0 noY=q.1:=by rw[hqe,hqq,Ko,Ko,V6,JD hq0];rfl
   have hne:x.p≠[]:=fun e=>by rw[e,JF]at hpl;omega
   refine QK [1,2,3,6] (by rfl) ?_;simp+decide only[qR,XD,K8,Jp,K9,↓qg,qhj,↓qj,qd ag28,↓qI,qh Tryz.underlying28 sz34,fa34_1,qd ag32,Ql eb_0q0,hpe,e1,hql,Bz];repeat (with_reducible refine zqP ?_)
   refine qM (by rfl) (by rfl) (qmd wz _ q.2 q.1.ops (hqv.mono hs_H1)) fun x3q5 h3q5 hx3q5=>?_;obtain⟨rfl,hs3⟩:=hx3q5;simp+decide only[qJ,K8,Jp,↓qa];try simp only[QT]
   first
   |exact⟨⟨QY q.1.ops,_⟩,rfl,Vk _,by rw[if_neg hne,hx0],hS1.forget hs3⟩
   |exact⟨⟨[],H1⟩,rfl,Vk _,by rw[if_pos hne],hS1⟩
  ·try simp only[qG]at hb1
   have hne:x.p=[]:=Kg (by omega);refine qE ?_;try simp only[QT]
   first
   |exact⟨⟨QY q.1.ops,_⟩,rfl,Vk _,by rw[if_neg hne,hx0],hS1.forget hs3⟩
   |exact⟨⟨[],H1⟩,rfl,Vk _,by rw[if_pos hne],hS1⟩
 ·rintro⟨f0,H2⟩ ⟨hf0,hS2⟩
  simp only at hf0 hS2|-
  have hs_H2:AM.Sub B H2:=hS2.in_ (i:=0) rfl;have eb_b:=hS2.at_ (i:=1) rfl;have eb_0q0:H2 k0q0=some ⟨[.int .u8 x.verb.toNat,xp,xb, .bool x.cut],0⟩:=by rw[<-hX];exact hS2.at_ (i:=2) rfl
  have hfE:QV x verb=if verb=IFv/\f0=[]then[32,65]else f0:=by rw[hf0];rfl
  refine qo ?_;skip;refine awp_rseq [1,2,3,6,30] (by rfl) fun K hK=>?_;simp+decide only[XI,Zn,Qe,XF,YS,Qb,Wi,Xg,Xk,ZF,↓qc,↓Qg,↓qg,WR,qcS,↓qj,qd ag9,↓qf,↓Xc,qY,qZ,qW,↓QI,↓QE,Ql eb_b,Nat.reduceAdd];apply hK;clear hK K;refine YE [1,2,3,6] (fun z:Str=>[(1, .ptr (.own kb) 0),(2,fv),(3, .ptr (.own k0q0) 0),(6, .str z)]) (fun z:Str=>H2) (fun z:Str=>z=QV x verb) ?_ ?_
  ·refine qz (b:=_) rfl (fun hb2=>?_) (fun hb2=>?_)
   ·try simp only[qG]at hb2
    have hz:QV x verb=[32,65]:=by rw[hfE];exact if_pos hb2
    refine QK [1,2,3,6] (by rfl) ?_;simp+decide only[qJ,↓qa];try simp only[QT]
    first
    |exact⟨[32,65],rfl,Vk _,hz.symm⟩
    |exact⟨f0,rfl,Vk _,hz.symm⟩
   ·try simp only[qG]at hb2
    have hz:QV x verb=f0:=by rw[hfE];exact if_neg (fun e=>by rcases hb2 with q|q;exact q e.1;exact q e.2)
    refine qE ?_;try simp only[QT]
    first
    |exact⟨[32,65],rfl,Vk _,hz.symm⟩
    |exact⟨f0,rfl,Vk _,hz.symm⟩
  ·rintro z rfl
   obtain⟨f1,hf1⟩:∃f1,f1=QV x verb:=⟨_,rfl⟩
   rw[<-hf1];have hfw:=wordsE_ok (x.p.getD 0 noY).ops;have hf16:f1.length<=16/\asciiB f1=true:=by
    rw[hf1,hfE];split
    ·exact⟨by decide,by decide⟩
    ·rw[hf0]
     split
     ·exact⟨by decide,rfl⟩
     ·exact hfw
   obtain⟨b2,hb2E⟩:∃b2:BuC,b2=⟨text++[32]++f1,⟨verb,0,0,[⟨[],Qh f1⟩],[]⟩⟩:=⟨_,rfl⟩
   have hfin:Xb x ⟨text,⟨verb,0,0,[],[]⟩⟩ forms=if forms=[]then b2 else((x.p.take 5).drop 1).foldl (QJ forms) b2:=by
    unfold Xb YB;simp only;rw[hb2E,hf1]
   obtain⟨R,hRR⟩:∃R,R=Xb x ⟨text,⟨verb,0,0,[],[]⟩⟩ forms:=⟨_,rfl⟩
   rw[<-hRR]at hfin hT|-
   have hpre:b2.text<+:R.text:=by
    rw[hfin];split
    ·exact EH _
    ·exact qde _ _ _
   have ht2:=hpre.length_le;have htx:text.length<=1000000000:=by rw[hb2E]at ht2;simp only[Jd]at ht2;omega
   have hS2a:AM.Sep ([B,one k0q0 X]++[one kb (buB text ⟨verb,0,0,[],[]⟩ .nilSlice .nilSlice)]) H2:=hS2.perm (.cons _ (List.Perm.swap _ _ _));have hS2b:=hS2a.fold;refine awp_rseq [1,2,3,6] (by rfl) fun K hK=>?_;simp+decide only[Qw,↓qc];refine qM (by rfl) (by rfl) (qpi wz (YY [B,one k0q0 X]) H2 kb text f1 ⟨verb,0,0,[],[]⟩ .nilSlice .nilSlice hS2b htx (by omega)) fun x6q2 h6q2 hx6q2=>?_;have hS6:=EN hS2a.left hx6q2;simp only[Xv]at hS6;have hs_h6:AM.Sub B h6q2:=hS6.in_ (i:=0) rfl;simp+decide only[qR];apply hK;clear hK K;have eb_b:=hS6.at_ (i:=2) rfl;have eb_0q0:h6q2 k0q0=some ⟨[.int .u8 x.verb.toNat,xp,xb, .bool x.cut],0⟩:=by rw[<-hX];exact hS6.at_ (i:=1) rfl
   refine awp_rseq [1,2,3] (by rfl) fun K hK=>?_;simp+decide only[Qw,↓qc];refine qM (by rfl) (by rfl) (qdY wz hm ha _ f1 (by omega) hf16.2) fun x7q2 h7q2 hx7q2=>?_;obtain⟨p7,hrow7,hG7,hS7⟩:=hx7q2;have hS8:=EO hS6 hS7;simp only[Xv]at hS8;have hs_7:AM.Sub h6q2 h7q2:=hS7.in_ (i:=0) rfl;have hsc:Sc x7q2=True:=by rcases hrow7 with⟨rfl,_⟩|⟨_,_,rfl,_⟩<;>exact eq_true trivial
   have hl7:=hrow7.live;have hs_h7q2:Sub B h7q2:=Bt zqC hs_7;have hr_h7q2:Sub h6q2 h7q2:=Bt zqC hs_7;have eb_b:=hs_7 kb _ zqA;have eb_0q0:=hs_7 k0q0 _ zqA;simp+decide only[qR,XN,Yo,XO,Za,XZ,Xt,WO,Zw,evP,↓YJ,↓XL,bld84_1,hsc];refine Qd (cs:=[.str [],x7q2]) (by kernel_rfl) fun k7q4 hk7q4=>?_;have hn_7q4:h7q2 k7q4=none:=by first|assumption|(simp only[Bi]at hk7q4;simp only[hk7q4])
   have hf_7q4:B k7q4=none:=Bj hs_h7q2 hn_7q4;have ne_7q4_b:k7q4≠kb:=Bl hn_7q4 eb_b;have ne_7q4_0q0:k7q4≠k0q0:=Bl hn_7q4 eb_0q0;simp+decide only[YI,Xg,↓Qg,↓qg,WR,YR,Nat.reduceAdd];refine qN (by rfl) (by rfl) zqA sz79 (by rfl) (by rfl) zqD (Js _) (by first|rfl|(simp+decide only[ZJ,Qu,hys,hxs,WU,ZM,qbM])) ?_;simp only[QZ];simp+decide only[qR];apply hK;clear hK K;have hS9:=Ec hS8 hn_7q4 (⟨[.str [],x7q2],0⟩:Blk);simp only[Xv]at hS9;have hS10:=hS9.put (i:=2) rfl (buB b2.text b2.cur (.slice (.own k7q4) 0 1 (.exact 1)) .nilSlice);simp only[XE]at hS10;have hS11:AM.Sep [B,one k0q0 X,one kb (buB b2.text b2.cur (.slice (.own k7q4) 0 1 (.exact 1)) .nilSlice),one k7q4 ⟨[.str [],x7q2],0⟩,p7,emp] _:=hS10.emp.pick [0,1,2,4,3,5] (by decide) (by simp);obtain⟨H8,hH8⟩:∃H8,H8=(h7q2.set k7q4 ⟨[.str [],x7q2],0⟩).set kb (buB b2.text b2.cur (.slice (.own k7q4) 0 1 (.exact 1)) .nilSlice):=⟨_,rfl⟩
   rw[<-hH8]at hS11;refine BO (h':=H8) (by rw[hH8,hb2E];exact Vk _) ?_;have hcur:CurS wz 0 b2.cur (.slice (.own k7q4) 0 1 (.exact 1)) .nilSlice (one k7q4 ⟨[.str [],x7q2],0⟩) p7 emp emp:=by
    rw[hb2E];refine⟨⟨[],[],Qh f1,x7q2,rfl,GrowV.new rfl (.inl rfl) (xs:=[[.str [],x7q2]]) (fun y hy=>by rw[V9.1 hy];rfl) ?_ rfl,hrow7,fun q hq=>by cases hq⟩,⟨[],rfl, .nil,fun b hb=>by cases hb⟩⟩;show AM.allLive [.str [],x7q2]=true
    rw[AM.allLive,AM.allLive,hl7];rfl
   have hs_H8:AM.Sub B H8:=hS11.in_ (i:=0) rfl;have eb_b:=hS11.at_ (i:=2) rfl;have eb_0q0:H8 k0q0=some ⟨[.int .u8 x.verb.toNat,xp,xb, .bool x.cut],0⟩:=by rw[<-hX];exact hS11.at_ (i:=1) rfl
   have hfew:∀p∈b2.cur.phrases,p.toks.length<=17:=fun p hp=>by
    rw[hb2E]at hp;rw[V9.1 hp];exact lawToks_16 f1 hf16.1
   refine awp_rseq [1,2,3,7] (by rfl) fun K hK=>?_;simp+decide only[qJ,↓qa];apply hK;clear hK K;refine qK ?_;refine QD [1,2,3,7] (fun g:PhG=>[(1, .ptr (.own kb) 0),(2,fv),(3, .ptr (.own k0q0) 0),(7, .int .i64 g.i)]) (fun g:PhG=>g.H) (fun g:PhG=>AM.Sep [B,one k0q0 X,one kb (buB g.b.text g.b.cur g.pv .nilSlice),g.pp,g.tp,g.E] g.H/\CurS wz 0 g.b.cur g.pv .nilSlice g.pp g.tp emp g.E/\qsG g.pp/\1<=g.i/\g.i<=5/\(g.i<=qs.length\/g.i=1)/\R=(if forms=[]then g.b else((x.p.take 5).drop g.i).foldl (QJ forms) g.b)/\g.b.cur.phrases.length<=g.i/\(∀p∈g.b.cur.phrases,p.toks.length<=17*g.i)) (fun g:PhG=>5-g.i) ⟨1,b2,_,_,p7,emp,H8⟩ (by rfl) (Vk _) ⟨hS11,hcur,qjo (F:=[]) hG7,KL _,(by simp only;omega), .inr rfl,hfin,by rw[hb2E];exact KL _,hfew⟩ ?_;rintro⟨i,b,pv,pp,tp,E,H⟩ ⟨hS,hc,hLG,hi1,hi5,hiq,hg,hph,hpt⟩;simp only at hS hc hLG hi1 hi5 hiq hg hph hpt|-
   have hs_H:AM.Sub B H:=hS.in_ (i:=0) rfl;have eb_b:=hS.at_ (i:=2) rfl;have eb_0q0:H k0q0=some ⟨[.int .u8 x.verb.toNat,xp,xb, .bool x.cut],0⟩:=by rw[<-hX];exact hS.at_ (i:=1) rfl
   refine qo ?_;refine awp_rseq [1,2,3,7,55] (by rfl) fun K hK=>?_;simp+decide only[QH,Zn,Ya,qF,Yh,Zf,Zz,Xk,WL,↓qc,↓qg,qhj,↓qj,qd ag28,↓Qr,↓qf,↓Xc,qY,qZ,qW,↓QI,↓QE,↓qcW,qho,qhp,Ql eb_0q0,hyl,ny,nf];apply hK;clear hK K;refine qz (b:=_) rfl (fun hb3=>?_) (fun hb3=>?_)
   ·try simp only[qG]at hb3
    obtain⟨⟨hiq1,hi51⟩,hf1⟩:(i<qs.length/\i<5)/\0<forms.length:=by omega
    have hfne:forms≠[]:=fun e=>by rw[e]at hf1;cases hf1
    rw[if_neg hfne,qlb (d:=noY) (by omega) hi51,EP]at hg;obtain⟨lc,o,cc,hpe⟩:=hqL.open (fun e=>by rw[V5]at e;rw[e]at hiq1;cases hiq1);obtain⟨lf,of,cf,hfe⟩:=hF.open (fun e=>hfne (V5.1 e));have hq2:=hqL.mono hs_H;rw[hpe]at hq2;obtain⟨e0,e1,e2⟩:=y_at hq2 hiq1;obtain⟨q,hqq⟩:∃q,q=qs.getD i noYq:=⟨_,rfl⟩
    rw[<-hqq]at e0 e1 e2;have hqm:q∈qs:=by rw[hqq,Ko,JD hiq1];exact VY hiq1
    have hqv:=hqo q hqm;have hql:=hqv.live;have hxi:x.p.getD i noY=q.1:=by rw[hqe,hqq,Ko,Ko,V6,JD hiq1];rfl
    rw[hxi]at hg;obtain⟨m,hm8⟩:∃m,m=q.1.form.toNat%forms.length:=⟨_,rfl⟩
    have hml:m<forms.length:=by rw[hm8];exact Km _ hf1
    have hF2:=hF.mono hs_H;rw[hfe]at hF2;have ef:=frm_at hF2 hml;obtain⟨form,hform⟩:∃form,form=forms.getD m []:=⟨_,rfl⟩
    rw[<-hform]at ef;have hfo:=hFo.2 form (by rw[hform,Ko,JD hml];exact VY hml);have hfn:=hFo.1;have hb8:q.1.form.toNat<256:=q.1.form.toNat_lt;have hwb:IntKind.i64.wrap (q.1.form.toNat:Int)=(q.1.form.toNat:Int):=wrap_i64 (by omega) (by omega);have hrem:EC (q.1.form.toNat:Int) (forms.length:Int)=(m:Int):=by rw[ED (by omega),hm8];exact(EE _ _).symm
    have hwm:IntKind.i64.wrap (m:Int)=(m:Int):=wrap_i64 (by omega) (by omega);have hib:(0<=(i:Int)/\(i:Int)<(qs.length:Int))=True:=eq_true ⟨by omega,by omega⟩;have hmb:(0<=(m:Int)/\(m:Int)<(forms.length:Int))=True:=eq_true ⟨by omega,by omega⟩;have hwi:IntKind.i64.wrap ((i:Int)+1)=((i+1:Nat):Int):=by rw[wrap_i64 (by omega) (by omega)];omega
    obtain⟨ow,how⟩:∃ow,ow=QY q.1.ops:=⟨_,rfl⟩
    obtain⟨how16,howa⟩:=wordsE_ok q.1.ops;rw[<-how]at how16 howa;obtain⟨sw,hsw⟩:∃sw,sw=Zl form q.1.short true:=⟨_,rfl⟩
    have hstep:QJ forms b q.1=if Xj form=[]then{text:=b.text++[32]++(sw++ow),cur:={b.cur with phrases:=qaj b.cur.phrases (Qh ow)}}else{text:=b.text++[32]++(sw++ow),cur:={b.cur with phrases:=b.cur.phrases++[⟨Xj form,Qh ow⟩]}}:=by
     unfold QJ YB;simp only;rw[<-hm8,<-hform,<-hsw,<-how]
    have hpreB:b.text++[32]++(sw++ow)<+:R.text:=by
     have h1:(QJ forms b q.1).text=b.text++[32]++(sw++ow):=by rw[hstep];split<;>rfl
     rw[<-h1,hg];exact qde _ _ _
    have hlenB:=hpreB.length_le;simp only[Zd]at hlenB;refine qE ?_;change Awp _ _ _ _ _ _ _;refine qo ?_;refine qK ?_;refine awp_rseq [1,2,3,7,8] (by rfl) fun K hK=>?_;simp+decide only[Yz,QN,qF,Qm,Jp,qfn,↓qc,↓qg,qhj,↓qj,qd ag28,↓qI,qh Tryz.underlying28 sz34,fa34_0,qd ag5,↓qbG _ _ _ (qjy Tryz.underlying5 Tryz.underlying3),UO,qcz Tryz.underlying5 Tryz.underlying3,↓Qr,Xp Tryz.underlying22,↓qf,Ql eb_0q0,hpe,hfe,e0,hib,hwb,hrem];try simp+decide only[qJ,Xa,QN,Jp,Bo,qh Tryz.underlying22 sz9,↓qj,qd ag9,↓qa,ef,hmb]
    repeat (with_reducible refine zqP ?_)
    apply hK;clear hK K;refine awp_rseq [1,2,3,7,8,9] (by rfl) fun K hK=>?_;simp+decide only[ZU,QN,Jp,↓qg,qhj,↓qj,qd ag28,↓qc,↓qI,qh Tryz.underlying28 sz34,fa34_1,qd ag32,Ql eb_0q0,hpe,e1,hql,hib];refine qM (by rfl) (by rfl) (qmd wz _ q.2 q.1.ops (hqv.mono hs_H)) fun x12q6 h12q6 hx12q6=>?_;obtain⟨rfl,hs12⟩:=hx12q6;rw[<-how];have hs_h12q6:Sub B h12q6:=Bt zqC hs12;have hr_h12q6:Sub H h12q6:=Bt zqC hs12;have eb_b:=hs12 kb _ zqA;have eb_0q0:=hs12 k0q0 _ zqA;simp+decide only[qJ,QN,Jp,↓qa];apply hK;clear hK K;have hS12:=hS.forget hs12;have hq12:=hqL.mono (hs_H.trans hs12);rw[hpe]at hq12;have e2':=(y_at hq12 hiq1).2.2;rw[<-hqq]at e2';refine awp_rseq [1,2,3,7,8,9] (by rfl) fun K hK=>?_;simp+decide only[ZU,QN,Jp,↓qc,↓qg,qhj,↓qj,qd ag28,↓qI,qh Tryz.underlying28 sz34,fa34_2,qd ag5,Ql eb_0q0,hpe,e2',hib];refine qM (by rfl) (by rfl) (qph wz ha _ form q.1.short true hfo.1 hfo.2) fun x13q8 h13q8 hx13q8=>?_;obtain⟨rfl,hs13⟩:=hx13q8;rw[<-hsw];have hS13:AM.Sep ([B,one k0q0 X,pp,tp,E]++[one kb (buB b.text b.cur pv .nilSlice)]) h13q8:=(hS12.forget hs13).pick [0,1,3,4,5,2] (by decide) (by simp);have hS13b:=hS13.fold;have hs_h13q8:Sub B h13q8:=Bt zqC hs13;have hr_h13q8:Sub h12q6 h13q8:=Bt zqC hs13;have eb_b:=hs13 kb _ zqA;have eb_0q0:=hs13 k0q0 _ zqA;simp+decide only[XI,QN,qF,Jp,Qb,YL,↓qc,↓qf];repeat (with_reducible refine zqP ?_)
    refine qM (by rfl) (by rfl) (qpi wz (YY [B,one k0q0 X,pp,tp,E]) h13q8 kb b.text (sw++ow) b.cur pv .nilSlice hS13b (by omega) (by rw[Jd];omega)) fun x13q11 h13q11 hx13q11=>?_;have hS14:=EN hS13.left hx13q11;simp only[Xv]at hS14;have hs_14:AM.Sub B h13q11:=hS14.in_ (i:=0) rfl;simp+decide only[qR,QN,Jp];apply hK;clear hK K;refine qo ?_;have eb_b:=hS14.at_ (i:=5) rfl;have eb_0q0:h13q11 k0q0=some ⟨[.int .u8 x.verb.toNat,xp,xb, .bool x.cut],0⟩:=by rw[<-hX];exact hS14.at_ (i:=1) rfl
    refine awp_rseq [1,2,3,7,8,9,92] (by rfl) fun K hK=>?_;simp+decide only[Qw,↓qc];refine qM (by rfl) (by rfl) (qmf wz ha _ form hfo.1 hfo.2) fun x14q1 h14q1 hx14q1=>?_;obtain⟨rfl,hs14⟩:=hx14q1;have hS15:=hS14.forget hs14;obtain⟨b',hb'E⟩:∃b',b'=QJ forms b q.1:=⟨_,rfl⟩
    rw[<-hb'E]at hstep hg;have hgN:R=if forms=[]then b' else((x.p.take 5).drop (i+1)).foldl (QJ forms) b':=by rw[if_neg hfne];exact hg
    have how17:=lawToks_16 ow how16;have hs_h14q1:Sub B h14q1:=Bt zqC hs14;have hr_h14q1:Sub h13q11 h14q1:=Bt zqC hs14;have eb_b:=hs14 kb _ zqA;have eb_0q0:=hs14 k0q0 _ zqA;simp+decide only[qR,Yv,Qb,ZF,↓qf];apply hK;clear hK K;refine qz (b:=_) rfl (fun hb4=>?_) (fun hb4=>?_)
    ·try simp only[qG]at hb4
     rw[if_pos hb4]at hstep;obtain⟨qp,w,ts,tv,hph',hg',hgt,hqE⟩:=hc.ph;obtain⟨kh,ch,rfl,hch,rfl⟩:=qgh hg';have hGt:=lastG_of hLG;have eb_h:h14q1 kh=some _:=hS15.at_ (i:=2) rfl;have ne_h_b:kh≠kb:=hS15.ne (i:=2) (j:=5) rfl rfl (by decide);have nph:∀H:AHeap,Ze Tryz.prog H 79 (.slice (.own kh) 0 (qp.length+1) ch)=⟨True, .int .i64 ((qp.length+1:Nat):Int)⟩:=fun H=>by
      have:=(hg'.isL (wz:=wz) (Vk _)).len Tryz.underlying79 H
      rwa [Jd,Jp,JH]at this
     rw[hph',Jd,Jp,JH]at hph;have hwn:IntKind.i64.wrap (((qp.length+1:Nat):Int)-1)=(qp.length:Int):=by rw[wrap_i64 (by omega) (by omega)];omega
     have htl:=hgt.live;have htsl:ts.length<=17*i:=hpt ⟨w,ts⟩ (by rw[hph'];simp);refine awp_rseq [1,2,3,7,9,10] (by rfl) fun K hK=>?_;simp+decide only[ZY,XD,qO,Qm,Xg,UC,↓qc,↓Qg,↓qg,WR,YR,↓qj,qd qec,↓Qr,Xp Tryz.underlying79,↓qf,↓qa,Ql eb_b,Nat.reduceAdd,hwn];apply hK;clear hK K;obtain⟨cs,hcs⟩:∃cs,cs=(qp.map phC).flatten++[AVal.str w,tv]:=⟨_,rfl⟩
     have hcg:cs.getD (qp.length*2+1) .dead=tv:=by rw[hcs];exact qrH qp w tv
     have hcl:cs.length=qp.length*2+2:=by rw[hcs,Jd,qew];rfl
     rw[<-hcs]at eb_h hS15;have etv:rd wz h14q1 (.own kh) (qp.length*2+1)=tv:=by rw[YG wz eb_h];exact hcg
     have eb_b:=hS15.at_ (i:=5) rfl;obtain⟨KB,hKB⟩:∃KB,KB=one kb (buB (b.text++[32]++(sw++ow)) b.cur (.slice (.own kh) 0 (qp.length+1) ch) .nilSlice):=⟨_,rfl⟩
     have eone:KB kb=some (buB (b.text++[32]++(sw++ow)) b.cur (.slice (.own kh) 0 (qp.length+1) ch) .nilSlice):=by rw[hKB];exact one_at _ _
     have hKS:AM.Sub KB h14q1:=by rw[hKB];exact hS15.in_ (i:=5) rfl
     refine qht [0,1,2,3,4,5,6,7,8,9,10,11,12,13,14,15,16,17,18,19,20] [2,2,2,2,2,2,0,0,0,0,0,0,0,0,0,0,0,0,0,0,0] [none,none,none,none,none,none,none,none,none,none,none,none,none,none,none,none,none,some 16,some 17,some 18,some 19] 17 (KB) [1,2,3,7] mixed (by kernel_rfl) (by rfl) (hKS) fun K hK=>?_;simp only[Kz,KM,VZ,EQ,YV];simp+decide only[ZU,QN,Xg,qcB,qcA,qbC,qca,Uu,↓qc,↓Qg,↓qg,WR,YR,↓qj,qd qec,↓qI,qh Tryz.underlying79 qcH,qcj,qd qcn,Ql eb_b,Nat.reduceAdd,YG wz eone,htl,etv];repeat (with_reducible refine zqP ?_)
     refine qM (by rfl) (by rfl) (qdY wz hm ha _ ow (by omega) howa) fun x16q16 h16q16 hx16q16=>?_;obtain⟨p16,hrow16,hG16,hSp16⟩:=hx16q16;have hS16:=EO hS15 hSp16;have hs_16:AM.Sub h14q1 h16q16:=hSp16.in_ (i:=0) rfl;simp only[Xv]at hS16;rw[Qt];refine And.intro (by first|exact Vk _|assumption|exact Vl (by assumption)) ?_;simp+decide only[qR,QN];refine Un (es:=5) (v:=tv) (p:=tp) (xs:=ts.map Zb) (ys:=(Qh ow).map Zb) (i:=3) (by rfl) (by rfl) Tryz.underlying39 Tryz.underlying39 (fun k e=>by cases e) UA by44 qpB (by rfl) (by decide) (by rfl) hgt hGt rfl hS16 (by rfl) (hrow16.isL (hS16.in_ (i:=6) rfl)) (tokC_scal _) (by simp only[Jp];omega) (by simp only[Jp];omega) fun tv2 tp2 h17 hg2 hG2 hS2=>?_;rw[<-JK]at hg2;have hKS17:AM.Sub KB h17:=by rw[hKB];exact hS2.in_ (i:=5) rfl
     rw[Qt];refine And.intro (by first|exact Vk _|assumption|exact Vl (by assumption)) ?_;simp+decide only[qR,XD,QN,qh Tryz.underlying79 qcH,qcj];repeat (with_reducible refine zqP ?_)
     refine qN (v:=tv2) (by rfl) (by rfl) (hS2.at_ (i:=2) rfl) sz39 hg2.live (by rw[hg2.cells];rfl) (by simp only;omega) (Js _) (by rw[hg2.cells];simp[Qu,hg2.scal]) ?_;have ecs:(⟨setAt cs (qp.length*2+1) tv2.cells,0⟩:Blk)=⟨(qp.map phC).flatten++[AVal.str w,tv2],0⟩:=by rw[hg2.cells,hcs,qlm _ _ _ _ _ (qew qp)]
     have hS17':=hS2.put (i:=2) rfl ⟨(qp.map phC).flatten++[AVal.str w,tv2],0⟩;rw[<-ecs]at hS17';simp only[XE]at hS17';have hKS18:AM.Sub KB (h17.set kh ⟨setAt cs (qp.length*2+1) tv2.cells,0⟩):=by rw[hKB];exact hS17'.in_ (i:=5) rfl
     have hc17:CurS wz 0 b'.cur (.slice (.own kh) 0 (qp.length+1) ch) .nilSlice (one kh ⟨(qp.map phC).flatten++[AVal.str w,tv2],0⟩) tp2 emp E:=by
      rw[hstep];exact⟨⟨qp,w,ts++Qh ow,tv2,by simp only;rw[hph',qeS],qkb hg' rfl hch hg2.live,hg2,hqE⟩,hc.bd⟩
     have hS17:AM.Sep [B,one k0q0 X,one kb (buB b'.text b'.cur (.slice (.own kh) 0 (qp.length+1) ch) .nilSlice),one kh ⟨(qp.map phC).flatten++[AVal.str w,tv2],0⟩,tp2,E] (h17.set kh ⟨setAt cs (qp.length*2+1) tv2.cells,0⟩):=by
      have:=hS17'.pick [0,1,5,2,3,4] (by decide) (by simp);rw[hstep,<-ecs];exact this
     have hL17:qsG (one kh ⟨(qp.map phC).flatten++[AVal.str w,tv2],0⟩):=qjo hG2;have hph17:b'.cur.phrases.length<=i+1:=by
      rw[hstep];simp only;rw[hph',qeS,Jd,Jp,JH];omega
     have hpt17:∀p∈b'.cur.phrases,p.toks.length<=17*(i+1):=fun p hp=>by
      rw[hstep]at hp;simp only at hp;rw[hph',qeS]at hp;rcases JX.1 hp with hp|hp
      ·exact Vg (hpt p (by rw[hph'];exact List.mem_append_left _ hp)) (by omega)
      ·rw[V9.1 hp]
       simp only[Jd];omega
     rw[Qt];refine And.intro (by first|exact Vk _|assumption|exact Vl (by assumption)) ?_;simp+decide only[qR,QN];skip;apply hK;clear hK K;refine QC ?_;change Awp _ _ _ _ _ _ _;refine QK [1,2,3,7] (by rfl) ?_;simp+decide only[YH,↓qc,↓qf,↓qa,hwi];try simp only[QT]
     exact⟨⟨i+1,b',_,_,_,_,_⟩,by first|rfl|(rw[hfe];simp only[Jp];rfl),Vk _,⟨hS17,hc17,hL17,by simp only;omega,by simp only;omega, .inl (by simp only;omega),hgN,hph17,hpt17⟩,by simp only;omega⟩
    ·try simp only[qG]at hb4
     rw[if_neg hb4]at hstep;obtain⟨cw,hcw⟩:∃cw,cw=Xj form:=⟨_,rfl⟩
     rw[<-hcw]at hstep;obtain⟨qp,w,ts,tv,hph',hg',hgt,hqE⟩:=hc.ph;have hpvl:=hg'.live;rw[hph',Jd,Jp,JH]at hph;refine qE ?_;change Awp _ _ _ _ _ _ _;refine qeN [0,1,2,3,4,5,6,8,7,9,10,11,12,13,14,15,16] [2,0,0,0,0,0,0,0,0,0,0,0,0,0,0,0,0] [none,none,none,none,none,none,none,none,none,some 8,some 9,some 10,some 11,some 12,some 13,some 14,some 15] 12 (B) mixed (by kernel_rfl) (by rfl) (hS15.in_ (i:=0) rfl) ?_;simp only[Kz,KM,VZ,EQ,YV];simp+decide only[ZU,Xg,qcB,qcA,qbC,qca,Uu,↓qc,↓Qg,↓qg,WR,YR,↓qj,qd qec,Ql eb_b,Nat.reduceAdd,hpvl];refine qM (by rfl) (by rfl) (qmf wz ha _ form hfo.1 hfo.2) fun x17q7 h17q7 hx17q7=>?_;obtain⟨rfl,hs17⟩:=hx17q7;rw[<-hcw];have hs_h17q7:Sub B h17q7:=Bt zqC hs17;have hr_h17q7:Sub h14q1 h17q7:=Bt zqC hs17;have eb_b:=hs17 kb _ zqA;have eb_0q0:=hs17 k0q0 _ zqA;rw[Qt];refine And.intro (by first|exact Vk _|assumption|exact Vl (by assumption)) ?_;simp+decide only[qR];refine qM (by rfl) (by rfl) (qdY wz hm ha _ ow (by omega) howa) fun x17q9 h17q9 hx17q9=>?_;obtain⟨p17,hrow17,hG17,hSp17⟩:=hx17q9;have hS16:=EO (hS15.forget hs17) hSp17;have hs_17:AM.Sub h17q7 h17q9:=hSp17.in_ (i:=0) rfl;simp only[Xv]at hS16;have hsc17:Sc x17q9=True:=by rcases hrow17 with⟨rfl,_⟩|⟨_,_,rfl,_⟩<;>exact eq_true trivial
     have hl17:=hrow17.live;have hs_h17q9:Sub B h17q9:=Bt zqC hs_17;have hr_h17q9:Sub h17q7 h17q9:=Bt zqC hs_17;have eb_b:=hs_17 kb _ zqA;have eb_0q0:=hs_17 k0q0 _ zqA;rw[Qt];refine And.intro (by first|exact Vk _|assumption|exact Vl (by assumption)) ?_;simp+decide only[qR,XN,Yo,XO,Za,XZ,Xt,WO,Zw,evP,Uu,↓YJ,↓XL,bld84_0_1,hsc17];refine Qd (cs:=[.str cw,x17q9]) (by kernel_rfl) fun k17q11 hk17q11=>?_;have hn_17q11:h17q9 k17q11=none:=by first|assumption|(simp only[Bi]at hk17q11;simp only[hk17q11])
     have hf_17q11:B k17q11=none:=Bj hs_h17q9 hn_17q11;have ne_17q11_b:k17q11≠kb:=Bl hn_17q11 eb_b;have ne_17q11_0q0:k17q11≠k0q0:=Bl hn_17q11 eb_0q0;rw[Qt];refine And.intro (by first|exact Vk _|assumption|exact Vl (by assumption)) ?_;simp+decide only[qR];refine Yi (es:=2) (v:=pv) (p:=pp) (xs:=qp.map phC++[[.str w,tv]]) (ys:=[[.str cw,x17q9]]) (i:=2) (by rfl) (by rfl) Tryz.underlying79 Tryz.underlying79 (fun k e=>by cases e) qcH by84 ze84 (by rfl) (by decide) (by rfl) hg' rfl (hS16.forget (Vl hn_17q11)) (by rfl) (BA (Vj _ _ _) (fun x hx=>by rw[V9.1 hx];rfl) (by rfl) (by show allLive [AVal.str cw,x17q9]=true;rw[allLive,allLive,hl17];rfl) (.exact 1) (KL _)) (by show Qu [AVal.str cw,x17q9]=true;rw[Qu,Qu,hrow17.scal];rfl) (by simp) (by simp only[Jp,ZT];omega) (by simp only[Jp,ZT];omega) fun pv2 pp2 h18 hg2 _ hS2=>?_;have hs_18:AM.Sub B h18:=hS2.in_ (i:=0) rfl;rw[Qt];refine And.intro (by first|exact Vk _|assumption|exact Vl (by assumption)) ?_;simp+decide only[YI,Xg,WR,YR,Nat.reduceAdd];repeat (with_reducible refine zqP ?_)
     refine qN (v:=pv2) (by rfl) (by rfl) (hS2.at_ (i:=5) rfl) sz79 hg2.live (by rw[hg2.cells];rfl) (by simp only[Xo];omega) (Js _) (by rw[hg2.cells];simp[Qu,hg2.scal]) ?_;simp only[XE,WN,hg2.cells];have hS18:=hS2.put (i:=5) rfl (buB b'.text b'.cur pv2 .nilSlice);simp only[XE]at hS18;have hheap:h18.set kb (buB b'.text b'.cur pv2 .nilSlice)=h18.set kb ⟨[.str (b.text++[32]++(sw++ow)), .str b.cur.verb, .int .i64 b.cur.line, .int .i64 b.cur.col,pv2, .nilSlice],0⟩:=by rw[hstep]
     rw[hheap]at hS18;have hs_19:AM.Sub B (h18.set kb ⟨[.str (b.text++[32]++(sw++ow)), .str b.cur.verb, .int .i64 b.cur.line, .int .i64 b.cur.col,pv2, .nilSlice],0⟩):=hS18.in_ (i:=0) rfl;have hS17:=(BZ (ps:=[tp,E]) (hS18.pick [3,4,0,1,5,2,6] (by decide) (by simp))).pick [1,2,3,4,5,0] (by decide) (by simp);have hsu:=Xl (ps:=[tp,E]) (hS18.pick [3,4] (by decide) (by simp)).2;simp only[VQ,Kn,XN]at hS17;obtain⟨kh,ch,hpv2,hch,hpp2⟩:∃kh ch,pv2= .slice (.own kh) 0 (qp.length+1+1) ch/\(ch= .exact (qp.length+1+1)\/ch= .grow 2)/\pp2=one kh ⟨((qp++[((⟨w,ts⟩:PhrC),tv)]).map phC).flatten++[.str cw,x17q9],0⟩:=by
      have:=qgh (qs:=qp++[((⟨w,ts⟩:PhrC),tv)]) (w:=cw) (tv:=x17q9) (by rw[JK];exact hg2)
      rwa [Jd,JH]at this
     have hL17:qsG pp2:=by rw[hpp2];exact qjo hG17
     have hc17:CurS wz 0 b'.cur pv2 .nilSlice pp2 p17 emp (YY [tp,E]):=by
      rw[hstep];refine⟨⟨qp++[(⟨w,ts⟩,tv)],cw,Qh ow,x17q9,by simp only;rw[hph',JK];rfl,by rw[JK];exact hg2,hrow17,fun q hq=>?_⟩,?_⟩
      ·rcases JX.1 hq with hq|hq
       ·exact(hqE q hq).mono (hsu E (by simp))
       ·rw[V9.1 hq]
        exact hgt.isL (hsu tp (by simp))
      ·obtain⟨bs,b1,b2,b3⟩:=hc.bd
       exact⟨bs,b1,b2,fun b hb=>⟨(b3 b hb).1.mono (hsu E (by simp)),(b3 b hb).2.mono (hsu E (by simp))⟩⟩
     have hph17:b'.cur.phrases.length<=i+1:=by
      rw[hstep];simp only;rw[hph',Jd,Jd,Jp,JH,JH];omega
     have hpt17:∀p∈b'.cur.phrases,p.toks.length<=17*(i+1):=fun p hp=>by
      rw[hstep]at hp;simp only at hp;rcases JX.1 hp with hp|hp
      ·exact Vg (hpt p hp) (by omega)
      ·rw[V9.1 hp]
       simp only;omega
     rw[Qt];refine And.intro (by first|exact Vk _|assumption|exact Vl (by assumption)) ?_;simp+decide only[qR];skip;change Awp _ _ _ _ _ _ _;refine QK [1,2,3,7] (by rfl) ?_;simp+decide only[YH,↓qc,↓qf,↓qa,hwi];try simp only[QT]
     exact⟨⟨i+1,b',_,_,_,_,_⟩,by first|rfl|(rw[hfe];simp only[Jp];rfl),Vk _,⟨hS17,hc17,hL17,by simp only;omega,by simp only;omega, .inl (by simp only;omega),hgN,hph17,hpt17⟩,by simp only;omega⟩
   ·try simp only[qG]at hb3
    have hRb:R=b:=by
     rw[hg];split
     ·rfl
     ·have:(x.p.take 5).drop i=[]:=by
       apply ER;rw[K6];rename_i hfn
       have:=Bv.2 hfn;omega
      rw[this];rfl
    refine QC ?_;try simp only[QT,qla,qgL]
    refine qaK (qC) ?_;exact⟨_,Vk _,pv,pp,tp,E,by rw[hRb];exact hS.emp.pick [0,2,3,4,6,5] (by decide) (by simp),by rw[hRb];exact hc⟩
def qcZ:Nat->List XC->Prop
 |0,_=>True
 |d+1,l=>l.length<=1000000/\∀x∈l,x.p.length<=1000000/\x.b.length<=1000000/\∀z∈x.b,qcZ d z.2.2.1
theorem qta:∀d,qcZ d []
 |0=>trivial
 |_+1=>⟨by decide,fun _ h=>by cases h⟩
def qeV(wz:World)(f d depth:Nat):Prop:=∀(h:AHeap) (v:AVal) (l:List XC) (last:Bool),XsV wz d h v l->qcZ f l->(Qi f l depth last).1.length<=1000000000->
 ACall Tryz.prog wz 15 [v, .int .i64 depth, .bool last] h (fun r h'=>∃sv p,r= .tuple [.str (Qi f l depth last).1,sv]/\StsV wz f p sv (Qi f l depth last).2/\AM.Sep [h,p] h')
theorem XsV.shape{wz:World}{h:AHeap}:∀{d:Nat} {v:AVal} {l:List XC},XsV wz d h v l->v.live=true/\v.scal=true/\v.cells=[v]
 |0,_,_,hp=>⟨hp.2.live,hp.2.scal,hp.2.cells⟩
 |_+1,_,_,⟨_,_,a,_⟩=>⟨a.live,a.scal,a.cells⟩
theorem qsY{wz:World}{h:AHeap}:∀{d:Nat} {v:AVal} {l:List StC},StsV wz d h v l->v.live=true/\v.scal=true/\v.cells=[v]
 |0,_,_,hp=>⟨hp.2.live,hp.2.scal,hp.2.cells⟩
 |_+1,_,_,⟨_,_,a,_⟩=>⟨a.live,a.scal,a.cells⟩
theorem sc_isL{wz:World}{h:AHeap}{es:Nat}{v:AVal}{xs:List (List AVal)}(hv:IsL wz h es v xs):Sc v=True:=by cases hv<;>exact eq_true trivial
theorem stsV_Sc{wz:World}{h:AHeap}:∀{d:Nat} {v:AVal} {l:List StC},StsV wz d h v l->Sc v=True
 |0,_,_,hp=>sc_isL hp.2
 |_+1,_,_,⟨_,_,a,_⟩=>sc_isL a
set_option maxHeartbeats 16000000 in
theorem c_body(wz:World)(hm:MaxL wz)(ha:Asp wz)(B H₀:AHeap)(kb f dx depth:Nat)(b:BuC)(pv bv lv:AVal)(pp tp bp E:AHeap)(l:List XC)(name ops:Str)(last:Bool)
 (hBu:BuS wz f B kb b pv bv pp tp bp E H₀) (hl:XsV wz dx B lv l) (hsm:qcZ f l) (hb:qeV wz f dx (depth+1)) (hd:depth<=10) (ho:ops.length<=16) (hoa:asciiB ops=true) (hn:b.cur.bodies.length<=10) (hT:(WP (Qi f) b name ops l depth last).text.length<=1000000000):
 ACall Tryz.prog wz 85 [.ptr (.own kb) 0, .str name, .str ops,lv, .int .i64 depth, .bool last] H₀ (fun _ h'=>∃bv' bp' E',BuS wz f B kb (WP (Qi f) b name ops l depth last) pv bv' pp tp bp' E' h'):=by
 obtain⟨hS,hc⟩:=hBu;have hs_H₀:AM.Sub B H₀:=hS.in_ (i:=0) rfl;have eb_b:H₀ kb=some _:=hS.at_ (i:=1) rfl;obtain⟨hlvl,hlvs,hlvc⟩:=hl.shape;have hwd:IntKind.i64.wrap ((depth:Int)+1)=((depth+1:Nat):Int):=by rw[wrap_i64 (by omega) (by omega)];omega
 obtain⟨T,hTT⟩:∃T,T=Qi f l (depth+1) last:=⟨_,rfl⟩
 have hbE:WP (Qi f) b name ops l depth last={text:=b.text++ops++T.1,cur:={b.cur with bodies:=b.cur.bodies++[(name,Qh ops,T.2)]}}:=by rw[hTT];rfl
 rw[hbE]at hT|-
 simp only[Jd]at hT;refine qP (n:=49) (rs:=[]) Tryz.func85 rfl rfl rfl rfl (V7 rfl) ?_;simp only[qU];refine awp_rseq [0,1,2,12,13] (by rfl) fun K hK=>?_;simp+decide only[QH,ZE,↓qc,↓qf,Nat.reduceAdd,hwd];refine qM (by rfl) (by rfl) (hb _ lv l last (hl.mono hs_H₀) hsm (by rw[<-hTT];omega)) fun x0q4 h0q4 hx0q4=>?_;rw[<-hTT]at hx0q4;obtain⟨sv,p0,rfl,hsv,hS0⟩:=hx0q4;have hs_0:AM.Sub H₀ h0q4:=hS0.in_ (i:=0) rfl;have hS1:=EO hS hS0;simp only[Xv]at hS1;obtain⟨hsvl,hsvs,hsvc⟩:=qsY hsv;have hs_h0q4:Sub B h0q4:=Bt zqC hs_0;have hr_h0q4:Sub H₀ h0q4:=Bt zqC hs_0;have eb_b:=hs_0 kb _ zqA;simp+decide only[Xh,Xo,Xi,Xy,↓qc,↓Xr,↓qa,Nat.reduceAdd];apply hK;clear hK K;refine awp_rseq [0,1,2,13] (by rfl) fun K hK=>?_;simp+decide only[XI,XD,qF,Jd,Qb,Xg,YL,↓qc,↓Qg,↓qg,qoU,↓qj,qd ag9,↓qf,Ql eb_b];repeat (with_reducible refine zqP ?_)
 refine qN (by rfl) (by rfl) zqA sz9 (by rfl) (by rfl) zqD (Js _) (by rfl) ?_;simp only[QZ];simp+decide only[qR,Jd];apply hK;clear hK K;have hS2:=hS1.put (i:=1) rfl (buB (b.text++ops++T.1) b.cur pv bv);simp only[XE]at hS2;obtain⟨H2,hH2⟩:∃H2,H2=h0q4.set kb (buB (b.text++ops++T.1) b.cur pv bv):=⟨_,rfl⟩
 rw[<-hH2]at hS2;refine BO (h':=H2) (by rw[hH2];exact Vk _) ?_;have hs_H2:AM.Sub B H2:=hS2.in_ (i:=0) rfl;have eb_b:=hS2.at_ (i:=1) rfl;obtain⟨hbl,hbs,hbc,nb⟩:=hc.bv_len;obtain⟨bs,hbse,hbg,hbq⟩:=hc.bd;have hbn:bs.length<=10:=by rw[hbse,Jp]at hn;exact hn
 refine qeN [0,1,2,3,4,5,6,7,9,8,10,11,12,13,14,15,16] [2,0,0,0,0,0,0,0,0,0,0,0,0,0,0,0,0] [none,none,none,none,none,none,none,none,none,none,some 9,some 10,some 11,some 12,some 13,some 14,some 15] 12 (B) mixed (by kernel_rfl) (by rfl) (hs_H2) ?_;simp only[Kz,KM,VZ,EQ,YV];simp+decide only[ZU,Xg,qcB,qcA,qbC,qca,Uu,↓qc,↓Qg,↓qg,WR,Wh,↓qj,qd qeb,Ql eb_b,Nat.reduceAdd,hbl];refine qM (by rfl) (by rfl) (qdY wz hm ha _ ops (by omega) hoa) fun x2q8 h2q8 hx2q8=>?_;obtain⟨p2,hrow2,hG2,hSp2⟩:=hx2q8;have hS3:=EO hS2 hSp2;simp only[Xv]at hS3;have hs_2:AM.Sub H2 h2q8:=hSp2.in_ (i:=0) rfl;have hsc2:Sc x2q8=True:=by rcases hrow2 with⟨rfl,_⟩|⟨_,_,rfl,_⟩<;>exact eq_true trivial
 have hl2:=hrow2.live;have hs_h2q8:Sub B h2q8:=Bt zqC hs_2;have hr_h2q8:Sub H2 h2q8:=Bt zqC hs_2;have eb_b:=hs_2 kb _ zqA;rw[Qt];refine And.intro (by first|exact Vk _|assumption|exact Vl (by assumption)) ?_;simp+decide only[qR,XN,Yo,XO,Za,XZ,Xt,WO,Zw,evP,Uu,↓YJ,↓XL,qsv,hsc2,stsV_Sc hsv];refine Qd (cs:=[.str name,x2q8,sv]) (by kernel_rfl) fun k2q11 hk2q11=>?_;have hn_2q11:h2q8 k2q11=none:=by first|assumption|(simp only[Bi]at hk2q11;simp only[hk2q11])
 have hf_2q11:B k2q11=none:=Bj hs_h2q8 hn_2q11;have ne_2q11_b:k2q11≠kb:=Bl hn_2q11 eb_b;rw[Qt];refine And.intro (by first|exact Vk _|assumption|exact Vl (by assumption)) ?_;simp+decide only[qR];refine Yi (es:=3) (v:=bv) (p:=bp) (xs:=bs.map bdC) (ys:=[[.str name,x2q8,sv]]) (i:=4) (by rfl) (by rfl) Tryz.underlying80 Tryz.underlying80 (fun k e=>by cases e) qbU by86 qob (by rfl) (by decide) (by rfl) hbg rfl (hS3.forget (Vl hn_2q11)) (by rfl) (BA (Vj _ _ _) (fun x hx=>by rw[V9.1 hx];rfl) (by rfl) (by show(true && (x2q8.live && (sv.live && true)))=true;rw[hl2,hsvl];rfl) (.exact 1) (KL _)) (by show(true && (x2q8.scal && (sv.scal && true)))=true;rw[hrow2.scal,hsvs];rfl) (by simp) (by simp only[Yb];omega) (by simp only[Yb];omega) fun bv2 bp2 h3 hg2 _ hS4=>?_;have hs_3:AM.Sub B h3:=hS4.in_ (i:=0) rfl;rw[Qt];refine And.intro (by first|exact Vk _|assumption|exact Vl (by assumption)) ?_;simp+decide only[YI,Xg,WR,Wh,Nat.reduceAdd];repeat (with_reducible refine zqP ?_)
 refine qN (v:=bv2) (by rfl) (by rfl) (hS4.at_ (i:=1) rfl) sz80 hg2.live (by rw[hg2.cells];rfl) (by simp only[Xo];omega) (Js _) (by rw[hg2.cells];simp[Qu,hg2.scal]) ?_;simp only[XE,WN,hg2.cells];have hS5:=hS4.put (i:=1) rfl (buB (b.text++ops++T.1) b.cur pv bv2);simp only[XE]at hS5;have hs_4:=hS5.in_ (i:=0) (p:=B) rfl;rw[Qt];refine And.intro (by first|exact Vk _|assumption|exact Vl (by assumption)) ?_;simp+decide only[qR];refine qaK (qC) ?_;have hS6:=(BZ (ps:=[E,p0,p2]) (hS5.pick [5,6,7,0,1,2,3,4] (by decide) (by simp))).pick [1,2,3,4,5,0] (by decide) (by simp);have hsu:=Xl (ps:=[E,p0,p2]) (hS5.pick [5,6,7] (by decide) (by simp)).2;refine⟨_,Vk _,bv2,bp2,YY [E,p0,p2],hS6,?_,bs++[((name,Qh ops,T.2),x2q8,sv)],by simp only;rw[hbse,JK];rfl,by rw[JK];exact hg2,fun q hq=>?_⟩
 ·obtain⟨qs,w,ts,tv,a1,a2,a3,a4⟩:=hc.ph
  exact⟨qs,w,ts,tv,a1,a2,a3,fun q hq=>(a4 q hq).mono (hsu E (by simp))⟩
 ·rcases JX.1 hq with hq|hq
  ·exact⟨(hbq q hq).1.mono (hsu E (by simp)),(hbq q hq).2.mono (hsu E (by simp))⟩
  ·rw[V9.1 hq]
   exact⟨hrow2.isL (hsu p2 (by simp)),hsv.mono (hsu p0 (by simp))⟩
end Go.Proofs.YtgiadjbiimkbiaaGreatDoor
namespace Go.Stm
open Go.Col (Str)
open Go.Tok
open Go.Proofs.YtgiadjbiimkbiaaGreatDoor (asciiB)
theorem qlt(B:List XC->Nat->Bool->Str×List StC)(b:BuC)(name ops:Str)(l:List XC)(depth:Nat)(last:Bool):b.text<+:(WP B b name ops l depth last).text:=by
 show b.text<+:b.text++ops++_
 rw[Jb];exact EG _ _
theorem pre_step(B:List XC->Nat->Bool->Str×List StC)(x:XC)(forms:List Str)(depth:Nat)(last:Bool)(s:BuC×Str)(i:Nat):s.1.text<+:(Qn B x forms depth last s i).1.text:=by
 unfold Qn;simp only;split
 ·exact EH _
 ·refine List.IsPrefix.trans ?_ (qlt B _ _ _ _ _ _)
  show s.1.text<+:s.1.text++[32]++_
  rw[Jb];exact EG _ _
theorem qje(B:List XC->Nat->Bool->Str×List StC)(x:XC)(forms:List Str)(depth:Nat)(last:Bool):∀(l:List Nat) (s:BuC×Str),s.1.text<+:(l.foldl (Qn B x forms depth last) s).1.text
 |[],s=>EH _
 |i::l,s=>(pre_step B x forms depth last s i).trans (qje B x forms depth last l _)
theorem qev{N i:Nat}(hi:i<N):(KP N).drop i=i::(KP N).drop (i+1):=by
 have h:i<(KP N).length:=by rw[ES];exact hi
 rw[Ve h,List.getElem_range]
def qaI(x:XC)(verb:Str):Nat:=min 4 (max x.b.length (if Ue verb=true then 1 else 0))
theorem qbk(B:List XC->Nat->Bool->Str×List StC)(x:XC)(b:BuC)(forms:List Str)(depth:Nat)(last:Bool)(h:b.cur.verb≠XY):XH B x b forms depth last=((KP (qaI x b.cur.verb)).foldl (Qn B x forms depth last) (b,[])).1:=by
 unfold XH qaI;simp only;rw[if_neg h]
theorem qjO(bits:UInt8)(all:Bool):∀(ws:List Str) (i:Nat) (out:Str),(∀w∈ws,w.length<=500)->(Ui bits all i ws out).length<=out.length+501*ws.length
 |[],_,_,_=>by unfold Ui;omega
 |w::ws,i,out,hw=>by
  unfold Ui;refine Vg (qjO bits all ws _ _ fun w' h=>hw w' (Jh _ h)) ?_;have h1:=hw w (Jg ..);have h2:(Lib.trimS w qct).length<=w.length:=Go.Proofs.YtgiadjbiimkbiaaGreatDoor.trimS_le w qct;rw[KZ];split
  ·omega
  ·simp only[Zd]
   omega
theorem qhb{form:Str}(hf:form.length<=500)(bits:UInt8)(all:Bool):(Zl form bits all).length<=251001:=by
 unfold Zl;refine Vg (space_len _) (Vg (qjO bits all _ _ _ fun w hw=>Vg (Go.Proofs.YtgiadjbiimkbiaaGreatDoor.fields_small w hw) hf) ?_);have:=Go.Proofs.YtgiadjbiimkbiaaGreatDoor.fields_few form;simp only[JF];omega
theorem canonL_len{form:Str}(hf:form.length<=500):(Xj form).length<=251001:=by
 unfold Xj;split
 ·decide
 ·split
  ·decide
  ·split
   ·decide
   ·exact qhb hf _ _
theorem qoz(name:Str)(z:ZC):(qbp name z).length<=16/\asciiB (qbp name z)=true:=by
 unfold qbp;split
 ·split
  ·exact⟨by decide,by decide⟩
  ·exact wordsE_ok _
 ·exact⟨by decide,rfl⟩
theorem qnf{form:Str}(hf:form.length<=500)(name:Str)(z:ZC):(qak form name z).length<=251001:=by
 unfold qak;split
 ·decide
 ·exact qhb hf _ _
end Go.Stm
namespace Go.Stm
open Go.Col (Str FaultC okF)
open Go.Tok
set_option maxRecDepth 100000
def simB(m:Nat)(x y:BodC):Bool:=decide (x.1=y.1) && (Wo x.2.1 y.2.1 && qal m x.2.2 y.2.2)
structure CurB(m:Nat)(c b:Cur):Prop where
 verb:c.verb=b.verb
 ph:phm c.phrases=phm b.phrases
 bd:rowE (simB m) c.bodies b.bodies=true
theorem qnp{α:Type}{R:α->α->Bool}{x y:α}(h:R x y=true):∀{a b:List α},rowE R a b=true->rowE R (a++[x]) (b++[y])=true
 |[],[],_=>by simp[rowE,h]
 |u::a,v::b,hab=>by
  rw[rowE,Ky]at hab;rw[Kh,Kh,rowE,hab.1,qnp h hab.2];rfl
 |[],y::b,h=>by cases h
 |x::a,[],h=>by cases h
theorem qhL{α:Type}{R:α->α->Bool}:∀{a b:List α},rowE R a b=true->(∀x∈a,∃y∈b,R x y=true)/\∀y∈b,∃x∈a,R x y=true
 |[],[],_=>⟨fun x h=>by(cases h),fun x h=>by(cases h)⟩
 |u::a,v::b,hab=>by
  rw[rowE,Ky]at hab;obtain⟨h1,h2⟩:=qhL hab.2;refine⟨fun x hx=>?_,fun y hy=>?_⟩
  ·rcases KY.1 hx with rfl|hx
   ·exact⟨v,Jg,hab.1⟩
   ·obtain⟨y,hy,h⟩:=h1 x hx;exact⟨y,Jh _ hy,h⟩
  ·rcases KY.1 hy with rfl|hy
   ·exact⟨u,Jg,hab.1⟩
   ·obtain⟨x,hx,h⟩:=h2 y hy;exact⟨x,Jh _ hx,h⟩
 |[],y::b,h=>by cases h
 |x::a,[],h=>by cases h
theorem qlr{α:Type}{R:α->α->Bool}{a b:List α}(h:rowE R a b=true):a=[]↔b=[]:=by
 have:=qls h;rw[<-ET,<-ET,this]
theorem qnj{m:Nat}{x y:BodC}(h:simB m x y=true):x.1=y.1:=by
 simp only[Wy,simB]at h;exact h.1
theorem qpS{a b:List TokC}(h:a.map kt=b.map kt):Wo a b=true:=decide_eq_true h
def qfL(B:List XC->Nat->Bool->Str×List StC)(m d:Nat):Prop:=∀(l:List TokC) (O:List Str) (lx:List XC) (last:Bool) (vs:List Str) (e:Nat),(∀f∈O,f∈BFS)->At l e (KW (B lx d last).1)->Fol l O last vs (e+(KW (B lx d last).1).length)->
 ∃L p,ListR wordsO l Qo d O e [] (.ok L p)/\qal m L (B lx d last).2=true/\L≠[]/\VerbA l e/\Fin l last vs (e+(KW (B lx d last).1).length) p
theorem T_then:((KP 39).all fun k=>(decide (qi k=IFv)||(BT.all fun b=> !decide (b.1=QB k)||b.2.2.all fun fm=> !decide (fm.canon=Wm))) &&
 (!Ue (qi k)||BT.all fun b=> !decide (b.1=QB k)||b.2.2.any fun fm=>decide (fm.form=if qi k=IFv then Wm else XW)))=true:=by decide+kernel
theorem kw_on{w:Str}(h:kw w=(1,wON)):w=wON:=congrArg Prod.snd h
section
variable {l:List TokC} {d:Nat} {O:List Str} {k:Nat} {B:List XC->Nat->Bool->Str×List StC} {m:Nat}
theorem hO_snoc(hk:k<39)(hO:∀f∈O,f∈BFS):∀f∈O++[bq k],f∈BFS:=fun f hf=>by
 rcases JX.1 hf with h|h
 ·exact hO f h
 ·rw[V9.1 h];exact qeL hk
theorem qnr(hk:k<39)(hO:∀f∈O,f∈BFS)(hB:qfL B m (d+1)){c:Cur}{b:BuC}(hc:CurB m c b.cur){w ops:Str}{lx:List XC}{last:Bool}{vs:List Str}{p n:Nat}(hops:∀κ∈KW ops,κ∈opK)(hw:w≠XW->KW ops=[])(hwn:w=XW->KW ops≠[])(ht:twice c w=false)
 (ha:At l (p+n) (KW ops++KW (B lx (d+1) last).1)) (hf:Fol l (O++[bq k]) last vs (p+n+(KW ops).length+(KW (B lx (d+1) last).1).length)):
 VerbA l (p+n+(KW ops).length)/\∃c' p',BodyR wordsO l Qo d (O++[bq k]) c w n p (.ok c' p')/\CurB m c' (WP B b w ops lx d last).cur/\Fin l last vs (p+n+(KW ops).length+(KW (B lx (d+1) last).1).length) p':=by
 obtain⟨ha1,ha2⟩:=EU.1 ha;obtain⟨L,q,h1,h2,h3,h4,h5⟩:=hB l (O++[bq k]) lx last vs _ (hO_snoc hk hO) ha2 hf;refine⟨h4,?_⟩;obtain⟨ts,hh,hts⟩:∃ts,headW l (O++[bq k]) w n p=(ts,p+n+(KW ops).length)/\ts.map kt=KW ops:=by
  by_cases hwe:w=XW
  ·rw[hwe]
   exact head_when hk hops ha1 h4
  ·refine⟨[],?_,by rw[hw hwe];rfl⟩
   unfold headW;rw[if_neg hwe,hw hwe];rfl
 have hb:=BodyR.ok (W:=wordsO) (forms:=Qo) (l:=l) (d:=d) (O:=O++[bq k]) (c:=c) (w:=w) (n:=n) (i:=p) (L:=L) (k:=q) ht (fun z=>by
  rw[hh]at z;refine hwn z.1 ?_;rw[<-hts,show ts=[]from z.2];rfl) (by rw[hh];exact h1) (by
  unfold qhn;rw[decide_eq_false (fun z=>h3 (ET.1 z))];rfl)
 rw[hh]at hb;refine⟨_,q,hb,⟨hc.verb,hc.ph,qnp ?_ hc.bd⟩,h5⟩;unfold simB;rw[h2,qpS (show ts.map kt=(Qh ops).map kt by rw[hts,UV])];simp
theorem twice_no{s:BuC×Str}{c:Cur}{form name:Str}(hc:CurB m c s.1.cur)(hS:∀bd∈s.1.cur.bodies,Lib.contains s.2 (qeY bd.1)=true)(hsk:UL s.2 form name=false):twice c name=false:=by
 unfold UL at hsk;simp only[decide_eq_true_eq,VD,VE,VF]at hsk;unfold twice;rw[EW];intro bd hbd;obtain⟨y,hy,hyy⟩:=(qhL hc.bd).1 bd hbd;have hn:=qnj hyy;have hs:=hS y hy;rw[<-hn]at hs;intro z;simp only[Ky,decide_eq_true_eq,Jj,JJ,decide_eq_false_iff_not]at z;rcases z with⟨z1,z2⟩|z
 ·rw[z1]at hs
  rcases hsk.2.1 with h|h
  ·exact z2 h
  ·rw[h]at hs;cases hs
 ·rw[z,hsk.2.2]at hs;cases hs
theorem qrN(hk:k<39){gs:List Fm}(hgs:(QB k,bq k,gs)∈BT){z:ZC}{i:Nat}{seen:Str}(h:UL seen (XB (qi k) (Qc (QB k)) z i) (Xj (XB (qi k) (Qc (QB k)) z i))=false):∃fm∈gs,fm.form=XB (qi k) (Qc (QB k)) z i:=by
 have hT:=JB.1 T_then k (JC.2 hk);simp only[Ky,Jj,JJ]at hT;have hne:XB (qi k) (Qc (QB k)) z i≠[]:=fun e=>by
  unfold UL at h;rw[e]at h;simp at h
 unfold XB at hne|-
 by_cases h1:Ue (qi k)=true/\i=0
 ·rw[if_pos h1]
  rcases hT.2 with h2|h2
  ·rw[h1.1]at h2;cases h2
  ·have h3:=JB.1 h2 _ hgs
   simp only[decide_eq_true_eq,VJ,decide_true,VK,Vb]at h3;exact h3
 ·rw[if_neg h1]at hne|-
  by_cases h2:Qc (QB k)=[]
  ·rw[if_pos h2]at hne;exact absurd rfl hne
  ·rw[if_neg h2]
   have hm:z.1.toNat%(Qc (QB k)).length<(Qc (QB k)).length:=Km _ (Bv.2 h2);have:(Qc (QB k)).getD (z.1.toNat%(Qc (QB k)).length) []∈Qc (QB k):=by rw[Ko,JD hm];exact VY hm
   rw[(qkP hgs).1]at this|-
   obtain⟨fm,h3,h4⟩:=JM.1 this;exact⟨fm,h3,h4⟩
theorem canon_then(hk:k<39){gs:List Fm}(hgs:(QB k,bq k,gs)∈BT){fm:Fm}(hfm:fm∈gs)(h:fm.canon=Wm):qi k=IFv:=by
 have hT:=JB.1 T_then k (JC.2 hk);simp only[Wy,JJ]at hT;rcases hT.1 with h1|h1
 ·exact h1
 ·have h3:=JB.1 h1 _ hgs
  simp only[VJ,decide_true,VK,JB]at h3;have:=h3 fm hfm;rw[h]at this;simp at this
theorem bod_at(hk:k<39){gs:List Fm}(hgs:(QB k,bq k,gs)∈BT){fm:Fm}(hfm:fm∈gs){W:List Str}(hW:W∈fm.vars){e p:Nat}(ha:At l e (kws W))(hp:p=e\/(p=e+1/\At l e [(1,wON)]))(hfar:qdC l (e+W.length) (bq k)):
 Quiet l p/\∃n,0<n/\p+n=e+W.length/\Qs l p (bq k)=(fm.canon,n):=by
 have hT:=JB.1 (JB.1 (JB.1 T_bod _ hgs) fm hfm) W hW;rw[Ky,Ky,decide_eq_true_eq]at hT;obtain⟨t1,t2,t3⟩:=hT;obtain⟨w,W',rfl⟩:=Ev (((qkP hgs).2 fm hfm).1.ne W hW);have hl:∀V:List Str,(kws V).length=V.length:=fun V=>Jp _;rcases hp with rfl|⟨rfl,hp⟩
 ·exact⟨qhO ha.1 t1,(w::W').length,by rw[KZ];omega,rfl,qbz (Des.of_at ha (show Des _ l _ [none]from⟨by rw[hl];exact hfar,trivial⟩)) t2⟩
 ·have hw:w=wON:=kw_on (ha.1.2.symm.trans hp.1.2)
  rw[EX,if_pos hw]at t3;simp only[Ky,decide_eq_true_eq,Jj,decide_eq_false_iff_not,List.tail_cons]at t3;obtain⟨t4,t5,t6⟩:=t3;obtain⟨w2,W2,rfl⟩:=Ev (of_decide_eq_false t4);rw[KZ]at hfar|-
  refine⟨qhO ha.2.1 t5,(w2::W2).length,by rw[KZ];omega,by omega,?_⟩;rw[show(w::w2::W2).length-1=(w2::W2).length from rfl]at t6;exact qbz (Des.of_at (ks:=kws (w2::W2)) ha.2 (show Des _ l _ [none]from⟨by rw[hl,show e+1+(w2::W2).length=e+((w2::W2).length+1) by omega];exact hfar,trivial⟩)) (of_decide_eq_true t6)
theorem bod_fol(hk:k<39){gs:List Fm}(hgs:(QB k,bq k,gs)∈BT){fm:Fm}(hfm:fm∈gs){W:List Str}(hW:W∈fm.vars){e:Nat}(ha:At l e (kws W))(hfar:qdC l (e+W.length) (bq k)):FolN l (O++[bq k]) e:=by
 obtain⟨h1,n,h2,h3,h4⟩:=bod_at hk hgs hfm hW ha (.inl rfl) hfar;have hT:=JB.1 (JB.1 (JB.1 T_bod _ hgs) fm hfm) W hW;rw[Ky,Ky]at hT;obtain⟨w,W',rfl⟩:=Ev (((qkP hgs).2 fm hfm).1.ne W hW);refine .inr (.inr ⟨h1,⟨bq k,by simp,by rw[h4];exact h2⟩,?_,fun hon=>?_⟩)
 ·by_cases hw:w=wON
  ·refine .inl (EY.2 ⟨ha.1.1,ha.1.2.trans ?_⟩)
   rw[hw];decide
  ·have h5:=hT.2.2
   rw[EX,if_neg hw,JB]at h5;exact .inr fun F hF=>by
    obtain⟨q,hq,rfl⟩:=JM.1 hF;exact qhg ha.1 (h5 q hq)
 ·obtain⟨g1,n',g2,g3,g4⟩:=bod_at hk hgs hfm hW ha (.inr ⟨rfl,hon⟩) hfar
  exact⟨g1,bq k,by simp,by rw[g4];exact g2⟩
end
theorem qkO(B:List XC->Nat->Bool->Str×List StC)(b:BuC)(name:Str){ops:Str}(ho:ops=[]\/∃Y,ops=32::Y)(l:List XC)(d:Nat)(last:Bool)(hB:(B l (d+1) last).1=[]\/∃Y,(B l (d+1) last).1=32::Y):KW (WP B b name ops l d last).text=KW b.text++(KW ops++KW (B l (d+1) last).1):=by
 show KW (b.text++ops++(B l (d+1) last).1)=_
 rw[qfM _ hB,qfM _ ho,Jb]
theorem opsB_sp(name:Str)(z:ZC):qbp name z=[]\/∃Y,qbp name z=32::Y:=by
 unfold qbp;split
 ·split
  ·exact .inr ⟨_,rfl⟩
  ·exact qmS _
 ·exact .inl rfl
theorem qkH(name:Str)(z:ZC):∀κ∈KW (qbp name z),κ∈opK:=by
 unfold qbp;split
 ·split
  ·decide+kernel
  ·exact qdB _
 ·intro κ h;cases h
theorem qoA{name:Str}(z:ZC)(h:name≠XW):KW (qbp name z)=[]:=by
 unfold qbp;rw[if_neg h];rfl
theorem opsB_ne{name:Str}(z:ZC)(h:name=XW):KW (qbp name z)≠[]:=by
 unfold qbp;rw[if_pos h];split
 ·decide+kernel
 ·rename_i hne
  rw[qiM];intro e;apply hne;unfold QY;rw[V5.1 e];rfl
def stepW(B:List XC->Nat->Bool->Str×List StC)(x:XC)(forms:List Str)(d:Nat)(last:Bool)(s:BuC×Str)(i:Nat):List KT:=
 if UL s.2 (XB s.1.cur.verb forms (x.b.getD i noZ) i) (Xj (XB s.1.cur.verb forms (x.b.getD i noZ) i))=true then[]
 else KW (qak (XB s.1.cur.verb forms (x.b.getD i noZ) i) (Xj (XB s.1.cur.verb forms (x.b.getD i noZ) i)) (x.b.getD i noZ))++(KW (qbp (Xj (XB s.1.cur.verb forms (x.b.getD i noZ) i)) (x.b.getD i noZ))++KW (B (x.b.getD i noZ).2.2.1 (d+1) (last && (decide (i=3)||decide (x.b.length<=i+1)))).1)
theorem KW_step{B:List XC->Nat->Bool->Str×List StC}(hB:∀l d last,(B l d last).1=[]\/∃Y,(B l d last).1=32::Y)(x:XC)(forms:List Str)(d:Nat)(last:Bool)(s:BuC×Str)(i:Nat):KW (Qn B x forms d last s i).1.text=KW s.1.text++stepW B x forms d last s i:=by
 unfold Qn stepW;simp only;split
 ·rw[JG]
 ·rw[qkO B _ _ (opsB_sp _ _) _ _ _ (hB _ _ _)]
  show KW (s.1.text++[32]++_)++_=_
  rw[qkr,Jb]
def UW(B:List XC->Nat->Bool->Str×List StC)(x:XC)(forms:List Str)(d:Nat)(last:Bool):List Nat->BuC×Str->List KT
 |[],_=>[]
 |i::is,s=>stepW B x forms d last s i++UW B x forms d last is (Qn B x forms d last s i)
theorem qkN{B:List XC->Nat->Bool->Str×List StC}(hB:∀l d last,(B l d last).1=[]\/∃Y,(B l d last).1=32::Y)(x:XC)(forms:List Str)(d:Nat)(last:Bool):∀(is:List Nat) (s:BuC×Str),KW (is.foldl (Qn B x forms d last) s).1.text=KW s.1.text++UW B x forms d last is s
 |[],s=>by rw[UW,JG];rfl
 |i::is,s=>by rw[EP,qkN hB x forms d last is,KW_step hB,UW,Jb]
structure BodI(k:Nat)(s:BuC×Str)(i:Nat):Prop where
 verb:s.1.cur.verb=qi k
 seen:∀bd∈s.1.cur.bodies,Lib.contains s.2 (qeY bd.1)=true
 then_:qi k=IFv->(i=0/\s.1.cur.bodies=[])\/Lib.contains s.2 (qeY Wm)=true
 first:s.1.cur.bodies=[]->s.2=[]
theorem skip_form{seen form name:Str}(h:UL seen form name=false):form≠[]/\(name=XW\/Lib.contains seen (qeY name)=false)/\Lib.contains seen (qeY qfK)=false:=by
 unfold UL at h;simp only[decide_eq_true_eq,decide_eq_false_iff_not,VD,VE,VF]at h;exact⟨h.1,h.2.1,h.2.2⟩
section
variable {B:List XC->Nat->Bool->Str×List StC} {d k:Nat} {x:XC} {lst:Bool}
theorem BodI.step(hk:k<39){gs:List Fm}(hgs:(QB k,bq k,gs)∈BT){s:BuC×Str}{i:Nat}(h:BodI k s i):BodI k (Qn B x (Qc (QB k)) d lst s i) (i+1):=by
 unfold Qn;simp only;split
 ·rename_i hsk
  refine⟨h.verb,h.seen,fun hif=>?_,h.first⟩;rcases h.then_ hif with⟨rfl,hb⟩|hc
  ·exfalso
   have hs:=h.first hb;rw[hs,h.verb,hif]at hsk;have hform:XB IFv (Qc (QB k)) (x.b.getD 0 noZ) 0=Wm:=by unfold XB;rw[if_pos ⟨by decide,rfl⟩,if_pos rfl]
   rw[hform]at hsk;exact absurd hsk (by decide+kernel)
  ·exact .inr hc
 ·rename_i hsk
  rw[BP]at hsk;refine⟨h.verb,fun bd hbd=>?_,fun hif=> .inr ?_,fun e=>by simp[WP]at e⟩
  ·rcases JX.1 (show bd∈s.1.cur.bodies++[_]from hbd)with z|z
   ·have:=qiz (h.seen bd z) ([59]++Xj (XB s.1.cur.verb (Qc (QB k)) (x.b.getD i noZ) i)++[59])
    simpa[Jb]using this
   ·rw[V9.1 z]
    exact qgP _ _
  ·rcases h.then_ hif with⟨rfl,hb⟩|hc
   ·have hform:XB s.1.cur.verb (Qc (QB k)) (x.b.getD 0 noZ) 0=Wm:=by rw[h.verb,hif];unfold XB;rw[if_pos ⟨by decide,rfl⟩,if_pos rfl]
    rw[hform];exact qgP _ Wm
   ·have:=qiz hc ([59]++Xj (XB s.1.cur.verb (Qc (QB k)) (x.b.getD i noZ) i)++[59])
    simpa[Jb]using this
theorem qep(hk:k<39){gs:List Fm}(hgs:(QB k,bq k,gs)∈BT){s:BuC×Str}{i:Nat}(h:BodI k s i)(hsk:UL s.2 (XB s.1.cur.verb (Qc (QB k)) (x.b.getD i noZ) i) (Xj (XB s.1.cur.verb (Qc (QB k)) (x.b.getD i noZ) i))=false):
 ∃fm∈gs,fm.canon=Xj (XB s.1.cur.verb (Qc (QB k)) (x.b.getD i noZ) i)/\
  ((∃W∈fm.vars,KW (qak (XB s.1.cur.verb (Qc (QB k)) (x.b.getD i noZ) i) (Xj (XB s.1.cur.verb (Qc (QB k)) (x.b.getD i noZ) i)) (x.b.getD i noZ))=kws W)\/
   (fm.canon=Wm/\qi k=IFv/\i=0/\s.1.cur.bodies=[]/\KW (qak (XB s.1.cur.verb (Qc (QB k)) (x.b.getD i noZ) i) (Xj (XB s.1.cur.verb (Qc (QB k)) (x.b.getD i noZ) i)) (x.b.getD i noZ))=[])):=by
 rw[h.verb]at hsk|-
 obtain⟨fm,hfm,hff⟩:=qrN hk hgs hsk;have hok:=((qkP hgs).2 fm hfm).1;obtain⟨form,hfe⟩:∃form,form=XB (qi k) (Qc (QB k)) (x.b.getD i noZ) i:=⟨_,rfl⟩
 rw[<-hfe]at hsk hff|-
 have hcn:fm.canon=Xj form:=by rw[<-hok.law,hff]
 refine⟨fm,hfm,hcn,?_⟩;unfold qak;by_cases ht:Xj form=Wm/\(x.b.getD i noZ).2.2.2.toNat%2=1
 ·refine .inr ⟨by rw[hcn];exact ht.1,?_⟩
  have hif:=canon_then hk hgs hfm (by rw[hcn];exact ht.1);rcases h.then_ hif with⟨h1,h2⟩|h1
  ·exact⟨hif,h1,h2,by rw[if_pos ht];rfl⟩
  ·exfalso
   rcases(skip_form hsk).2.1 with h2|h2
   ·rw[ht.1]at h2;exact absurd h2 (by decide)
   ·rw[ht.1,h1]at h2;cases h2
 ·obtain⟨W,hW,hKW⟩:=hok.text (x.b.getD i noZ).2.2.2
  exact .inl ⟨W,hW,by rw[if_neg ht,<-hff];exact hKW⟩
end
def EndB(l:List TokC)(k:Nat)(lst:Bool)(vsx:List Str)(e:Nat):Prop:=(lst=true/\FolE l vsx e)\/(lst=false/\qi k∈endedV/\At l e [qda (qi k)])
theorem EndB.toN{l:List TokC}{k:Nat}{lst:Bool}{vsx O:List Str}{e:Nat}(h:EndB l k lst vsx e):FolN l O e:=by
 rcases h with⟨_,h⟩|⟨_,h1,h2⟩
 ·exact h.toN
 ·exact .inr (.inl ⟨_,h1,h2⟩)
theorem EndB.notON{l:List TokC}{k:Nat}{lst:Bool}{vsx:List Str}{e:Nat}(h:EndB l k lst vsx e):¬At l e [(1,wON)]:=by
 rcases h with⟨_,h⟩|⟨_,h1,h2⟩
 ·exact h.notON (.inl rfl)
 ·exact qcD h1 h2 (.inl rfl)
def HeadV(B:List XC->Nat->Bool->Str×List StC)(d:Nat):Prop:=∀l last,∃k,k<39/\∃r,KW (B l d last).1=(1,qi k)::r
theorem HeadV.at_{B:List XC->Nat->Bool->Str×List StC}{d:Nat}(h:HeadV B d){lx:List XC}{last:Bool}{l:List TokC}{e:Nat}(ha:At l e (KW (B lx d last).1)):VerbA l e:=by
 obtain⟨k,hk,r,hr⟩:=h lx last;rw[hr]at ha;exact qpK hk (EY.2 ha.1)
section
variable {l:List TokC} {d:Nat} {O:List Str} {k:Nat} {B:List XC->Nat->Bool->Str×List StC} {m:Nat} {x:XC} {lst:Bool} {vsx:List Str}
theorem qjr(hk:k<39)(hV:HeadV B (d+1)){lx:List XC}{last:Bool}{e:Nat}{ops:Str}(hops:∀κ∈KW ops,κ∈opK)(ha:At l e (KW ops++KW (B lx (d+1) last).1)):qdC l e (bq k):=by
 cases ho:KW ops with
 |nil=>
  rw[ho,Jf]at ha;exact(hV.at_ ha).f _ (.inr (qeL hk))
 |cons κ ks=>
  rw[ho]at ha;exact(op_at ha.1 (hops κ (by rw[ho];exact Jg))).2 _ (.inr (qeL hk))
theorem qiW{s:BuC×Str}{i:Nat}{forms:List Str}(hsk:UL s.2 (XB s.1.cur.verb forms (x.b.getD i noZ) i) (Xj (XB s.1.cur.verb forms (x.b.getD i noZ) i))=true):Qn B x forms d lst s i=s/\stepW B x forms d lst s i=[]:=by
 unfold Qn stepW;simp only;rw[if_pos hsk,if_pos hsk];exact⟨rfl,rfl⟩
theorem qrA(hk:k<39)(hV:HeadV B (d+1)){gs:List Fm}(hgs:(QB k,bq k,gs)∈BT){N:Nat}:∀(n j:Nat) (s:BuC×Str) {e:Nat},j+n=N->BodI k s j->s.1.cur.bodies≠[]->UW B x (Qc (QB k)) d lst ((KP N).drop j) s≠[]->At l e (UW B x (Qc (QB k)) d lst ((KP N).drop j) s)->FolN l (O++[bq k]) e
 |0,j,s,e,hj,_,_,hne,_=>by
  rw[show j=N by omega,ER (by rw[ES];exact KL _)]at hne;exact absurd rfl hne
 |n+1,j,s,e,hj,hI,hb,hne,ha=>by
  rw[qev (by omega),UW]at hne ha;cases hsk:UL s.2 (XB s.1.cur.verb (Qc (QB k)) (x.b.getD j noZ) j) (Xj (XB s.1.cur.verb (Qc (QB k)) (x.b.getD j noZ) j))with
  |true=>
   obtain⟨h1,h2⟩:=qiW (B:=B) (d:=d) (lst:=lst) hsk;rw[h1,h2,Jf]at hne ha;have hI2:BodI k s (j+1):=by have:=hI.step (B:=B) (d:=d) (x:=x) (lst:=lst) hk hgs;rw[h1]at this;exact this
   exact qrA hk hV hgs n (j+1) s (by omega) hI2 hb hne ha
  |false=>
   obtain⟨fm,hfm,hcn,hw⟩:=qep hk hgs hI hsk;rcases hw with⟨W,hW,hKW⟩|⟨_,_,_,h0,_⟩
   ·have ha1:=(EU.1 ha).1
    unfold stepW at ha1;rw[if_neg (by rw[hsk];decide),hKW]at ha1;obtain⟨ha2,ha3⟩:=EU.1 ha1;rw[show(kws W).length=W.length from Jp _]at ha3;exact bod_fol hk hgs hfm hW ha2 (qjr hk hV (qkH _ _) ha3)
   ·exact absurd h0 hb
theorem qoL(forms:List Str):∀(is:List Nat) (s:BuC×Str),s.1.cur.bodies≠[]->(is.foldl (Qn B x forms d lst) s).1.cur.bodies≠[]
 |[],s,h=>h
 |i::is,s,h=>by
  rw[EP];refine qoL forms is _ ?_;unfold Qn;simp only;split
  ·exact h
  ·simp[WP]
theorem bodN_le(x:XC)(verb:Str){i:Nat}(h:i=3\/x.b.length<=i+1):qaI x verb<=i+1:=by
 unfold qaI;split<;>omega
theorem qjb(hk:k<39)(hO:∀f∈O,f∈BFS)(hB:qfL B m (d+1))(hV:HeadV B (d+1)){gs:List Fm}(hgs:(QB k,bq k,gs)∈BT):∀(n i:Nat) (s:BuC×Str) (c:Cur) (e p:Nat),i+n=qaI x (qi k)->BodI k s i->CurB m c s.1.cur->(s.1.cur.bodies=[]->p=e)->
 (p=e\/(p=e+1/\At l e [(1,wON)])\/(lst=true/\n=0/\∃t,t<=vsx.length/\p=e+t))->
 At l e (UW B x (Qc (QB k)) d lst ((KP (qaI x (qi k))).drop i) s)->
 ((((KP (qaI x (qi k))).drop i).foldl (Qn B x (Qc (QB k)) d lst) s).1.cur.bodies≠[]->EndB l k lst vsx (e+(UW B x (Qc (QB k)) d lst ((KP (qaI x (qi k))).drop i) s).length))->
 ∃c' p',CurB m c' (((KP (qaI x (qi k))).drop i).foldl (Qn B x (Qc (QB k)) d lst) s).1.cur/\(∀r,LoopR wordsO l Qo d (O++[bq k]) (QF k) c' p' r->LoopR wordsO l Qo d (O++[bq k]) (QF k) c p r)/\
  (((((KP (qaI x (qi k))).drop i).foldl (Qn B x (Qc (QB k)) d lst) s).1.cur.bodies=[]/\p'=p/\UW B x (Qc (QB k)) d lst ((KP (qaI x (qi k))).drop i) s=[])\/
   ((((KP (qaI x (qi k))).drop i).foldl (Qn B x (Qc (QB k)) d lst) s).1.cur.bodies≠[]/\
    ((lst=true/\∃t,t<=vsx.length/\p'=e+(UW B x (Qc (QB k)) d lst ((KP (qaI x (qi k))).drop i) s).length+t)\/(lst=false/\p'=e+(UW B x (Qc (QB k)) d lst ((KP (qaI x (qi k))).drop i) s).length))))
 |0,i,s,c,e,p,hi,hI,hc,hp0,hp,ha,hE=>by
  rw[show i=qaI x (qi k) by omega,ER (by rw[ES];exact KL _)]at ha hE|-
  simp only[K8,JF,List.foldl_nil,UW]at ha hE|-
  refine⟨c,p,hc,fun r hr=>hr,?_⟩;by_cases hb:s.1.cur.bodies=[]
  ·exact .inl ⟨hb,by first|rfl|trivial,by first|rfl|trivial⟩
  ·refine .inr ⟨hb,?_⟩
   have hEb:=hE hb;rcases hp with rfl|⟨_,h⟩|⟨h1,_,h2⟩
   ·rcases hEb with⟨h1,_⟩|⟨h1,_⟩
    ·exact .inl ⟨h1,0,Js _,rfl⟩
    ·exact .inr ⟨h1,rfl⟩
   ·exact absurd h hEb.notON
   ·exact .inl ⟨h1,h2⟩
 |n+1,i,s,c,e,p,hi,hI,hc,hp0,hp,ha,hE=>by
  rw[qev (by omega)]at ha hE|-
  rw[UW]at ha hE;simp only[EP,UW]at hE|-
  have hp':p=e\/(p=e+1/\At l e [(1,wON)]):=by
   rcases hp with h|h|⟨_,h,_⟩
   ·exact .inl h
   ·exact .inr h
   ·cases h
  cases hsk:UL s.2 (XB s.1.cur.verb (Qc (QB k)) (x.b.getD i noZ) i) (Xj (XB s.1.cur.verb (Qc (QB k)) (x.b.getD i noZ) i))with
  |true=>
   obtain⟨h1,h2⟩:=qiW (B:=B) (d:=d) (lst:=lst) hsk;have hI2:BodI k s (i+1):=by have:=hI.step (B:=B) (d:=d) (x:=x) (lst:=lst) hk hgs;rw[h1]at this;exact this
   rw[h1,h2,Jf]at ha hE|-
   refine qjb hk hO hB hV hgs n (i+1) s c e p (by omega) hI2 hc hp0 ?_ ha hE;rcases hp' with h|h
   ·exact .inl h
   ·exact .inr (.inl h)
  |false=>
   obtain⟨fm,hfm,hcn,hw⟩:=qep hk hgs hI hsk;obtain⟨s',hs'⟩:∃s',s'=Qn B x (Qc (QB k)) d lst s i:=⟨_,rfl⟩
   obtain⟨lb,hlb⟩:∃lb,lb=(lst && (decide (i=3)||decide (x.b.length<=i+1))):=⟨_,rfl⟩
   obtain⟨z,hz⟩:∃z,z=x.b.getD i noZ:=⟨_,rfl⟩
   have hsE:s'=(WP B (YB s.1 (qak (XB s.1.cur.verb (Qc (QB k)) z i) fm.canon z)) fm.canon (qbp fm.canon z) z.2.2.1 d lb,s.2++[59]++fm.canon++[59]):=by
    rw[hs',hcn,hz,hlb];unfold Qn;simp only;rw[if_neg (by rw[hsk];decide)]
   have hstW:stepW B x (Qc (QB k)) d lst s i=KW (qak (XB s.1.cur.verb (Qc (QB k)) z i) fm.canon z)++(KW (qbp fm.canon z)++KW (B z.2.2.1 (d+1) lb).1):=by
    unfold stepW;rw[if_neg (by rw[hsk];decide),hcn,hz,hlb]
   have hI2:BodI k s' (i+1):=by rw[hs'];exact hI.step hk hgs
   have hb':s'.1.cur.bodies≠[]:=by rw[hsE];simp[WP]
   rw[<-hs',hstW]at ha hE;rw[<-hs',hstW];rw[<-hcn,<-hz]at hw;obtain⟨T,hT⟩:∃T,T=KW (qak (XB s.1.cur.verb (Qc (QB k)) z i) fm.canon z):=⟨_,rfl⟩
   obtain⟨rest,hrest⟩:∃rest,rest=UW B x (Qc (QB k)) d lst ((KP (qaI x (qi k))).drop (i+1)) s':=⟨_,rfl⟩
   obtain⟨S,hSub⟩:∃S,S=KW (B z.2.2.1 (d+1) lb).1:=⟨_,rfl⟩
   obtain⟨P,hP⟩:∃P,P=KW (qbp fm.canon z):=⟨_,rfl⟩
   rw[<-hT,<-hP,<-hSub,<-hrest]at ha hE;rw[<-hT,<-hP,<-hSub,<-hrest];rw[<-hT]at hw;have hEr:=hE (qoL _ _ _ hb');obtain⟨ha1,ha4⟩:=EU.1 ha;obtain⟨ha2,ha3⟩:=EU.1 ha1;simp only[Jd]at ha4 hEr;have hlen:e+(T++(P++S)++rest).length=e+T.length+P.length+S.length+rest.length:=by simp only[Jd];omega
   rw[hlen];rw[show e+(T.length+(P.length+S.length))=e+T.length+P.length+S.length by omega]at ha4;rw[show e+(T.length+(P.length+S.length)+rest.length)=e+T.length+P.length+S.length+rest.length by omega]at hEr;have hFol:Fol l (O++[bq k]) lb vsx (e+T.length+P.length+S.length)/\(lb=true->lst=true/\n=0):=by
    cases hl:lb with
    |true=>
     rw[hl]at hlb;have h2:=hlb.symm;simp only[Wy,JJ]at h2;have hN:=bodN_le x (qi k) h2.2;have hn0:n=0:=by omega
     have hr0:rest=[]:=by
      rw[hrest,ER (by rw[ES];omega)];rfl
     rw[hr0,JF,K8]at hEr;refine⟨?_,fun _=>⟨h2.1,hn0⟩⟩;rcases hEr with⟨_,h⟩|⟨h,_⟩
     ·unfold Fol;rw[if_pos rfl];exact h
     ·rw[h2.1]at h;cases h
    |false=>
     refine⟨?_,fun h=>by cases h⟩;unfold Fol;rw[if_neg (by decide)];by_cases hr0:rest=[]
     ·rw[hr0,JF,K8]at hEr
      exact hEr.toN
     ·rw[hrest]at hr0 ha4
      exact qrA hk hV hgs n (i+1) s' (by omega) hI2 hb' hr0 ha4
   have hcond:∃q,p+q=e+T.length/\((0<q/\Quiet l p/\Qs l p (bq k)=(fm.canon,q))\/(q=0/\p=e/\fm.canon=Wm/\qi k=IFv/\s.1.cur.bodies=[]/\P=[])):=by
    rcases hw with⟨W,hW,hKW⟩|⟨h1,h2,h3,h4,h5⟩
    ·rw[hKW]at ha2 ha3|-
     rw[show(kws W).length=W.length from Jp _]at ha3|-
     obtain⟨q1,q,q2,q3,q4⟩:=bod_at hk hgs hfm hW ha2 hp' (qjr hk hV (qkH _ _) (by rw[<-hP,<-hSub];exact ha3));exact⟨q,q3, .inl ⟨q2,q1,q4⟩⟩
    ·refine⟨0,by rw[h5,hp0 h4];rfl, .inr ⟨rfl,hp0 h4,h1,h2,h4,?_⟩⟩
     rw[hP];exact qoA z (by rw[h1];decide)
   obtain⟨q,hq,hqc⟩:=hcond;have htw:twice c fm.canon=false:=by
    rw[hcn];exact twice_no hc hI.seen hsk
   obtain⟨hva,c1,p1,hbr,hc1,hfin⟩:=qnr (B:=B) (m:=m) (d:=d) (b:=YB s.1 (qak (XB s.1.cur.verb (Qc (QB k)) z i) fm.canon z)) (ops:=qbp fm.canon z) (lx:=z.2.2.1) (last:=lb) (vs:=vsx) (p:=p) (n:=q) (w:=fm.canon) hk hO hB hc (qkH _ _) (fun h=>qoA z h) (fun h=>opsB_ne z h) htw
    (by rw[hq,<-hP,<-hSub];exact ha3) (by rw[hq,<-hP,<-hSub];exact hFol.1)
   rw[hq,<-hP,<-hSub]at hfin;rw[hq,<-hP]at hva;have hc1':CurB m c1 s'.1.cur:=by rw[hsE];exact hc1
   have hloop:∀r,LoopR wordsO l Qo d (O++[bq k]) (QF k) c1 p1 r->LoopR wordsO l Qo d (O++[bq k]) (QF k) c p r:=fun r hr=>by
    rcases hqc with⟨h1,⟨g1,g2,g3⟩,h3⟩|⟨h1,h2,h3,h4,h5,h6⟩
    ·refine LoopR.body g1 g2 (by rw[Uw,h3];exact h1) ?_ hr
     rw[Uw,h3];exact hbr
    ·have hT0:T.length=0:=by omega
     simp only[K8,JF,hT0,h6]at hva;rw[<-h2]at hva;rw[h1]at hbr;rw[h3]at hbr;have hcb:c.bodies=[]:=(qlr hc.bd).2 h5;refine EZ hva.e hva.n (by rw[Uw,qaF hva.f (.inr (qeL hk))]) hva.v (w:=Wm) ?_ hbr hr;unfold Zi;rw[if_neg (by rw[hcb];simp),if_pos (by rw[hc.verb,hI.verb,h4])]
   obtain⟨c2,p2,g1,g2,g3⟩:=qjb hk hO hB hV hgs n (i+1) s' c1 (e+T.length+P.length+S.length) p1 (by omega) hI2 hc1' (fun h=>absurd h hb') (by
    cases hl:lb with
    |true=>
     obtain⟨h1,h2⟩:=hFol.2 hl;unfold Fin at hfin;rw[if_pos hl]at hfin;obtain⟨t,ht,he⟩:=hfin;exact .inr (.inr ⟨h1,h2,t,ht,he⟩)
    |false=>
     unfold Fin at hfin;rw[if_neg (by rw[hl];decide)]at hfin;rcases hfin with h|h
     ·exact .inl h
     ·exact .inr (.inl h)) (by rw[<-hrest];exact ha4) (fun _=>by rw[<-hrest];exact hEr)
   rw[<-hrest]at g3;refine⟨c2,p2,g1,fun r hr=>hloop r (g2 r hr),?_⟩;rcases g3 with⟨h,_⟩|h
   ·exact absurd h (qoL _ _ _ hb')
   ·exact .inr h
end
end Go.Stm
namespace Go.Proofs.YtgiadjbiimkbiaaGreatDoor
open Go.AM
open Go.Proofs
open Go.Col (Str FaultC okF)
open Go.Tok (TokC)
open Go.Stm
open Go.RowKit (Below)
set_option maxRecDepth 100000
def qry:ZC×AVal×AVal:=(noZ, .nilSlice, .nilSlice)
theorem z_at{wz:World}{h:AHeap}{lc:AM.Loc}{o n:Nat}{c:Cap}{qs:List (ZC×AVal×AVal)}(ht:IsL wz h 4 (.slice lc o n c) (qs.map zC)){i:Nat}(hi:i<qs.length):
 rd wz h lc (o+i*4)= .int .u8 (qs.getD i qry).1.1.toNat/\rd wz h lc (o+i*4+1)=(qs.getD i qry).2.1/\rd wz h lc (o+i*4+2)=(qs.getD i qry).2.2/\rd wz h lc (o+i*4+3)= .int .u8 (qs.getD i qry).1.2.2.2.toNat:=by
 have he:=ht.elem (i:=i) (by rw[Jp];exact hi);rw[getD_map qry hi]at he;simp only[and_true,cellsAt,List.cons.injEq,zC]at he;exact he
theorem CurS.phs{wz:World}{d:Nat}{c:Cur}{pv bv:AVal}{pp tp bp E:AHeap}(hc:CurS wz d c pv bv pp tp bp E):
 ∃qs:List (PhrC×AVal),c.phrases=qs.map (·.1)/\qs≠[]/\∀h,AM.Sub pp h->AM.Sub tp h->AM.Sub E h->IsL wz h 2 pv (qs.map phC)/\∀q∈qs,IsL wz h 5 q.2 (q.1.toks.map Zb):=by
 obtain⟨qs,w,ts,tv,e,g,gt,hq⟩:=hc.ph;refine⟨qs++[((⟨w,ts⟩:PhrC),tv)],by rw[e,JK];rfl,by simp,fun h h1 h2 h3=>⟨by rw[JK];exact g.isL h1,fun q hm=>?_⟩⟩;rcases JX.1 hm with hm|hm
 ·exact(hq q hm).mono h3
 ·rw[V9.1 hm]
  exact gt.isL h2
theorem qkA{wz:World}{h:AHeap}:∀{d:Nat},XsV wz d h .nilSlice []
 |0=>⟨rfl, .nil⟩
 |_+1=>⟨[],rfl, .nil,fun q hq=>by cases hq⟩
structure BdG where
 i:Nat
 b:BuC
 seen:Str
 bv:AVal
 bp:AHeap
 E:AHeap
 H:AHeap
structure ZG where
 z:ZC
 zo:AVal
 zl:AVal
set_option maxHeartbeats 16000000 in
theorem c_bodies(wz:World)(hm:MaxL wz)(ha:Asp wz)(B H₀:AHeap)(kb f dx depth:Nat)(x:XC)(b:BuC)(xp xb fv pv:AVal)(pp tp E₀:AHeap)(forms:List Str)(last:Bool)
 (hBu:BuS wz f B kb b pv .nilSlice pp tp emp E₀ H₀) (hb0:b.cur.bodies=[]) (hxl:xp.live=true) (hxs:xp.scal=true) (hxc:xp.cells=[xp]) (hZ:ZsV wz (XsV wz dx B) B xb x.b) (hsm:∀z∈x.b,qcZ f z.2.2.1) (hF:IsL wz B 1 fv (forms.map strC)) (hFo:qgy forms)
 (hb:b.cur.verb=XY\/Ue b.cur.verb=true\/forms≠[]->qeV wz f dx (depth+1)) (hd:depth<=10) (hBl:x.b.length<=1000000) (hpn:b.cur.phrases.length<=1000) (hpt:∀p∈b.cur.phrases,p.toks.length<=1000)
 (hT:(XH (Qi f) x b forms depth last).text.length<=1000000000):
 ACall Tryz.prog wz 55 [.agg [.int .u8 x.verb.toNat,xp,xb, .bool x.cut], .ptr (.own kb) 0,fv, .int .i64 depth, .bool last] H₀ (fun _ h'=>∃bv' bp' E',BuS wz f B kb (XH (Qi f) x b forms depth last) pv bv' pp tp bp' E' h'):=by
 obtain⟨hS,hc⟩:=hBu;have hsmG:∀i,qcZ f (x.b.getD i noZ).2.2.1:=fun i=>by
  rw[Ko];cases hx:x.b[i]? with
  |none=>exact qta f
  |some z=>exact hsm z (List.mem_of_getElem? hx)
 obtain⟨hzl,hzs,hzc⟩:=hZ.shape;have hfl:=hF.live;have nf:∀H:AHeap,Ze Tryz.prog H 22 fv=⟨True, .int .i64 forms.length⟩:=fun H=>by have:=hF.len Tryz.underlying22 H;rwa [Jp]at this
 obtain⟨qs,hqe,hqL,hqo⟩:=id hZ;have hpl:x.b.length=qs.length:=by rw[hqe,Jp]
 have nz:∀H:AHeap,Ze Tryz.prog H 29 xb=⟨True, .int .i64 qs.length⟩:=fun H=>by have:=hqL.len Tryz.underlying29 H;rwa [Jp]at this
 have hs_H₀:AM.Sub B H₀:=hS.in_ (i:=0) rfl;have eb_b:H₀ kb=some _:=hS.at_ (i:=1) rfl;obtain⟨pq,hpe,hpne,hpA⟩:=hc.phs;obtain⟨hpL,hpo⟩:=hpA _ (hS.in_ (i:=2) rfl) (hS.in_ (i:=3) rfl) (hS.in_ (i:=5) rfl);have hp0:0<pq.length:=Bv.2 hpne;obtain⟨lp,op,cp,hpve⟩:=qdg hpL hp0;have hpL2:=hpL;rw[hpve]at hpL2;have e1:=(qfl hpL2 hp0).2;simp only[K8,K9]at e1;obtain⟨q0,hq0⟩:∃q0,q0=pq.getD 0 qfp:=⟨_,rfl⟩
 rw[<-hq0]at e1;have hq0m:q0∈pq:=by rw[hq0,Ko,JD hp0];exact VY hp0
 have hv0:=hpo q0 hq0m;have hv0l:=hv0.live;have n0:∀H:AHeap,Ze Tryz.prog H 39 q0.2=⟨True, .int .i64 q0.1.toks.length⟩:=fun H=>by have:=hv0.len Tryz.underlying39 H;rwa [Jp]at this
 have hft:firstT b.cur.phrases=q0.1.toks:=by
  unfold firstT;rw[hpe,hq0,Ko,Ko,V6,JD hp0];rfl
 have hfn:q0.1.toks.length<=1000:=by
  refine hpt q0.1 ?_;rw[hpe];exact BL hq0m
 have hpvl:=hpL.live;have hpqn:pq.length<=1000:=by rw[hpe,Jp]at hpn;exact hpn
 refine qP (n:=202) (rs:=[]) Tryz.func55 rfl rfl rfl rfl (V7 rfl) ?_;simp only[qU];refine awp_rseq [1,2,3,4,5] (by rfl) fun K hK=>?_;refine Ut (by rfl) (by rfl) (by rfl) fun k0q0 hk0q0=>?_;have hn_0q0:H₀ k0q0=none:=by first|assumption|(simp only[Bi]at hk0q0;simp only[hk0q0])
 have hf_0q0:B k0q0=none:=Bj hs_H₀ hn_0q0;have ne_0q0_b:k0q0≠kb:=Bl hn_0q0 eb_b;skip;simp+decide only[qR,Nat.reduceAdd];apply hK;clear hK K;obtain⟨X,hX⟩:∃X:Blk,X=⟨[.int .u8 x.verb.toNat,xp,xb, .bool x.cut],0⟩:=⟨_,rfl⟩
 have hS1:=Ec hS hk0q0 X;simp only[Xv]at hS1;obtain⟨H1,hH1⟩:∃H1,H1=H₀.set k0q0 X:=⟨_,rfl⟩
 rw[<-hH1]at hS1;refine BO (h':=H1) (by rw[hH1,hX];exact Vk _) ?_;have hs_1:AM.Sub H₀ H1:=by rw[hH1];exact Vl hk0q0
 have hs_H1:AM.Sub B H1:=hS1.in_ (i:=0) rfl;have eb_b:=hS1.at_ (i:=1) rfl;have eb_0q0:H1 k0q0=some ⟨[.int .u8 x.verb.toNat,xp,xb, .bool x.cut],0⟩:=by rw[<-hX];exact hS1.at_ (i:=6) rfl
 have ne_0q0_b:k0q0≠kb:=hS1.ne (i:=6) (j:=1) rfl rfl (by decide);have hpL3:=hpL2.mono hs_1;have e1':=(qfl hpL3 hp0).2;simp only[K8,K9]at e1';rw[<-hq0]at e1';refine awp_rseq [1,2,3,4,5,10] (by rfl) fun K hK=>?_;simp+decide only[Xh,XD,K8,Qm,Xg,K9,↓qc,↓Qg,↓qg,WR,YR,↓qj,qd qec,↓qI,qh Tryz.underlying79 qcH,qcj,qd qcn,↓Qr,↓qa,Ql eb_b,Nat.reduceAdd,hpve,e1',hv0l,n0,Bz];repeat (with_reducible refine zqP ?_)
 apply hK;clear hK K;refine qo ?_;refine awp_rseq [1,2,3,4,5,10,34] (by rfl) fun K hK=>?_;simp+decide only[XI,XD,Qb,Xg,ZF,↓qc,↓Qg,↓qg,WR,qcS,↓qj,qd ag9,↓qf,Ql eb_b,Nat.reduceAdd];apply hK;clear hK K;refine qz (b:=_) rfl (fun hb1=>?_) (fun hb1=>?_)
 ·try simp only[qG]at hb1
  have hverb:b.cur.verb=XY:=hb1;have hbE:XH (Qi f) x b forms depth last=if q0.1.toks.length=0\/(q0.1.toks.length=1/\qbt b qas=true/\qbt b qaP=false)then WP (Qi f) b [] [] (x.b.getD 0 noZ).2.2.1 depth false else b:=by
   unfold XH;simp only;rw[if_pos hverb,hft]
  rw[hbE]at hT|-
  have hSa:AM.Sep ([B,pp,tp,E₀,one k0q0 X]++[one kb (buB b.text b.cur pv .nilSlice)]) H1:=hS1.pick [0,2,3,5,6,1] (by decide) (by simp);have hSb:=hSa.fold;have hsu:=Xl (ps:=[B,pp,tp,E₀,one k0q0 X]) (hS1.pick [0,2,3,5,6] (by decide) (by simp)).2;have hhas:∀w,ACall Tryz.prog wz 84 [.ptr (.own kb) 0, .str w] H1 (fun r h'=>r= .bool (qbt b w)/\h'=H1):=fun w=>by
   have:=c_has wz _ H1 kb b.text w b.cur pv .nilSlice pq hSb (fun h hh=>(hpA h ((hsu pp (by simp)).trans hh) ((hsu tp (by simp)).trans hh) ((hsu E₀ (by simp)).trans hh)).1) (by omega);unfold qbt;rw[hpe];exact this
  refine qo ?_;refine awp_rseq [1,3,5,49] (by rfl) fun K hK=>?_;simp+decide only[QH,Vz,Ya,XF,qcm,agP,Us,Xk,Zm,↓qc,↓qf,↓Xc,qY,qZ,qW,↓QI]
  (refine Wj (V:= .bool (qbt b qas)) (f:=_) (cap:=_) (xs:=_) (by first|rfl|(simp+decide only[ZZ,XT,XK,XJ])) (fun hg=>⟨rfl,?_⟩) (fun hg=>hhas _) ?_;· (simp+decide only[ZZ,V8,putD,XT,qaH]at hg;simp+decide only[Zo,absS,absV,Qe,XN,evs,JG,hg]<;>try rfl))
  simp+decide only[Qw,XU,XF,Zf,qbS,qbR,↓qaA,qY,qZ,qW,↓Xc]
  (refine Wj (V:= .bool (qbt b qaP)) (f:=_) (cap:=_) (xs:=_) (by first|rfl|(simp+decide only[ZZ,XT,XK,XJ])) (fun hg=>⟨rfl,?_⟩) (fun hg=>hhas _) ?_;· (simp+decide only[ZZ,V8,putD,XT,qaH]at hg;simp+decide only[Zo,absS,absV,Qe,XN,evs,JG,hg]<;>try rfl))
  simp+decide only[qR,XU,XF,Zf,UB,Yc,qbS,qbR,qkk,qkj,↓qbl,qY,qZ,qW,↓qaA,↓QE];apply hK;clear hK K;refine qz (b:=_) rfl (fun hb2=>?_) (fun hb2=>?_)
  ·try simp only[qG]at hb2
   have hcond:q0.1.toks.length=0\/(q0.1.toks.length=1/\qbt b qas=true/\qbt b qaP=false):=by
    rcases hb2 with h|h
    ·exact .inl (by omega)
    ·exact .inr ⟨by have:=h.1.1;omega,h.1.2,h.2⟩
   rw[if_pos hcond]at hT|-
   refine awp_rseq [1,3,5,11] (by rfl) fun K hK=>?_;simp+decide only[qJ,↓qa];apply hK;clear hK K;refine qo ?_;refine awp_rseq [1,3,5,11,53] (by rfl) fun K hK=>?_;simp+decide only[Zp,XD,qO,Qm,WL,↓qg,qeF,↓qj,qd qpv,↓Qr,↓qf,Ql eb_0q0,hzl,nz];apply hK;clear hK K;refine YE [1,3,11] (fun z:AVal=>[(1, .ptr (.own kb) 0),(3, .int .i64 depth),(11,z)]) (fun z:AVal=>H1) (fun z:AVal=>XsV wz dx B z (x.b.getD 0 noZ).2.2.1) ?_ ?_
   ·refine qz (b:=_) rfl (fun hb3=>?_) (fun hb3=>?_)
    ·try simp only[qG]at hb3
     have hq1:0<qs.length:=by omega
     obtain⟨lc,o,cc,hpe3⟩:=hqL.open (fun e=>by rw[V5]at e;rw[e]at hq1;cases hq1);have hq2:=hqL.mono hs_H1;rw[hpe3]at hq2;obtain⟨g0,g1,g2,g3⟩:=z_at hq2 hq1;simp only[K8,K9]at g0 g1 g2 g3;obtain⟨q,hqq⟩:∃q,q=qs.getD 0 qry:=⟨_,rfl⟩
     rw[<-hqq]at g0 g1 g2 g3;have hqm:q∈qs:=by rw[hqq,Ko,JD hq1];exact VY hq1
     have hqv:=(hqo q hqm).2;have hql:=hqv.shape.1;have hx0:x.b.getD 0 noZ=q.1:=by rw[hqe,hqq,Ko,Ko,V6,JD hq1];rfl
     refine QK [1,3,11] (by rfl) ?_;simp+decide only[qJ,XD,K8,Jp,K9,↓qg,qeF,↓qj,qd qpv,↓qI,qh Tryz.underlying29 sz37,fa37_2,qd ag35,↓qa,Ql eb_0q0,hpe3,g2,hql,Bz];repeat (with_reducible refine zqP ?_)
     try simp only[QT]
     first
     |exact⟨q.2.2,rfl,Vk _,by rw[hx0];exact hqv⟩
     |exact⟨.nilSlice,rfl,Vk _,by rw[hxn];exact qkA⟩
    ·try simp only[qG]at hb3
     have hxn:x.b=[]:=Kg (by omega);refine qE ?_;try simp only[QT]
     first
     |exact⟨q.2.2,rfl,Vk _,by rw[hx0];exact hqv⟩
     |exact⟨.nilSlice,rfl,Vk _,by rw[hxn];exact qkA⟩
   ·rintro z hz
    obtain⟨hzl2,-,-⟩:=hz.shape;refine QK [] (by rfl) ?_;simp+decide only[Qw,↓qc];refine qM (by rfl) (by rfl) (c_body wz hm ha B H1 kb f dx depth b pv .nilSlice z pp tp emp E₀ _ [] [] false ⟨hS1.pick [0,1,2,3,4,5] (by decide) (by simp),hc⟩ hz (hsmG 0) (hb (.inl hverb)) hd (by decide) (by rfl) (by rw[hb0];decide) hT) fun x7q3 h7q3 hx7q3=>?_;simp+decide only[qR];change Awp _ _ _ _ _ _ _;refine qV ?_;try simp only[Xz]
    refine Qk (qC) ?_;exact⟨_,Vk _,hx7q3⟩
  ·try simp only[qG]at hb2
   have hcond:¬(q0.1.toks.length=0\/(q0.1.toks.length=1/\qbt b qas=true/\qbt b qaP=false)):=by
    intro h;obtain⟨a,c⟩:=hb2;rcases h with h|⟨h1,h2,h3⟩
    ·exact a (by omega)
    ·rcases c with(c|c)|c
     ·exact c (by omega)
     ·rw[h2]at c;cases c
     ·rw[h3]at c;cases c
   rw[if_neg hcond]at hT|-
   refine qE ?_;change Awp _ _ _ _ _ _ _;refine qV ?_;try simp only[Xz]
   refine Qk (qC) ?_;exact⟨_,Vk _, .nilSlice,emp,E₀,hS1.pick [0,1,2,3,4,5] (by decide) (by simp),hc⟩
 ·try simp only[qG]at hb1
  have hverb:b.cur.verb≠XY:=hb1;rw[qbk _ _ _ _ _ _ hverb]at hT|-
  obtain⟨nb,hnb⟩:∃nb,nb=Ue b.cur.verb:=⟨_,rfl⟩
  have hnb':((decide (b.cur.verb=[73,70])||decide (b.cur.verb=[69,86,65,76,85,65,84,69]))||decide (b.cur.verb=[83,69,65,82,67,72]))=nb:=by rw[hnb,E5];rfl
  obtain⟨N,hN⟩:∃N,N=qaI x b.cur.verb:=⟨_,rfl⟩
  have hN4:N<=4:=by rw[hN];exact Nat.min_le_left _ _
  have hNi:∀i:Nat,i<N↔(i<4/\(i<qs.length\/(nb=true/\i=0))):=fun i=>by
   rw[hN,qaI,<-hnb,hpl];split<;>rename_i hq<;>simp only[hq]<;>simp<;>omega
  rw[<-hN]at hT|-
  obtain⟨R,hR⟩:∃R,R=((KP N).foldl (Qn (Qi f) x forms depth last) (b,[])).1:=⟨_,rfl⟩
  rw[<-hR]at hT|-
  have hbl0:=hc.bv_len;refine qE ?_;change Awp _ _ _ _ _ _ _;refine awp_rseq [1,2,3,4,5,12] (by rfl) fun K hK=>?_;simp+decide only[qJ,↓qa];apply hK;clear hK K;refine awp_rseq [1,2,3,4,5,12,13] (by rfl) fun K hK=>?_;simp+decide only[Xh,Yv,Zn,Qe,XF,YS,Qb,Wi,Xg,Xk,ZF,Yw,↓qc,↓Qg,↓qg,WR,qcS,↓qj,qd ag9,↓qf,↓Xc,qY,qZ,qW,↓qdt,cv_nil,cp_nil,↓QR,↓XP,↓QI,↓QE,↓qa,Ql eb_b,Nat.reduceAdd,hnb'];apply hK;clear hK K;refine awp_rseq [1,2,3,4,5,12,13,14] (by rfl) fun K hK=>?_;simp+decide only[qJ,↓qa];apply hK;clear hK K;refine qK ?_;refine QD [1,2,3,4,5,12,13,14] (fun g:BdG=>[(1, .ptr (.own kb) 0),(2,fv),(3, .int .i64 depth),(4, .bool last),(5, .ptr (.own k0q0) 0),(12, .str g.seen),(13, .bool nb),(14, .int .i64 g.i)]) (fun g:BdG=>g.H) (fun g:BdG=>AM.Sep [B,one kb (buB g.b.text g.b.cur pv g.bv),pp,tp,g.bp,g.E,one k0q0 X] g.H/\CurS wz f g.b.cur pv g.bv pp tp g.bp g.E/\g.i<=N/\R=(((KP N).drop g.i).foldl (Qn (Qi f) x forms depth last) (g.b,g.seen)).1/\g.b.cur.bodies.length<=g.i/\g.seen.length<=300000*g.i/\g.b.cur.verb=b.cur.verb) (fun g:BdG=>N-g.i) ⟨0,b,[], .nilSlice,emp,E₀,H1⟩ (by rfl) (Vk _) ⟨hS1,hc,Js _,hR,by rw[hb0];exact KL _,KL _,rfl⟩ ?_;rintro⟨i,b,seen,bv,bp,E,H⟩ ⟨hS,hc,hiN,hg,hbn,hsn,hvb⟩;simp only at hS hc hiN hg hbn hsn hvb|-
  have hs_H:AM.Sub B H:=hS.in_ (i:=0) rfl;have eb_b:=hS.at_ (i:=1) rfl;have eb_0q0:H k0q0=some ⟨[.int .u8 x.verb.toNat,xp,xb, .bool x.cut],0⟩:=by rw[<-hX];exact hS.at_ (i:=6) rfl
  refine qo ?_;refine awp_rseq [1,2,3,4,5,12,13,14,100] (by rfl) fun K hK=>?_;simp+decide only[QH,Zn,Ya,qF,Yh,Zf,Zz,Xk,Zm,Yw,qbS,qbR,↓qc,↓qf,↓Xc,qY,qZ,qW,↓QR,qeF,↓XP,qd qpv,↓qcW,qho,qhp,↓QI,↓qaA,↓QE,Ql eb_0q0,hzl,nz];apply hK;clear hK K;refine qz (b:=_) rfl (fun hb4=>?_) (fun hb4=>?_)
  ·try simp only[qG]at hb4
   have hiN1:i<N:=(hNi i).2 ⟨by omega,by
    rcases hb4.2 with h|⟨h,h2⟩
    ·exact .inl (by omega)
    ·exact .inr ⟨h,by omega⟩⟩
   rw[qev hiN1,EP]at hg;refine qE ?_;change Awp _ _ _ _ _ _ _;refine qo ?_;refine qK ?_;refine awp_rseq [1,2,3,4,5,12,13,14,15] (by rfl) fun K hK=>?_;refine Qz ze37 (cs:=[.int .u8 0, .nilSlice, .nilSlice, .int .u8 0]) (by rfl) fun k13q0 hk13q0=>?_;have hn_13q0:H k13q0=none:=by first|assumption|(simp only[Bi]at hk13q0;simp only[hk13q0])
   have hf_13q0:B k13q0=none:=Bj hs_H hn_13q0;have ne_13q0_b:k13q0≠kb:=Bl hn_13q0 eb_b;have ne_13q0_0q0:k13q0≠k0q0:=Bl hn_13q0 eb_0q0;simp+decide only[qR];apply hK;clear hK K;refine qo ?_;have ne_13q0_b:k13q0≠kb:=Bl hn_13q0 eb_b;have ne_13q0_0q0:k13q0≠k0q0:=Bl hn_13q0 eb_0q0;refine awp_rseq [1,2,3,4,5,12,13,14,15,107] (by rfl) fun K hK=>?_;simp+decide only[Yz,qF,Qm,Zz,↓qc,↓qg,qeF,↓qj,qd qpv,↓Qr,↓qf,ne_13q0_0q0.symm,Ql eb_0q0,hzl,nz];apply hK;clear hK K;refine YE [1,2,3,4,5,12,13,14,15] (fun g:ZG=>[(1, .ptr (.own kb) 0),(2,fv),(3, .int .i64 depth),(4, .bool last),(5, .ptr (.own k0q0) 0),(12, .str seen),(13, .bool nb),(14, .int .i64 i),(15, .ptr (.own k13q0) 0)]) (fun g:ZG=>H.set k13q0 ⟨[.int .u8 g.z.1.toNat,g.zo,g.zl, .int .u8 g.z.2.2.2.toNat],0⟩) (fun g:ZG=>g.z=x.b.getD i noZ/\IsL wz B 1 g.zo (g.z.2.1.map u8C)/\XsV wz dx B g.zl g.z.2.2.1) ?_ ?_
   ·refine qz (b:=_) rfl (fun hb5=>?_) (fun hb5=>?_)
    ·try simp only[qG]at hb5
     have hi1:i<qs.length:=by omega
     obtain⟨lc,o,cc,hpe3⟩:=hqL.open (fun e=>by rw[V5]at e;rw[e]at hi1;cases hi1);have hq2:=(hqL.mono hs_H).mono (Vl (b:=⟨[.int .u8 0, .nilSlice, .nilSlice, .int .u8 0],0⟩) hn_13q0);rw[hpe3]at hq2;obtain⟨g0,g1,g2,g3⟩:=z_at hq2 hi1;obtain⟨q,hqq⟩:∃q,q=qs.getD i qry:=⟨_,rfl⟩
     rw[<-hqq]at g0 g1 g2 g3;have hqm:q∈qs:=by rw[hqq,Ko,JD hi1];exact VY hi1
     obtain⟨hqo1,hqv⟩:=hqo q hqm;have hqol:=hqo1.live;have hqos:=hqo1.scal;have hqoc:=hqo1.cells;obtain⟨hqvl,hqvs,hqvc⟩:=hqv.shape;have hib:(0<=(i:Int)/\(i:Int)<(qs.length:Int))=True:=eq_true ⟨by omega,by omega⟩;have hx0:x.b.getD i noZ=q.1:=by rw[hqe,hqq,Ko,Ko,V6,JD hi1];rfl
     refine QK [1,2,3,4,5,12,13,14,15] (by rfl) ?_;simp+decide only[ZU,QN,Jp,↓qg,qeF,↓qj,qd qpv,↓qc,↓qI,qh Tryz.underlying29 sz37,Qa ag37 sz37,ne_13q0_0q0.symm,Ql eb_0q0,hpe3,g0,g1,g2,g3,hqol,hqvl,hib];refine qN (by rfl) (by rfl) zqA sz37 (by rfl) (by rfl) zqD (Js _) (by first|rfl|(simp+decide only[ZJ,Qu,WU,hqos,hqvs])) ?_;simp only[QZ,Bn];simp+decide only[qR,QN,Jp,Nat.reduceAdd];try simp only[QT]
     first
     |exact⟨⟨q.1,q.2.1,q.2.2⟩,by first|rfl|(rw[hpe3];rfl),Vk _,hx0.symm,hqo1,hqv⟩
     |exact⟨⟨noZ, .nilSlice, .nilSlice⟩,rfl,Vk _,hxn.symm, .nil,qkA⟩
    ·try simp only[qG]at hb5
     have hxn:x.b.getD i noZ=noZ:=by rw[Ko,List.getElem?_eq_none (by omega)];rfl
     refine qE ?_;try simp only[QT]
     first
     |exact⟨⟨q.1,q.2.1,q.2.2⟩,by first|rfl|(rw[hpe3];rfl),Vk _,hx0.symm,hqo1,hqv⟩
     |exact⟨⟨noZ, .nilSlice, .nilSlice⟩,rfl,Vk _,hxn.symm, .nil,qkA⟩
   ·rintro⟨z,zo,zl⟩ ⟨hz,hzo,hzl⟩
    simp only at hz hzo hzl|-
    obtain⟨ZB,hZB⟩:∃ZB:Blk,ZB=⟨[.int .u8 z.1.toNat,zo,zl, .int .u8 z.2.2.2.toNat],0⟩:=⟨_,rfl⟩
    have hS5:=Ec hS hn_13q0 ZB;simp only[Xv]at hS5;obtain⟨H5,hH5⟩:∃H5,H5=H.set k13q0 ZB:=⟨_,rfl⟩
    rw[<-hH5]at hS5;refine BO (h':=H5) (by rw[hH5,hZB];exact Vk _) ?_;have hs_H5:AM.Sub B H5:=hS5.in_ (i:=0) rfl;have eb_b:=hS5.at_ (i:=1) rfl;have eb_0q0:H5 k0q0=some ⟨[.int .u8 x.verb.toNat,xp,xb, .bool x.cut],0⟩:=by rw[<-hX];exact hS5.at_ (i:=6) rfl
    have eb_13q0:H5 k13q0=some ⟨[.int .u8 z.1.toNat,zo,zl, .int .u8 z.2.2.2.toNat],0⟩:=by rw[<-hZB];exact hS5.at_ (i:=7) rfl
    have hb8:z.1.toNat<256:=z.1.toNat_lt;skip;refine awp_rseq [1,2,3,4,5,12,13,14,15,16] (by rfl) fun K hK=>?_;simp+decide only[qJ,↓qa];apply hK;clear hK K;refine qo ?_;refine awp_rseq [1,2,3,4,5,12,13,14,15,16,115] (by rfl) fun K hK=>?_;simp+decide only[QH,qO,Qm,WL,↓qc,↓Qr,↓qf,nf];apply hK;clear hK K;refine YE [1,2,3,4,5,12,13,14,15,16] (fun z2:Str=>[(1, .ptr (.own kb) 0),(2,fv),(3, .int .i64 depth),(4, .bool last),(5, .ptr (.own k0q0) 0),(12, .str seen),(13, .bool nb),(14, .int .i64 i),(15, .ptr (.own k13q0) 0),(16, .str z2)]) (fun z2:Str=>H5) (fun z2:Str=>z2=(if forms=[]then[]else forms.getD (z.1.toNat%forms.length) [])) ?_ ?_
    ·refine qz (b:=_) rfl (fun hb6=>?_) (fun hb6=>?_)
     ·try simp only[qG]at hb6
      have hf1:0<forms.length:=by omega
      have hfne:forms≠[]:=Bv.1 hf1;have hfn:=hFo.1;obtain⟨lf,of,cf,hfe⟩:=hF.open (fun e=>hfne (V5.1 e));obtain⟨m,hm8⟩:∃m,m=z.1.toNat%forms.length:=⟨_,rfl⟩
      have hml:m<forms.length:=by rw[hm8];exact Km _ hf1
      have hF2:=hF.mono hs_H5;rw[hfe]at hF2;have ef:=frm_at hF2 hml;have hwb:IntKind.i64.wrap (z.1.toNat:Int)=(z.1.toNat:Int):=wrap_i64 (by omega) (by omega);have hrem:EC (z.1.toNat:Int) (forms.length:Int)=(m:Int):=by rw[ED (by omega),hm8];exact(EE _ _).symm
      have hwm:IntKind.i64.wrap (m:Int)=(m:Int):=wrap_i64 (by omega) (by omega);have hmb:(0<=(m:Int)/\(m:Int)<(forms.length:Int))=True:=eq_true ⟨by omega,by omega⟩;refine QK [1,2,3,4,5,12,13,14,15,16] (by rfl) ?_;simp+decide only[Yz,QN,qF,Qm,Jp,qfn,↓qc,↓qg,fa37_0,↓qj,qd ag5,↓qbG _ _ _ (qjy Tryz.underlying5 Tryz.underlying3),UO,qcz Tryz.underlying5 Tryz.underlying3,↓Qr,Xp Tryz.underlying22,↓qf,Ql eb_13q0,hfe,hwb,hrem];try simp+decide only[qJ,Xa,QN,Jp,Bo,↓qI,qh Tryz.underlying22 sz9,↓qj,qd ag9,↓qa,ef,hmb]
      repeat (with_reducible refine zqP ?_)
      try simp only[QT]
      first
      |exact⟨[],rfl,Vk _,by rw[if_pos hfe0]⟩
      |exact⟨forms.getD m [],by first|rfl|(rw[hfe];simp only[Jp];rfl),Vk _,by rw[if_neg hfne,hm8]⟩
     ·try simp only[qG]at hb6
      have hfe0:forms=[]:=Kg (by omega);refine qE ?_;try simp only[QT]
      first
      |exact⟨[],rfl,Vk _,by rw[if_pos hfe0]⟩
      |exact⟨forms.getD m [],by first|rfl|(rw[hfe];simp only[Jp];rfl),Vk _,by rw[if_neg hfne,hm8]⟩
    ·rintro z2 hz2
     refine qo ?_;skip;refine awp_rseq [1,2,3,4,5,12,13,14,15,16,129] (by rfl) fun K hK=>?_;simp+decide only[QH,Vz,Ya,XF,Zf,Xk,Zm,↓qc,↓Xc,qY,qZ,qW,↓QI,↓QE];apply hK;clear hK K;refine YE [1,2,3,4,5,12,13,14,15,16] (fun form:Str=>[(1, .ptr (.own kb) 0),(2,fv),(3, .int .i64 depth),(4, .bool last),(5, .ptr (.own k0q0) 0),(12, .str seen),(13, .bool nb),(14, .int .i64 i),(15, .ptr (.own k13q0) 0),(16, .str form)]) (fun form:Str=>H5) (fun form:Str=>form=XB b.cur.verb forms z i) ?_ ?_
     ·refine qz (b:=_) rfl (fun hb7=>?_) (fun hb7=>?_)
      ·try simp only[qG]at hb7
       have hfB:∀w,(if b.cur.verb=IFv then Wm else XW)=w->XB b.cur.verb forms z i=w:=fun w hw=>by
        unfold XB;rw[if_pos ⟨by rw[hvb,<-hnb];exact hb7.1,by omega⟩];exact hw
       refine awp_rseq [1,2,3,4,5,12,13,14,15,16] (by rfl) fun K hK=>?_;simp+decide only[qJ,↓qa];apply hK;clear hK K;refine awp_rseq [1,2,3,4,5,12,13,14,15,16,135] (by rfl) fun K hK=>?_;simp+decide only[XI,XD,Qb,Xg,ZF,↓qc,↓Qg,↓qg,WR,qcS,↓qj,qd ag9,↓qf,Ql eb_b,Nat.reduceAdd];apply hK;clear hK K;refine qz (b:=_) rfl (fun hb8=>?_) (fun hb8=>?_)
       ·try simp only[qG]at hb8
        refine QK [1,2,3,4,5,12,13,14,15,16] (by rfl) ?_;simp+decide only[qJ,↓qa];try simp only[QT]
        first
        |exact⟨z2,rfl,Vk _,hfB.symm⟩
        |exact⟨Wm,rfl,Vk _,(hfB _ (if_pos hb8)).symm⟩
        |exact⟨XW,rfl,Vk _,(hfB _ (if_neg hb8)).symm⟩
       ·try simp only[qG]at hb8
        refine qE ?_;try simp only[QT]
        first
        |exact⟨z2,rfl,Vk _,hfB.symm⟩
        |exact⟨Wm,rfl,Vk _,(hfB _ (if_pos hb8)).symm⟩
        |exact⟨XW,rfl,Vk _,(hfB _ (if_neg hb8)).symm⟩
      ·try simp only[qG]at hb7
       have hfB:XB b.cur.verb forms z i=z2:=by
        unfold XB;rw[if_neg (by rw[hvb,<-hnb];rintro⟨h1,h2⟩;rcases hb7 with c|c;rw[h1]at c;cases c;omega),hz2]
       refine qE ?_;try simp only[QT]
       first
       |exact⟨z2,rfl,Vk _,hfB.symm⟩
       |exact⟨Wm,rfl,Vk _,(hfB _ (if_pos hb8)).symm⟩
       |exact⟨XW,rfl,Vk _,(hfB _ (if_neg hb8)).symm⟩
     ·rintro form hform
      have hfo:form.length<=500/\asciiB form=true:=by
       rw[hform];unfold XB;split
       ·split
        ·exact⟨by decide,by decide⟩
        ·exact⟨by decide,by decide⟩
       ·split
        ·exact⟨by decide,rfl⟩
        ·rename_i hfne
         refine hFo.2 _ ?_;have hml:z.1.toNat%forms.length<forms.length:=Km _ (Bv.2 hfne);rw[Ko,JD hml];exact VY hml
      obtain⟨name,hname⟩:∃name,name=Xj form:=⟨_,rfl⟩
      have hnl:name.length<=251001:=by rw[hname];exact canonL_len hfo.1
      have hstep:Qn (Qi f) x forms depth last (b,seen) i=if UL seen form name=true then(b,seen)else(WP (Qi f) (YB b (qak form name z)) name (qbp name z) z.2.2.1 depth (last && (decide (i=3)||decide (x.b.length<=i+1))),seen++[59]++name++[59]):=by
       unfold Qn;simp only;rw[<-hz,<-hform,<-hname]
      rw[hstep]at hg;refine awp_rseq [1,2,3,4,5,12,13,14,15,16,17] (by rfl) fun K hK=>?_;simp+decide only[Qw,↓qc];refine qM (by rfl) (by rfl) (qmf wz ha _ form hfo.1 hfo.2) fun x23q1 h23q1 hx23q1=>?_;obtain⟨rfl,hs23⟩:=hx23q1;rw[<-hname];have hs_h23q1:Sub B h23q1:=Bt zqC hs23;have hr_h23q1:Sub H5 h23q1:=Bt zqC hs23;have eb_b:=hs23 kb _ zqA;have eb_0q0:=hs23 k0q0 _ zqA;have eb_13q0:=hs23 k13q0 _ zqA;simp+decide only[qJ,↓qa];apply hK;clear hK K;refine qo ?_;have hS6:=hS5.forget hs23;have hs_H6:AM.Sub B h23q1:=hS6.in_ (i:=0) rfl;have eb_b:=hS6.at_ (i:=1) rfl;have eb_0q0:h23q1 k0q0=some ⟨[.int .u8 x.verb.toNat,xp,xb, .bool x.cut],0⟩:=by rw[<-hX];exact hS6.at_ (i:=6) rfl
      have eb_13q0:h23q1 k13q0=some ⟨[.int .u8 z.1.toNat,zo,zl, .int .u8 z.2.2.2.toNat],0⟩:=by rw[<-hZB];exact hS6.at_ (i:=7) rfl
      have hwi:IntKind.i64.wrap ((i:Int)+1)=((i+1:Nat):Int):=by rw[wrap_i64 (by omega) (by omega)];omega
      refine awp_rseq [1,2,3,4,5,12,13,14,15,16,17,154] (by rfl) fun K hK=>?_;simp+decide only[XI,XU,qF,Xo,XF,qab,Jd,VA,XK,XJ,qmc,implies_true,Qb,agP,Us,Xk,ZF,YL,qan,↓qc,↓qf,↓Xc,qY,qZ,qW,↓QI];repeat (with_reducible refine zqP ?_)
      (refine Wj (V:= .bool (Lib.contains seen (qeY name))) (f:=_) (cap:=_) (xs:=_) (by first|rfl|(simp+decide only[ZZ,XT,XK,XJ])) (fun hg=>⟨rfl,?_⟩) (fun hg=>qaa wz hm _ seen _ (by omega)) ?_;· (simp+decide only[ZZ,V8,putD,XT,qaH]at hg;simp+decide only[Zo,absS,absV,Qe,XN,evs,JG,hg]<;>try rfl))
      simp+decide only[Qw,XU,Xo,XF,qab,Jd,VA,XK,XJ,qmc,implies_true,qar,Wi,qbS,qbR,↓qaA,qY,qZ,qW,↓QE,↓qc,↓Xc]
      (refine Wj (V:= .bool (Lib.contains seen (qeY qfK))) (f:=_) (cap:=_) (xs:=_) (by first|rfl|(simp+decide only[ZZ,XT,XK,XJ])) (fun hg=>⟨rfl,?_⟩) (fun hg=>qaa wz hm _ seen _ (by omega)) ?_;· (simp+decide only[ZZ,V8,putD,XT,qaH]at hg;simp+decide only[Zo,absS,absV,Qe,XN,evs,JG,hg]<;>try rfl))
      simp+decide only[qR,Xo,XT,qab,Jd,qar,qad,↓QE];apply hK;clear hK K;refine qz (b:=_) rfl (fun hb9=>?_) (fun hb9=>?_)
      ·try simp only[qG]at hb9
       have hsk:UL seen form name=true:=by
        unfold UL;simp only[Ky,decide_eq_true_eq,Jj,JJ,decide_eq_false_iff_not];rcases hb9 with(h|h)|h
        ·exact .inl h
        ·exact .inr (.inl h)
        ·exact .inr (.inr h)
       rw[if_pos hsk]at hg;refine QC ?_;change Awp _ _ _ _ _ _ _;refine QK [1,2,3,4,5,12,13,14] (by rfl) ?_;simp+decide only[YH,↓qc,↓qf,↓qa,hwi];try simp only[QT]
       first
       |exact⟨⟨i+1,b,seen,bv,bp,E,_⟩,rfl,Vk _,⟨hS6.pick [0,1,2,3,4,5,6] (by decide) (by simp),hc,hiN1,hg,by simp only;omega,by simp only;omega,hvb⟩,by simp only;omega⟩
       |exact⟨⟨i+1,b',seen++[59]++name++[59],bv2,bp2,E2,_⟩,rfl,Vk _,⟨hS11.pick [0,2,3,4,5,6,1] (by decide) (by simp),hc10,hiN1,hg,hbn2,by simp only[Zd];omega,hvb2.trans hvb⟩,by simp only;omega⟩
      ·try simp only[qG]at hb9
       have hsk:UL seen form name=false:=by
        unfold UL;simp only[decide_eq_true_eq,decide_eq_false_iff_not,VD,VE,VF];exact⟨hb9.1.1,hb9.1.2,hb9.2⟩
       rw[if_neg (by rw[hsk];decide)]at hg;have hbq:nb=true\/forms≠[]:=by
        by_cases hfq:forms=[]
        ·refine .inl ?_
         cases hnq:nb with
         |true=>rfl
         |false=>
          refine absurd ?_ hb9.1.1;rw[hform,XB,if_neg (by rw[hvb,<-hnb,hnq];exact fun e=>Bool.false_ne_true e.1),if_pos hfq]
        ·exact .inr hfq
       obtain⟨ops,hops⟩:∃ops,ops=qbp name z:=⟨_,rfl⟩
       obtain⟨hopl,hopa⟩:=qoz name z;rw[<-hops]at hopl hopa;obtain⟨tx,htx⟩:∃tx,tx=qak form name z:=⟨_,rfl⟩
       have htxl:=qnf hfo.1 name z;rw[<-htx]at htxl;rw[<-hops,<-htx]at hg;refine qE ?_;change Awp _ _ _ _ _ _ _;refine awp_rseq [1,2,3,4,5,12,13,14,15,16,17] (by rfl) fun K hK=>?_;simp+decide only[Xh,Yv,qF,Zd,Qb,XM,YL,↓qc,↓qf,↓qa];repeat (with_reducible refine zqP ?_)
       apply hK;clear hK K;refine awp_rseq [1,2,3,4,5,12,13,14,15,16,17,18] (by rfl) fun K hK=>?_;simp+decide only[qJ,↓qa];apply hK;clear hK K;refine qo ?_;refine awp_rseq [1,2,3,4,5,12,13,14,15,16,17,18,161] (by rfl) fun K hK=>?_;simp+decide only[XI,Qb,ZF,↓qc,↓qf];apply hK;clear hK K;refine YE [1,2,3,4,5,12,13,14,15,16,17,18] (fun g:StH=>[(1, .ptr (.own kb) 0),(2,fv),(3, .int .i64 depth),(4, .bool last),(5, .ptr (.own k0q0) 0),(12, .str (seen++[59]++name++[59])),(13, .bool nb),(14, .int .i64 i),(15, .ptr (.own k13q0) 0),(16, .str form),(17, .str name),(18, .str g.f)]) (fun g:StH=>g.H) (fun g:StH=>g.f=ops/\AM.Sub h23q1 g.H) ?_ ?_
       ·refine qz (b:=_) rfl (fun hb10=>?_) (fun hb10=>?_)
        ·try simp only[qG]at hb10
         have hzol:=hzo.live;have hwE:∀w,(if QY z.2.1=[]then[32,49]else QY z.2.1)=w->w=ops:=fun w hw=>by rw[hops,qbp,if_pos (show name=XW from hb10),hw]
         refine awp_rseq [1,2,3,4,5,12,13,14,15,16,17,18] (by rfl) fun K hK=>?_;simp+decide only[qR,XD,↓qg,fa37_1,↓qj,qd ag32,Ql eb_13q0,hzol];refine qM (by rfl) (by rfl) (qmd wz _ zo z.2.1 (hzo.mono hs_H6)) fun x28q2 h28q2 hx28q2=>?_;obtain⟨rfl,hs28⟩:=hx28q2;have hs_h28q2:Sub B h28q2:=Bt zqC hs28;have hr_h28q2:Sub h23q1 h28q2:=Bt zqC hs28;have eb_b:=hs28 kb _ zqA;have eb_0q0:=hs28 k0q0 _ zqA;have eb_13q0:=hs28 k13q0 _ zqA;simp+decide only[qJ,↓qa];apply hK;clear hK K;refine awp_rseq [1,2,3,4,5,12,13,14,15,16,17,18,166] (by rfl) fun K hK=>?_;simp+decide only[XI,Qb,ZF,↓qc,↓qf];apply hK;clear hK K;refine qz (b:=_) rfl (fun hb11=>?_) (fun hb11=>?_)
         ·try simp only[qG]at hb11
          refine QK [1,2,3,4,5,12,13,14,15,16,17,18] (by rfl) ?_;simp+decide only[qJ,↓qa];try simp only[QT]
          first
          |exact⟨⟨[32,49],_⟩,rfl,Vk _,hwE _ (if_pos hb11),hs28⟩
          |exact⟨⟨QY z.2.1,_⟩,rfl,Vk _,hwE _ (if_neg hb11),hs28⟩
          |exact⟨⟨[],_⟩,rfl,Vk _,ho0,Vk _⟩
         ·try simp only[qG]at hb11
          refine qE ?_;try simp only[QT]
          first
          |exact⟨⟨[32,49],_⟩,rfl,Vk _,hwE _ (if_pos hb11),hs28⟩
          |exact⟨⟨QY z.2.1,_⟩,rfl,Vk _,hwE _ (if_neg hb11),hs28⟩
          |exact⟨⟨[],_⟩,rfl,Vk _,ho0,Vk _⟩
        ·try simp only[qG]at hb10
         have ho0:([]:Str)=ops:=by rw[hops,qbp,if_neg (show ¬name=XW from fun e=>hb10 e)]
         refine qE ?_;try simp only[QT]
         first
         |exact⟨⟨[32,49],_⟩,rfl,Vk _,hwE _ (if_pos hb11),hs28⟩
         |exact⟨⟨QY z.2.1,_⟩,rfl,Vk _,hwE _ (if_neg hb11),hs28⟩
         |exact⟨⟨[],_⟩,rfl,Vk _,ho0,Vk _⟩
       ·rintro⟨o,H10⟩ ⟨ho,hs10⟩
        simp only at ho hs10|-
        subst ho;have hS7:=hS6.forget hs10;have hs_H10:AM.Sub B H10:=hS7.in_ (i:=0) rfl;have eb_b:=hS7.at_ (i:=1) rfl;have eb_0q0:H10 k0q0=some ⟨[.int .u8 x.verb.toNat,xp,xb, .bool x.cut],0⟩:=by rw[<-hX];exact hS7.at_ (i:=6) rfl
        have eb_13q0:H10 k13q0=some ⟨[.int .u8 z.1.toNat,zo,zl, .int .u8 z.2.2.2.toNat],0⟩:=by rw[<-hZB];exact hS7.at_ (i:=7) rfl
        skip;refine awp_rseq [1,2,3,4,5,12,13,14,15,17,18,19] (by rfl) fun K hK=>?_;simp+decide only[ZU,↓qc,↓qg,fa37_3,↓qj,qd ag5,Ql eb_13q0];refine qM (by rfl) (by rfl) (qph wz ha _ form z.2.2.2 true hfo.1 hfo.2) fun x31q3 h31q3 hx31q3=>?_;obtain⟨rfl,hs31⟩:=hx31q3;have hs_h31q3:Sub B h31q3:=Bt zqC hs31;have hr_h31q3:Sub H10 h31q3:=Bt zqC hs31;have eb_b:=hs31 kb _ zqA;have eb_0q0:=hs31 k0q0 _ zqA;have eb_13q0:=hs31 k13q0 _ zqA;simp+decide only[qJ,↓qa];apply hK;clear hK K;refine qo ?_;have hS8:=hS7.forget hs31;have hs_H11:AM.Sub B h31q3:=hS8.in_ (i:=0) rfl;have eb_b:=hS8.at_ (i:=1) rfl;have eb_0q0:h31q3 k0q0=some ⟨[.int .u8 x.verb.toNat,xp,xb, .bool x.cut],0⟩:=by rw[<-hX];exact hS8.at_ (i:=6) rfl
        have eb_13q0:h31q3 k13q0=some ⟨[.int .u8 z.1.toNat,zo,zl, .int .u8 z.2.2.2.toNat],0⟩:=by rw[<-hZB];exact hS8.at_ (i:=7) rfl
        have hz8:z.2.2.2.toNat<256:=z.2.2.2.toNat_lt;obtain⟨k2,hk2⟩:∃k2,k2=z.2.2.2.toNat%2:=⟨_,rfl⟩
        have hrem2:EC (z.2.2.2.toNat:Int) 2=(k2:Int):=by rw[ED (by omega),hk2];exact(EE _ 2).symm
        have hwu2:IntKind.u8.wrap (k2:Int)=(k2:Int):=wrap_u8 (by omega) (by omega);refine awp_rseq [1,2,3,4,5,12,13,14,15,17,18,19,178] (by rfl) fun K hK=>?_;simp+decide only[QH,Zn,Ya,XF,YS,Qb,Wi,Xk,ZF,Zm,Yw,qfn,↓qc,↓qf,↓QR,fa37_3,qY,qZ,qW,↓XP,qd ag5,↓QI,↓QE,Ql eb_13q0,hrem2];apply hK;clear hK K;refine YE [1,2,3,4,5,12,13,14,15,17,18,19] (fun t:Str=>[(1, .ptr (.own kb) 0),(2,fv),(3, .int .i64 depth),(4, .bool last),(5, .ptr (.own k0q0) 0),(12, .str (seen++[59]++name++[59])),(13, .bool nb),(14, .int .i64 i),(15, .ptr (.own k13q0) 0),(17, .str name),(18, .str o),(19, .str t)]) (fun t:Str=>h31q3) (fun t:Str=>t=tx) ?_ ?_
        ·refine qz (b:=_) rfl (fun hb12=>?_) (fun hb12=>?_)
         ·try simp only[qG]at hb12
          have htE:([]:Str)=tx:=by rw[htx,qak,if_pos (show name=Wm/\z.2.2.2.toNat%2=1 from⟨hb12.1,by omega⟩)]
          refine QK [1,2,3,4,5,12,13,14,15,17,18,19] (by rfl) ?_;simp+decide only[qJ,↓qa];try simp only[QT]
          exact⟨_,rfl,Vk _,htE⟩
         ·try simp only[qG]at hb12
          have htE:Zl form z.2.2.2 true=tx:=by
           rw[htx,qak,if_neg];rintro⟨h1,h2⟩;rcases hb12 with c|c
           ·exact c h1
           ·omega
          refine qE ?_;try simp only[QT]
          exact⟨_,rfl,Vk _,htE⟩
        ·rintro t rfl
         obtain⟨lb,hlb⟩:∃lb,lb=(last && (decide (i=3)||decide (x.b.length<=i+1))):=⟨_,rfl⟩
         rw[<-hlb]at hg;obtain⟨b',hb'⟩:∃b',b'=WP (Qi f) (YB b t) name o z.2.2.1 depth lb:=⟨_,rfl⟩
         rw[<-hb']at hg;have hpre:b'.text<+:R.text:=by rw[hg];exact qje _ _ _ _ _ _ (b',_)
         have hlen:=hpre.length_le;have hpre2:b.text++[32]++t<+:b'.text:=by rw[hb'];exact qlt _ (YB b t) _ _ _ _ _
         have hlen2:=hpre2.length_le;simp only[Zd]at hlen2;have hS8a:AM.Sep ([B,pp,tp,bp,E,one k0q0 X,one k13q0 ZB]++[one kb (buB b.text b.cur pv bv)]) h31q3:=hS8.pick [0,2,3,4,5,6,7,1] (by decide) (by simp);have hS8b:=hS8a.fold;refine awp_rseq [1,2,3,4,5,12,13,14,15,17,18] (by rfl) fun K hK=>?_;simp+decide only[Qw,↓qc];refine qM (by rfl) (by rfl) (qpi wz (YY [B,pp,tp,bp,E,one k0q0 X,one k13q0 ZB]) h31q3 kb b.text t b.cur pv bv hS8b (by omega) (by omega)) fun x34q2 h34q2 hx34q2=>?_;have hS9:=EN hS8a.left hx34q2;simp only[Xv]at hS9;have hs_H12:AM.Sub B h34q2:=hS9.in_ (i:=0) rfl;simp+decide only[qR];apply hK;clear hK K;have eb_b:=hS9.at_ (i:=7) rfl;have eb_0q0:h34q2 k0q0=some ⟨[.int .u8 x.verb.toNat,xp,xb, .bool x.cut],0⟩:=by rw[<-hX];exact hS9.at_ (i:=5) rfl
         have eb_13q0:h34q2 k13q0=some ⟨[.int .u8 z.1.toNat,zo,zl, .int .u8 z.2.2.2.toNat],0⟩:=by rw[<-hZB];exact hS9.at_ (i:=6) rfl
         have hzll:=hzl.shape.1;have hwl:IntKind.i64.wrap ((qs.length:Int)-1)=(qs.length:Int)-1:=wrap_i64 (by omega) (by omega);have hS9c:AM.Sep ([B,one k0q0 X]++[one kb (buB (b.text++[32]++t) b.cur pv bv),pp,tp,bp,E]) h34q2:=hS9.pick [0,5,7,1,2,3,4] (by decide) (by simp);have hS9d:=hS9c.fold;have hBu2:=Xl (ps:=[B,one k0q0 X]) (hS9.pick [0,5] (by decide) (by simp)).2;have hlbI:(last && (decide ((i:Int)=3)||decide ((qs.length:Int)-1<=(i:Int))))=lb:=by
          have h1:decide ((i:Int)=3)=decide (i=3):=by rw[decide_eq_decide];omega
          have h2:decide ((qs.length:Int)-1<=(i:Int))=decide (qs.length<=i+1):=by rw[decide_eq_decide];omega
          rw[hlb,hpl,h1,h2]
         refine QK [1,2,3,4,5,12,13,14] (by rfl) ?_;simp+decide only[QH,Zn,Ya,qF,Yh,Zf,Xk,Zm,Yw,UC,qbS,qbR,↓qc,↓qg,fa37_2,↓qj,qd ag35,↓Xc,qY,qZ,qW,↓QI,↓QR,qeF,↓XP,qd qpv,↓qcW,qho,qhp,qow,↓qaA,↓QE,Ql eb_0q0,Ql eb_13q0,nz,hzll,hwl,hlbI];repeat (with_reducible refine zqP ?_)
         refine qM (by rfl) (by rfl) (c_body wz hm ha (YY [B,one k0q0 X]) h34q2 kb f dx depth (YB b t) pv bv zl pp tp bp E z.2.2.1 name o lb ⟨hS9d,hc⟩ (hzl.mono (hBu2 B (by simp))) (by rw[hz];exact hsmG i) (hb (.inr (by rw[<-hnb];exact hbq))) hd hopl hopa (by show b.cur.bodies.length<=10;omega) (by rw[<-hb'];omega)) fun x35q19 h35q19 hx35q19=>?_;rw[<-hb']at hx35q19;obtain⟨bv2,bp2,E2,hS10,hc10⟩:=hx35q19;have hS11:=EN hS9c.left hS10;simp only[Xv]at hS11;have hs_35:AM.Sub B h35q19:=hS11.in_ (i:=0) rfl;have hbn2:b'.cur.bodies.length<=i+1:=by rw[hb'];show(b.cur.bodies++[_]).length<=i+1;rw[Jd,JH];omega
         have hvb2:b'.cur.verb=(b).cur.verb:=by rw[hb'];rfl
         simp+decide only[qR];change Awp _ _ _ _ _ _ _;refine QK [1,2,3,4,5,12,13,14] (by rfl) ?_;simp+decide only[YH,↓qc,↓qf,↓qa,hwi];try simp only[QT]
         first
         |exact⟨⟨i+1,b,seen,bv,bp,E,_⟩,rfl,Vk _,⟨hS6.pick [0,1,2,3,4,5,6] (by decide) (by simp),hc,hiN1,hg,by simp only;omega,by simp only;omega,hvb⟩,by simp only;omega⟩
         |exact⟨⟨i+1,b',seen++[59]++name++[59],bv2,bp2,E2,_⟩,rfl,Vk _,⟨hS11.pick [0,2,3,4,5,6,1] (by decide) (by simp),hc10,hiN1,hg,hbn2,by simp only[Zd];omega,hvb2.trans hvb⟩,by simp only;omega⟩
  ·try simp only[qG]at hb4
   have hiNe:i=N:=by
    have:¬i<N:=by
     rw[hNi];rintro⟨h1,h2⟩;rcases hb4 with z|⟨z1,z2⟩
     ·omega
     ·rcases h2 with h2|⟨h2,h3⟩
      ·omega
      ·rcases z2 with z2|z2
       ·rw[h2]at z2;cases z2
       ·omega
    omega
   have hRb:R=b:=by
    rw[hg,hiNe,List.drop_of_length_le (by rw[ES];exact KL _)];rfl
   refine QC ?_;try simp only[QT,qla,qgL]
   refine qaK (qC) ?_;exact⟨_,Vk _,bv,bp,E,by rw[hRb];exact⟨hS.pick [0,1,2,3,4,5] (by decide) (by simp),hc⟩⟩
end Go.Proofs.YtgiadjbiimkbiaaGreatDoor
namespace Go.Stm
open Go.Col (Str)
open Go.Tok
open Go.Proofs.YtgiadjbiimkbiaaGreatDoor (asciiB qgy)
set_option maxRecDepth 100000
def qoK(s:Str):Bool:=decide ((Qc s).length<=1000) && (Qc s).all fun f=>decide (f.length<=500) && asciiB f
def rowB(k:Nat):Bool:=let r:=Xd 58 [] (rowsT.getD k []);decide (r.length=3) && (decide ((r.getD 0 []).length<=20) && (decide ((r.getD 1 []).length<=500) && (decide ((r.getD 2 []).length<=500) && (qoK (r.getD 1 []) && (qoK (r.getD 2 []) && (asciiB (r.getD 0 []) && decide ((rowsT.getD k []).length<=500)))))))
theorem rows_B:((KP 39).all rowB)=true:=by decide+kernel
theorem qrM{s:Str}(h:qoK s=true):qgy (Qc s):=by
 simp only[Wy,JB,qoK]at h;exact⟨h.1,fun f hf=>h.2 f hf⟩
theorem qno{k:Nat}(hk:k<39):∃a b c,Xd 58 [] (rowsT.getD k [])=[a,b,c]/\a.length<=20/\b.length<=500/\c.length<=500/\qgy (Qc b)/\qgy (Qc c)/\asciiB a=true/\(rowsT.getD k []).length<=500:=by
 have h:=JB.1 rows_B k (JC.2 hk);unfold rowB at h;generalize Xd 58 [] (rowsT.getD k [])=r at h|-
 simp only[Wy]at h;obtain⟨h1,h2,h3,h4,h5,h6,h7,h8⟩:=h;match r,h1 with
 |[a,b,c],_=>exact⟨a,b,c,rfl,h2,h3,h4,qrM h5,qrM h6,h7,h8⟩
def MOVEv:Str:=[77,79,86,69]
theorem row_21:Xd 58 [] (rowsT.getD 21 [])=[MOVEv,TOw,[]]:=by decide+kernel
theorem qor(forms:List Str)(b:BuC)(y:YC):(QJ forms b y).cur.verb=b.cur.verb/\(QJ forms b y).cur.bodies=b.cur.bodies/\(QJ forms b y).cur.line=b.cur.line/\(QJ forms b y).cur.col=b.cur.col:=by
 unfold QJ;simp only;split<;>exact⟨rfl,rfl,rfl,rfl⟩
theorem qhW(forms:List Str):∀(l:List YC) (b:BuC),(l.foldl (QJ forms) b).cur.verb=b.cur.verb/\(l.foldl (QJ forms) b).cur.bodies=b.cur.bodies/\(l.foldl (QJ forms) b).cur.line=b.cur.line/\(l.foldl (QJ forms) b).cur.col=b.cur.col
 |[],b=>⟨rfl,rfl,rfl,rfl⟩
 |y::l,b=>by
  obtain⟨a1,a2,a3,a4⟩:=qor forms b y;obtain⟨b1,b2,b3,b4⟩:=qhW forms l (QJ forms b y);exact⟨b1.trans a1,b2.trans a2,b3.trans a3,b4.trans a4⟩
theorem WK(x:XC)(b:BuC)(forms:List Str):(Xb x b forms).cur.verb=b.cur.verb/\(Xb x b forms).cur.bodies=b.cur.bodies/\(Xb x b forms).cur.line=b.cur.line/\(Xb x b forms).cur.col=b.cur.col:=by
 unfold Xb;simp only;split
 ·exact⟨rfl,rfl,rfl,rfl⟩
 ·obtain⟨b1,b2,b3,b4⟩:=qhW forms ((x.p.take 5).drop 1) {YB b (QV x b.cur.verb)with cur:={(YB b (QV x b.cur.verb)).cur with phrases:=[⟨[],Qh (QV x b.cur.verb)⟩]}}
  exact⟨b1,b2,b3,b4⟩
theorem qlw(b:BuC)(w:Str):b.text<+:(YB b w).text:=by
 show b.text<+:b.text++[32]++w
 rw[Jb];exact EG _ _
theorem qlu(B:List XC->Nat->Bool->Str×List StC)(x:XC)(b:BuC)(forms:List Str)(depth:Nat)(last:Bool):b.text<+:(XH B x b forms depth last).text:=by
 unfold XH;simp only;split
 ·split
  ·exact qlt _ _ _ _ _ _ _
  ·exact EH _
 ·exact qje B x forms depth last _ (b,[])
theorem qmM(B:List XC->Nat->Bool->Str×List StC)(x:XC)(forms:List Str)(depth:Nat)(last:Bool)(s:BuC×Str)(i:Nat):(Qn B x forms depth last s i).1.cur.verb=s.1.cur.verb/\(Qn B x forms depth last s i).1.cur.phrases=s.1.cur.phrases/\(Qn B x forms depth last s i).1.cur.line=s.1.cur.line/\(Qn B x forms depth last s i).1.cur.col=s.1.cur.col:=by
 unfold Qn;simp only;split<;>exact⟨rfl,rfl,rfl,rfl⟩
theorem qlh(B:List XC->Nat->Bool->Str×List StC)(x:XC)(forms:List Str)(depth:Nat)(last:Bool):∀(l:List Nat) (s:BuC×Str),(l.foldl (Qn B x forms depth last) s).1.cur.verb=s.1.cur.verb/\(l.foldl (Qn B x forms depth last) s).1.cur.phrases=s.1.cur.phrases/\(l.foldl (Qn B x forms depth last) s).1.cur.line=s.1.cur.line/\(l.foldl (Qn B x forms depth last) s).1.cur.col=s.1.cur.col
 |[],s=>⟨rfl,rfl,rfl,rfl⟩
 |i::l,s=>by
  obtain⟨a1,a2,a3,a4⟩:=qmM B x forms depth last s i;obtain⟨b1,b2,b3,b4⟩:=qlh B x forms depth last l (Qn B x forms depth last s i);exact⟨b1.trans a1,b2.trans a2,b3.trans a3,b4.trans a4⟩
theorem qeM(B:List XC->Nat->Bool->Str×List StC)(x:XC)(b:BuC)(forms:List Str)(depth:Nat)(last:Bool):(XH B x b forms depth last).cur.verb=b.cur.verb/\(XH B x b forms depth last).cur.phrases=b.cur.phrases/\(XH B x b forms depth last).cur.line=b.cur.line/\(XH B x b forms depth last).cur.col=b.cur.col:=by
 unfold XH;simp only;split
 ·split<;>exact⟨rfl,rfl,rfl,rfl⟩
 ·exact qlh _ _ _ _ _ _ _
theorem qsM(ops:List UInt8):(Qh (QY ops)).length<=17:=by
 have:=(Go.Proofs.YtgiadjbiimkbiaaGreatDoor.lawToks_16 (QY ops) (Go.Stm.wordsE_ok ops).1)
 exact this
theorem qjT(forms:List Str):∀(l:List YC) (b:BuC) (n m:Nat),b.cur.phrases.length<=n->(∀p∈b.cur.phrases,p.toks.length<=m)->b.cur.phrases≠[]->(l.foldl (QJ forms) b).cur.phrases.length<=n+l.length/\∀p∈(l.foldl (QJ forms) b).cur.phrases,p.toks.length<=m+17*l.length
 |[],b,n,m,h1,h2,_=>⟨h1,h2⟩
 |y::l,b,n,m,h1,h2,h3=>by
  have ht:=qsM y.ops;have hs:(QJ forms b y).cur.phrases.length<=n+1/\(∀p∈(QJ forms b y).cur.phrases,p.toks.length<=m+17)/\(QJ forms b y).cur.phrases≠[]:=by
   have hp:=Bv.2 h3;unfold QJ;simp only;split
   ·refine⟨?_,fun p hp=>?_,?_⟩
    ·simp only[ZT,qaj,E8]
     have e:(YB b (Zl (forms.getD (y.form.toNat%forms.length) []) y.short true++QY y.ops)).cur.phrases=b.cur.phrases:=rfl;rw[e];omega
    ·have e:(YB b (Zl (forms.getD (y.form.toNat%forms.length) []) y.short true++QY y.ops)).cur.phrases=b.cur.phrases:=rfl
     rw[e]at hp;simp only[qaj]at hp;rcases JX.1 hp with z|z
     ·have:=h2 p (E9 _ z);omega
     ·rw[V9.1 z]
      have:=h2 (b.cur.phrases.getLastD ⟨[],[]⟩) (by
       rw[BQ,Da h3];exact Db h3)
      simp only[Jd];omega
    ·simp[qaj]
   ·have e:(YB b (Zl (forms.getD (y.form.toNat%forms.length) []) y.short true++QY y.ops)).cur.phrases=b.cur.phrases:=rfl
    refine⟨by rw[e,Jd,JH];omega,fun p hp=>?_,by rw[e];simp⟩;rw[e]at hp;rcases JX.1 hp with z|z
    ·have:=h2 p z;omega
    ·rw[V9.1 z];simp only;omega
  obtain⟨a,c⟩:=qjT forms l (QJ forms b y) (n+1) (m+17) hs.1 hs.2.1 hs.2.2;rw[KZ];exact⟨by rw[EP];omega,fun p hp=>by have:=c p hp;omega⟩
theorem qnN(x:XC)(verb:Str):(QV x verb).length<=16:=by
 have h:(if x.p=[]then[]else QY (x.p.getD 0 noY).ops).length<=16:=by
  split
  ·exact Js _
  ·exact(wordsE_ok _).1
 unfold QV;simp only;by_cases hc:verb=IFv/\(if x.p=[]then[]else QY (x.p.getD 0 noY).ops)=[]
 ·rw[if_pos hc];exact(by decide:2<=16)
 ·rw[if_neg hc];exact h
theorem qop(x:XC)(b:BuC)(forms:List Str):(Xb x b forms).cur.phrases.length<=10/\∀p∈(Xb x b forms).cur.phrases,p.toks.length<=100:=by
 have h0:(Qh (QV x b.cur.verb)).length<=17:=Go.Proofs.YtgiadjbiimkbiaaGreatDoor.lawToks_16 _ (qnN x _);unfold Xb;simp only;split
 ·exact⟨by simp,fun p hp=>by rw[V9.1 hp];simp only;omega⟩
 ·have hl:((x.p.take 5).drop 1).length<=4:=by rw[K7,K6];omega
  obtain⟨a,c⟩:=qjT forms ((x.p.take 5).drop 1) {YB b (QV x b.cur.verb)with cur:={(YB b (QV x b.cur.verb)).cur with phrases:=[⟨[],Qh (QV x b.cur.verb)⟩]}} 1 17 (by simp) (fun p hp=>by rw[V9.1 hp];exact h0) (by simp);exact⟨Vg a (by omega),fun p hp=>Vg (c p hp) (by omega)⟩
end Go.Stm
namespace Go.Proofs.YtgiadjbiimkbiaaGreatDoor
open Go.AM
open Go.Proofs
open Go.Col (Str FaultC okF)
open Go.Tok (TokC)
open Go.Stm
open Go.RowKit (Below)
set_option maxRecDepth 100000
theorem qfV{B h:AHeap}{k:Nat}{X:Blk}(hs:AM.Sub B h)(hk:h k=some X):AM.Sub (B.set k X) h:=fun j c hj=>by
 by_cases e:j=k
 ·subst e
  rw[Vj]at hj;cases hj;exact hk
 ·rw[AHeap.set_ne _ _ e]at hj
  exact hs j c hj
theorem CurS.upN{wz:World}{f:Nat}{c:Cur}{pv:AVal}{pp tp E:AHeap}(hc:CurS wz 0 c pv .nilSlice pp tp emp E)(hb:c.bodies=[]):CurS wz f c pv .nilSlice pp tp emp E:=
 ⟨hc.ph,⟨[],by rw[hb];rfl, .nil,fun b hb=>by cases hb⟩⟩
set_option maxHeartbeats 16000000 in
theorem c_xbuild(wz:World)(hm:MaxL wz)(ha:Asp wz)(h:AHeap)(f dx depth:Nat)(x:XC)(xp xb:AVal)(end_ last:Bool)
 (hY:YsV wz h xp x.p) (hZ:ZsV wz (XsV wz dx h) h xb x.b) (hPl:x.p.length<=1000000) (hBl:x.b.length<=1000000) (hsm:∀z∈x.b,qcZ f z.2.2.1)
 (hb:depth<=4->qeV wz f dx (depth+1)) (hd:depth<=10) (hT:(QU (Qi f) x depth end_ last).text.length<=1000000000):
 ACall Tryz.prog wz 33 [.agg [.int .u8 x.verb.toNat,xp,xb, .bool x.cut], .int .i64 depth, .bool end_, .bool last] h
  (fun r h'=>∃pv bv pp tp bp E,r= .agg [.str (QU (Qi f) x depth end_ last).text, .str (QU (Qi f) x depth end_ last).cur.verb, .int .i64 (QU (Qi f) x depth end_ last).cur.line, .int .i64 (QU (Qi f) x depth end_ last).cur.col,pv,bv]/\CurS wz f (QU (Qi f) x depth end_ last).cur pv bv pp tp bp E/\AM.Sep [h,pp,tp,bp,E] h'):=by
 obtain⟨hyl,hys,hyc⟩:=hY.shape;obtain⟨hzl,hzs,hzc⟩:=hZ.shape;obtain⟨kx,hkx⟩:∃kx,kx=if 4<depth then 21 else x.verb.toNat%39:=⟨_,rfl⟩
 have hk39:kx<39:=by rw[hkx];split<;>omega
 obtain⟨r0,r1,r2,hrow,hr0,hr1,hr2,hF1,hF2,hr0a,hrl⟩:=qno hk39;obtain⟨b1,hb1E⟩:∃b1,b1=Xb x ⟨32::r0,⟨r0,0,0,[],[]⟩⟩ (Qc r1):=⟨_,rfl⟩
 obtain⟨b2,hb2E⟩:∃b2,b2=XH (Qi f) x b1 (Qc r2) depth last:=⟨_,rfl⟩
 have hxE:QU (Qi f) x depth end_ last=if QO b2 r0 x.cut end_ last=true then YB b2 (ENDw++r0)else b2:=by
  unfold QU rowOf;rw[<-hkx,hrow,hb2E,hb1E];rfl
 rw[hxE]at hT|-
 have hT2:b2.text.length<=1000000000:=by
  refine Vg ?_ hT;split
  ·exact(qlw _ _).length_le
  ·exact KL _
 have hpb:b1.text<+:b2.text:=by rw[hb2E];exact qlu _ _ _ _ _ _
 have hT1:b1.text.length<=1000000000:=Vg hpb.length_le hT2;obtain⟨v1,v2,v3,v4⟩:=WK x ⟨32::r0,⟨r0,0,0,[],[]⟩⟩ (Qc r1);rw[<-hb1E]at v1 v2 v3 v4;simp only at v1 v2 v3 v4;obtain⟨f1,f2⟩:=qop x ⟨32::r0,⟨r0,0,0,[],[]⟩⟩ (Qc r1);rw[<-hb1E]at f1 f2;obtain⟨u1,u2,u3,u4⟩:=qeM (Qi f) x b1 (Qc r2) depth last;rw[<-hb2E]at u1 u2 u3 u4;have hbO:b1.cur.verb=XY\/Ue b1.cur.verb=true\/Qc r2≠[]->qeV wz f dx (depth+1):=fun hz=>by
  by_cases h4:depth<=4
  ·exact hb h4
  ·exfalso
   rw[if_pos (by omega)]at hkx;rw[hkx,row_21]at hrow;simp only[and_true,List.cons.injEq]at hrow;rw[v1,<-hrow.1,<-hrow.2.2]at hz;rcases hz with hz|hz|hz
   ·exact absurd hz (by decide)
   ·exact absurd hz (by decide)
   ·exact hz rfl
 have hx8:x.verb.toNat<256:=x.verb.toNat_lt;have hwx:IntKind.i64.wrap (x.verb.toNat:Int)=(x.verb.toNat:Int):=wrap_i64 (by omega) (by omega);have hrem:EC (x.verb.toNat:Int) 39=((x.verb.toNat%39:Nat):Int):=by rw[ED (by omega)];exact(EE _ 39).symm
 have hwm:IntKind.i64.wrap ((x.verb.toNat%39:Nat):Int)=((x.verb.toNat%39:Nat):Int):=wrap_i64 (by omega) (by omega);refine qP (n:=98) (rs:=[.cell 8 103]) Tryz.func33 rfl rfl rfl rfl (V7 rfl) ?_;simp only[qU];refine awp_rseq [1,2,3,4,8] (by rfl) fun K hK=>?_;refine Ut (by rfl) (by rfl) (by rfl) fun k0q0 hk0q0=>?_;try have hf_0q0:h k0q0=none:=by first|assumption|(simp only[Bi]at hk0q0;simp only[hk0q0])
 skip;refine Qz ze103 (cs:=[.str [], .str [], .int .i64 0, .int .i64 0, .nilSlice, .nilSlice]) (by rfl) fun k0q1 hk0q1=>?_;have ne_0q1_0q0:k0q1≠k0q0:=by simp only[Bi]at hk0q1;simp only[Ua,hk0q1]
 try have hf_0q1:h k0q1=none:=by first|assumption|(simp only[Bi]at hk0q1;simp only[hk0q1])
 simp+decide only[qR,Nat.reduceAdd];apply hK;clear hK K;obtain⟨X,hX⟩:∃X:Blk,X=⟨[.int .u8 x.verb.toNat,xp,xb, .bool x.cut],0⟩:=⟨_,rfl⟩
 obtain⟨Z,hZ0⟩:∃Z:Blk,Z=⟨[.str [], .str [], .int .i64 0, .int .i64 0, .nilSlice, .nilSlice],0⟩:=⟨_,rfl⟩
 have hS1:=Ec (Ec (ps:=[h]) ⟨fun p hp=>by rw[V9.1 hp];exact Vk _,by simp⟩ hk0q0 X) (by rw[hX];exact hk0q1) Z;simp only[Xv]at hS1;obtain⟨H1,hH1⟩:∃H1,H1=(h.set k0q0 X).set k0q1 Z:=⟨_,rfl⟩
 rw[<-hH1]at hS1;refine BO (h':=H1) (by rw[hH1,hX,hZ0];exact Vk _) ?_;have hs_H1:AM.Sub h H1:=hS1.in_ (i:=0) rfl;have eb_0q0:H1 k0q0=some ⟨[.int .u8 x.verb.toNat,xp,xb, .bool x.cut],0⟩:=by rw[<-hX];exact hS1.at_ (i:=1) rfl
 refine awp_rseq [1,2,3,4,8,9] (by rfl) fun K hK=>?_;refine qM (by rfl) (by rfl) (c_rows wz _) fun x1q0 h1q0 hx1q0=>?_;obtain⟨kr,hkr,rfl,e1⟩:=hx1q0;have hS2:=Ec hS1 hkr ⟨rowsT.map AVal.str,0⟩;rw[<-e1]at hS2;simp only[Xv]at hS2;have hs_1:AM.Sub H1 h1q0:=by rw[e1];exact Vl hkr
 have hs_h1q0:Sub h h1q0:=Bt zqC hs_1;have hr_h1q0:Sub H1 h1q0:=Bt zqC hs_1;have eb_0q0:=hs_1 k0q0 _ zqA;simp+decide only[qJ,↓qa];apply hK;clear hK K;have eb_0q0:h1q0 k0q0=some ⟨[.int .u8 x.verb.toNat,xp,xb, .bool x.cut],0⟩:=by rw[<-hX];exact hS2.at_ (i:=1) rfl
 have eb_r:=hS2.at_ (i:=3) rfl;have hs_H2:AM.Sub h h1q0:=hS2.in_ (i:=0) rfl;refine awp_rseq [1,2,3,4,8,9,10] (by rfl) fun K hK=>?_;simp+decide only[ZY,XD,qF,Qm,qfn,↓qg,fa31_0,↓qj,qd ag5,↓qbG _ _ _ (qjy Tryz.underlying5 Tryz.underlying3),UO,qcz Tryz.underlying5 Tryz.underlying3,↓qc,↓Qr,Xp Tryz.underlying22,↓qf,↓qa,Ql eb_0q0,hwx];apply hK;clear hK K;refine qo ?_;refine awp_rseq [1,2,3,4,8,9,10,23] (by rfl) fun K hK=>?_;simp+decide only[QH,qO,WL,↓qc,↓qf];apply hK;clear hK K;refine YE [1,2,3,4,8,9,10] (fun k:Nat=>[(1, .int .i64 depth),(2, .bool end_),(3, .bool last),(4, .ptr (.own k0q0) 0),(8, .ptr (.own k0q1) 0),(9, .slice (.own kr) 0 39 (.exact 39)),(10, .int .i64 k)]) (fun k:Nat=>h1q0) (fun k:Nat=>k=kx) ?_ ?_
 ·refine qz (b:=_) rfl (fun hb1=>?_) (fun hb1=>?_)
  ·try simp only[qG]at hb1
   refine QK [1,2,3,4,8,9,10] (by rfl) ?_;simp+decide only[qJ,↓qa];try simp only[QT]
   first
   |exact⟨21,rfl,Vk _,by rw[hkx,if_pos (by omega)]⟩
   |exact⟨x.verb.toNat%39,rfl,Vk _,by rw[hkx,if_neg (by omega)]⟩
  ·try simp only[qG]at hb1
   refine qE ?_;try simp only[QT]
   first
   |exact⟨21,rfl,Vk _,by rw[hkx,if_pos (by omega)]⟩
   |exact⟨x.verb.toNat%39,rfl,Vk _,by rw[hkx,if_neg (by omega)]⟩
 ·rintro k rfl
  have hib:(0<=(k:Int)/\(k:Int)<((39:Nat):Int))=True:=eq_true ⟨by omega,by omega⟩;have hib2:(0<=(k:Int)/\(k:Int)<39)=True:=eq_true ⟨by omega,by omega⟩;have e5:rd wz h1q0 (.own kr) k= .str (rowsT.getD k []):=by
   rw[YG wz eb_r,Ko,Ko,V6,JD (show k<rowsT.length by rw[rowsT_len];exact hk39)];rfl
  refine awp_rseq [1,2,3,4,8,11] (by rfl) fun K hK=>?_;simp+decide only[Qw,Xa,Vw,Bo,↓qc,↓qI,qh Tryz.underlying22 sz9,↓qj,qd ag9,hib,e5];refine qM (by rfl) (by rfl) (qsk wz hm _ (rowsT.getD k []) 58 (by omega)) fun x5q4 h5q4 hx5q4=>?_;obtain⟨ks,hks,rfl,e6⟩:=hx5q4;rw[hrow]at e6|-
  have hS3:=Ec hS2 hks ⟨[r0,r1,r2].map AVal.str,0⟩;rw[<-e6]at hS3;simp only[Xv,XN]at hS3;have hs_2:AM.Sub h1q0 h5q4:=by rw[e6];exact Vl hks
  simp only[Jr,Xo,Nat.reduceAdd];have hs_h5q4:Sub h h5q4:=Bt zqC hs_2;have hr_h5q4:Sub h1q0 h5q4:=Bt zqC hs_2;have eb_0q0:=hs_2 k0q0 _ zqA;simp+decide only[qJ,Vw,↓qa];apply hK;clear hK K;have eb_0q0:h5q4 k0q0=some ⟨[.int .u8 x.verb.toNat,xp,xb, .bool x.cut],0⟩:=by rw[<-hX];exact hS3.at_ (i:=1) rfl
  have eb_s:=hS3.at_ (i:=4) rfl;have hs_H3:AM.Sub h h5q4:=hS3.in_ (i:=0) rfl;refine awp_rseq [1,2,3,4,8,11,12] (by rfl) fun K hK=>?_;simp+decide only[Xh,Xa,K9,↓qc,↓qI,qh Tryz.underlying22 sz9,↓qj,qd ag9,↓qa,Ql eb_s,Bz];apply hK;clear hK K;refine awp_rseq [1,2,3,4,8,11,12,13] (by rfl) fun K hK=>?_;simp+decide only[XI,qF,Xo,Qb,XN,YL,Yo,XO,Za,XZ,Xt,WO,Zw,evP,↓qc,↓qf,↓YJ,↓XL,bld82_0,bld103_0_1];repeat (with_reducible refine zqP ?_)
  refine Qz ze103 (cs:=[.str [], .str [], .int .i64 0, .int .i64 0, .nilSlice, .nilSlice]) (by rfl) fun k7q5 hk7q5=>?_;have hn_7q5:h5q4 k7q5=none:=by first|assumption|(simp only[Bi]at hk7q5;simp only[hk7q5])
  have hf_7q5:h k7q5=none:=Bj hs_h5q4 hn_7q5;have ne_7q5_0q0:k7q5≠k0q0:=Bl hn_7q5 eb_0q0;have ne_7q5_s:k7q5≠ks:=Bl hn_7q5 eb_s;refine qN (by rfl) (by rfl) zqA qng (by rfl) (by rfl) zqD (Js _) (by first|rfl|(simp+decide only[ZJ,Qu,hys,hzs,WU,ZM,qbM])) ?_;simp only[QZ,Bn];simp+decide only[qR,Xo,Nat.reduceAdd];apply hK;clear hK K;have hS4:=Ec hS3 hn_7q5 (buB (32::r0) ⟨r0,0,0,[],[]⟩ .nilSlice .nilSlice);simp only[Xv]at hS4;obtain⟨H4,hH4⟩:∃H4,H4=h5q4.set k7q5 (buB (32::r0) ⟨r0,0,0,[],[]⟩ .nilSlice .nilSlice):=⟨_,rfl⟩
  rw[<-hH4]at hS4;refine BO (h':=H4) (by rw[hH4];exact Vk _) ?_;have hs_H4:AM.Sub h H4:=hS4.in_ (i:=0) rfl;have eb_0q0:H4 k0q0=some ⟨[.int .u8 x.verb.toNat,xp,xb, .bool x.cut],0⟩:=by rw[<-hX];exact hS4.at_ (i:=1) rfl
  have eb_s:=hS4.at_ (i:=4) rfl;have tn1:Int.toNat 1=1:=rfl;have tn2:Int.toNat 2=2:=rfl;refine qht [0,1,2,3,4,5] [2,0,0,0,0,0] [none,none,none,none,none,some 4] 5 ((h.set k0q0 ⟨[.int .u8 x.verb.toNat,xp,xb, .bool x.cut],0⟩)) [1,2,3,4,8,11,12,13] mixed (by kernel_rfl) (by rfl) (qfV hs_H4 eb_0q0) fun K hK=>?_;simp only[Kz,KM,VZ,EQ,YV];simp+decide only[Qw,Xa,qcB,qcA,qbC,qca,Uu,↓qj,Qa ag31 qsW,↓qc,↓qI,qh Tryz.underlying22 sz9,qd ag9,Ql eb_s,Nat.reduceAdd,hyl,hzl,tn1,Nat.one_mul];refine qM (by rfl) (by rfl) (c_listL wz hm _ r1 (by omega)) fun x8q4 h8q4 hx8q4=>?_;obtain⟨p8,hg8,hSp8⟩:=hx8q4;have hS5:=EO hS4 hSp8;simp only[Xv]at hS5;have hs_8:AM.Sub H4 h8q4:=hSp8.in_ (i:=0) rfl;have hS5a:AM.Sep ([h,one k0q0 X,one k0q1 Z,one kr ⟨rowsT.map AVal.str,0⟩,one ks ⟨[.str r0, .str r1, .str r2],0⟩,p8]++[one k7q5 (buB (32::r0) ⟨r0,0,0,[],[]⟩ .nilSlice .nilSlice)]) h8q4:=hS5.pick [0,1,2,3,4,6,5] (by decide) (by simp);have hS5b:=hS5a.fold;have hsu:=Xl hS5a.left;have hs_h8q4:Sub h h8q4:=Bt zqC hs_8;have hr_h8q4:Sub H4 h8q4:=Bt zqC hs_8;have eb_0q0:=hs_8 k0q0 _ zqA;have eb_s:=hs_8 ks _ zqA;rw[Qt];refine And.intro (by first|exact Vk _|assumption|exact Vl (by assumption)) ?_;simp+decide only[qR];refine qM (by rfl) (by rfl) (c_phrases wz hm ha _ h8q4 k7q5 x xp xb _ (Qc r1) (32::r0) r0 hS5b (hY.mono (hsu h (by simp))) hzl hzs hzc (hg8.isL (hsu p8 (by simp))) hF1 hPl (by rw[<-hb1E];exact hT1)) fun x8q5 h8q5 hx8q5=>?_;obtain⟨pv,pp,tp,E,hBu⟩:=hx8q5;rw[<-hb1E]at hBu;have hS6:=EN hS5a.left hBu.sep;simp only[Xv]at hS6;have hs_8b:AM.Sub (h.set k0q0 ⟨[.int .u8 x.verb.toNat,xp,xb, .bool x.cut],0⟩) h8q5:=qfV (hS6.in_ (i:=0) rfl) (by rw[<-hX];exact hS6.at_ (i:=1) rfl);rw[Qt];refine And.intro (by first|exact Vk _|assumption|exact Vl (by assumption)) ?_;simp+decide only[qR];apply hK;clear hK K;have hs_H6:AM.Sub h h8q5:=hS6.in_ (i:=0) rfl;have eb_0q0:h8q5 k0q0=some ⟨[.int .u8 x.verb.toNat,xp,xb, .bool x.cut],0⟩:=by rw[<-hX];exact hS6.at_ (i:=1) rfl
  have eb_s:=hS6.at_ (i:=4) rfl;refine qht [0,1,2,3,5,6,4,7] [2,0,0,0,0,0,0,0] [none,none,none,none,none,none,none,some 6] 7 ((h.set k0q0 ⟨[.int .u8 x.verb.toNat,xp,xb, .bool x.cut],0⟩)) [2,3,4,8,12,13] mixed (by kernel_rfl) (by rfl) (qfV hs_H6 eb_0q0) fun K hK=>?_;simp only[Kz,KM,VZ,EQ,YV];simp+decide only[Qw,Xa,qcB,qcA,qbC,qca,Uu,↓qj,Qa ag31 qsW,↓qc,↓qI,qh Tryz.underlying22 sz9,qd ag9,Ql eb_s,Nat.reduceAdd,hyl,hzl,tn2];refine qM (by rfl) (by rfl) (c_listL wz hm _ r2 (by omega)) fun x9q4 h9q4 hx9q4=>?_;obtain⟨p9,hg9,hSp9⟩:=hx9q4;have hS7:=EO hS6 hSp9;simp only[Xv]at hS7;have hs_9:AM.Sub h8q5 h9q4:=hSp9.in_ (i:=0) rfl;have hS7a:AM.Sep ([h,one k0q0 X,one k0q1 Z,one kr ⟨rowsT.map AVal.str,0⟩,one ks ⟨[.str r0, .str r1, .str r2],0⟩,p8,p9]++[one k7q5 (buB b1.text b1.cur pv .nilSlice),pp,tp,emp,E]) h9q4:=hS7.pick [0,1,2,3,4,5,11,6,7,8,9,10] (by decide) (by simp);have hS7b:=hS7a.fold;have hsu9:=Xl hS7a.left;have hbe:b1.cur.bodies=[]:=v2;have hs_h9q4:Sub h h9q4:=Bt zqC hs_9;have hr_h9q4:Sub h8q5 h9q4:=Bt zqC hs_9;have eb_0q0:=hs_9 k0q0 _ zqA;have eb_s:=hs_9 ks _ zqA;rw[Qt];refine And.intro (by first|exact Vk _|assumption|exact Vl (by assumption)) ?_;simp+decide only[qR];refine qM (by rfl) (by rfl) (c_bodies wz hm ha _ h9q4 k7q5 f dx depth x b1 xp xb _ pv pp tp E (Qc r2) last ⟨hS7b,hBu.cur.upN hbe⟩ hbe hyl hys hyc (hZ.mono (hsu9 h (by simp)) fun _ _ hz=>hz.mono (hsu9 h (by simp))) hsm (hg9.isL (hsu9 p9 (by simp))) hF2 hbO hd hBl (Vg f1 (by decide)) (fun p hp=>Vg (f2 p hp) (by decide)) (by rw[<-hb2E];exact hT2)) fun x9q7 h9q7 hx9q7=>?_;obtain⟨bv,bp,E2,hBu2⟩:=hx9q7;rw[<-hb2E]at hBu2;have hS8:=EN hS7a.left hBu2.sep;simp only[Xv]at hS8;have hs_9b:AM.Sub (h.set k0q0 ⟨[.int .u8 x.verb.toNat,xp,xb, .bool x.cut],0⟩) h9q7:=qfV (hS8.in_ (i:=0) rfl) (by rw[<-hX];exact hS8.at_ (i:=1) rfl);rw[Qt];refine And.intro (by first|exact Vk _|assumption|exact Vl (by assumption)) ?_;simp+decide only[qR];apply hK;clear hK K;have hs_H8:AM.Sub h h9q7:=hS8.in_ (i:=0) rfl;have eb_0q0:h9q7 k0q0=some ⟨[.int .u8 x.verb.toNat,xp,xb, .bool x.cut],0⟩:=by rw[<-hX];exact hS8.at_ (i:=1) rfl
  have eb_7q5:=hS8.at_ (i:=7) rfl;obtain⟨hbvl,hbvs,hbvc,nb⟩:=hBu2.cur.bv_len;refine awp_rseq [2,3,4,8,12,13,14] (by rfl) fun K hK=>?_;simp+decide only[XI,qF,Zd,Qb,XM,YL,↓qc,↓qf];repeat (with_reducible refine zqP ?_)
  refine QM (V:= .bool (Lib.contains qgO ([32]++r0++[32]))) (by rfl) (by rfl) (qaa wz hm _ qgO _ (by decide)) ?_;simp+decide only[qJ,Zd,↓qa];apply hK;clear hK K;refine qo ?_;have hEN:(Lib.contains qgO (32::(r0++[32])) && (decide (0<(b2.cur.bodies.length:Int)) && (!last|| !x.cut||decide (r0=[80,69,82,70,79,82,77]))||decide ((b2.cur.bodies.length:Int)=0) && (!last && end_||x.cut)))=QO b2 r0 x.cut end_ last:=by
   have z1:decide ((b2.cur.bodies.length:Int)=0)=decide (b2.cur.bodies=[]):=by rw[decide_eq_decide,<-ET];omega
   have z2:decide (0<(b2.cur.bodies.length:Int))= !decide (b2.cur.bodies=[]):=by
    rw[<-z1];by_cases hq:(b2.cur.bodies.length:Int)=0
    ·rw[decide_eq_true hq,decide_eq_false (by omega)];rfl
    ·rw[decide_eq_false hq,decide_eq_true (by omega)];rfl
   unfold QO;rw[z1,z2,E5];rfl
  have hcE:(if QO b2 r0 x.cut end_ last=true then YB b2 (ENDw++r0)else b2).cur=b2.cur:=by split<;>rfl
  have hS8a:AM.Sep ([h,one k0q0 X,one k0q1 Z,one kr ⟨rowsT.map AVal.str,0⟩,one ks ⟨[.str r0, .str r1, .str r2],0⟩,p8,p9,pp,tp,bp,E2]++[one k7q5 (buB b2.text b2.cur pv bv)]) h9q7:=hS8.pick [0,1,2,3,4,5,6,8,9,10,11,7] (by decide) (by simp);have hS8b:=hS8a.fold;refine awp_rseq [8,12,13,93] (by kernel_rfl) fun K hK=>?_;try simp only[Xv]
  simp+decide only[QH,Zn,Ya,Yh,YS,Qb,Wi,Xk,ZF,Zm,Yw,WL,UB,Yc,qbS,qbR,qkk,qkj,↓qc,↓QR,WR,qY,qZ,qW,Wh,↓XP,qd qeb,↓qcW,qho,qhp,↓QI,↓Xc,↓qbl,fa31_3,qd ag4,↓qaA,↓QE,Ql eb_0q0,Ql eb_7q5,Nat.reduceAdd,hbvl,nb];apply hK;clear hK K;refine YE [8,13] (fun g:StH=>[(8, .ptr (.own k0q1) 0),(13, .ptr (.own k7q5) 0)]) (fun g:StH=>g.H) (fun g:StH=>g.f=(if QO b2 r0 x.cut end_ last=true then YB b2 (ENDw++r0)else b2).text/\AM.Sep [h,pp,tp,bp,E2,one k0q1 Z,one k7q5 (buB g.f b2.cur pv bv)] g.H) ?_ ?_
  ·refine qz (b:=_) rfl (fun hb2=>?_) (fun hb2=>?_)
   ·rw[hEN]at hb2
    all_goals
     refine QK [8,13] (by rfl) ?_;simp+decide only[XI,qF,Zd,Qb,YL,↓qc,↓qf,Nat.reduceAdd];repeat (with_reducible refine zqP ?_)
     refine qM (by rfl) (by rfl) (qpi wz _ h9q7 k7q5 b2.text (ENDw++r0) b2.cur pv bv hS8b hT2 (by rw[Jd,show ENDw.length=4 from rfl];omega)) fun x12q2 h12q2 hx12q2=>?_;have hS9:=EN hS8a.left hx12q2;simp only[Xv]at hS9;have hs_12:AM.Sub h h12q2:=hS9.in_ (i:=0) rfl;simp+decide only[qR,Zd];try simp only[QT]
     first
     |exact⟨⟨b2.text++[32]++(ENDw++r0),_⟩,rfl,Vk _,by rw[if_pos hb2];rfl,hS9.pick [0,7,8,9,10,2,11] (by decide) (by simp)⟩
     |exact⟨⟨b2.text,_⟩,rfl,Vk _,by rw[if_neg (by rw[hb2];decide)],hS8.pick [0,8,9,10,11,2,7] (by decide) (by simp)⟩
   ·rw[hEN]at hb2
    all_goals
     refine qE ?_;try simp only[QT]
     first
     |exact⟨⟨b2.text++[32]++(ENDw++r0),_⟩,rfl,Vk _,by rw[if_pos hb2];rfl,hS9.pick [0,7,8,9,10,2,11] (by decide) (by simp)⟩
     |exact⟨⟨b2.text,_⟩,rfl,Vk _,by rw[if_neg (by rw[hb2];decide)],hS8.pick [0,8,9,10,11,2,7] (by decide) (by simp)⟩
  ·rintro⟨t,H9⟩ ⟨ht,hS10⟩
   simp only at ht hS10|-
   have hs_H9:AM.Sub h H9:=hS10.in_ (i:=0) rfl;have eb_7q5:=hS10.at_ (i:=6) rfl;have eb_0q1:H9 k0q1=some ⟨[.str [], .str [], .int .i64 0, .int .i64 0, .nilSlice, .nilSlice],0⟩:=by rw[<-hZ0];exact hS10.at_ (i:=5) rfl
   have ne_7q5_0q1:k7q5≠k0q1:=hS10.ne (i:=6) (j:=5) rfl rfl (by decide);obtain⟨hpvl,hpvs,hpvc⟩:=hBu2.cur.pv_ok;skip;refine awp_rseq [8] (by rfl) fun K hK=>?_;simp+decide only[qR,Xa,↓qj,Qa ag103 qng,Ql eb_7q5,Nat.reduceAdd,hpvl,hbvl];refine qN (by rfl) (by rfl) zqA qng (by rfl) (by rfl) zqD (Js _) (by first|rfl|(simp+decide only[ZJ,Qu,WU,ZM,hpvs,hbvs])) ?_;simp only[QZ];simp+decide only[qR,Nat.reduceAdd];apply hK;clear hK K;refine qV ?_;refine Qk (?_) ?_
   ·simp+decide only[qeJ,ev,J8,and_true,true_and,ne_eq,not_false_eq_true,Qt,cellsAt,qeK,Vz,ZV,qaC,Wp,Qa ag103 qng,Nat.reduceAdd,Nat.reduceAdd,hpvl,hbvl]
   simp+decide only[Zg,ZV,qaC,qhc,Qa ag103 qng,Nat.reduceAdd,Nat.reduceAdd,hpvl,hbvl];have hS11:=hS10.put (i:=5) rfl (buB t b2.cur pv bv);simp only[XE]at hS11;rw[hcE,<-ht];exact⟨_,Vk _,pv,bv,pp,tp,bp,E2,rfl,hBu2.cur,hS11.pick [0,1,2,3,4] (by decide) (by simp)⟩
end Go.Proofs.YtgiadjbiimkbiaaGreatDoor
namespace Go.Stm
open Go.Col (Str)
open Go.Tok
set_option maxRecDepth 100000
def noX:XC:= .mk 0 [] [] false
theorem Um(B:List XC->Nat->Bool->Str×List StC)(l:List XC)(depth:Nat)(last:Bool)(n:Nat)(T:Str)(S:List StC)(h:S.length<l.length)(h4:S.length<4):
 Xw B l depth last (n+1) (T,S)=Xw B l depth last n (T++(QU B (l.getD S.length noX) depth (decide (S.length+1=l.length)||decide (S.length=3)) (last && (decide (S.length+1=l.length)||decide (S.length=3)))).text,
  S++[(QU B (l.getD S.length noX) depth (decide (S.length+1=l.length)||decide (S.length=3)) (last && (decide (S.length+1=l.length)||decide (S.length=3)))).cur.done]):=by
 rw[Xw];simp only;rw[if_pos ⟨h,h4⟩];rfl
theorem WF(B:List XC->Nat->Bool->Str×List StC)(l:List XC)(depth:Nat)(last:Bool):∀(n:Nat) (T:Str) (S:List StC),¬(S.length<l.length/\S.length<4)->Xw B l depth last n (T,S)=(T,S)
 |0,_,_,_=>rfl
 |n+1,T,S,h=>by rw[Xw];exact if_neg h
theorem qfF(B:List XC->Nat->Bool->Str×List StC)(l:List XC)(depth:Nat)(last:Bool):∀(n:Nat) (r:Str×List StC),r.1<+:(Xw B l depth last n r).1
 |0,r=>EH _
 |n+1,r=>by
  rw[Xw];simp only;split
  ·refine List.IsPrefix.trans ?_ (qfF B l depth last n _)
   exact EG _ _
  ·exact EH _
end Go.Stm
namespace Go.Proofs.YtgiadjbiimkbiaaGreatDoor
open Go.AM
open Go.Proofs
open Go.Col (Str FaultC okF)
open Go.Tok (TokC)
open Go.Stm
open Go.RowKit (Below)
set_option maxRecDepth 100000
def qtt:XC×AVal×AVal:=(noX, .nilSlice, .nilSlice)
theorem x_at{wz:World}{h:AHeap}{lc:AM.Loc}{o n:Nat}{c:Cap}{qs:List (XC×AVal×AVal)}(ht:IsL wz h 4 (.slice lc o n c) (qs.map xC)){i:Nat}(hi:i<qs.length):
 rd wz h lc (o+i*4)= .int .u8 (qs.getD i qtt).1.verb.toNat/\rd wz h lc (o+i*4+1)=(qs.getD i qtt).2.1/\rd wz h lc (o+i*4+2)=(qs.getD i qtt).2.2/\rd wz h lc (o+i*4+3)= .bool (qs.getD i qtt).1.cut:=by
 have he:=ht.elem (i:=i) (by rw[Jp];exact hi);rw[getD_map qtt hi]at he;simp only[and_true,cellsAt,List.cons.injEq,xC]at he;exact he
structure BgG where
 T:Str
 qs:List (StC×AVal×AVal)
 ov:AVal
 op:AHeap
 E:AHeap
 H:AHeap
theorem contV{wz:World}{f k1 k2:Nat}{H:AHeap}(h1:H k1=some ⟨[.str [], .nilSlice],0⟩)(h2:H k2=some ⟨[.str contC.verb, .int .i64 0, .int .i64 0, .slice (.own k1) 0 1 (.exact 1), .nilSlice],0⟩):StsV wz (f+1) H (.slice (.own k2) 0 1 (.exact 1)) [contC]:=
 ⟨[(contC, .slice (.own k1) 0 1 (.exact 1), .nilSlice)],rfl,BA (xs:=[[.str contC.verb, .int .i64 0, .int .i64 0, .slice (.own k1) 0 1 (.exact 1), .nilSlice]]) h2 (fun x hx=>by rw[V9.1 hx];rfl) rfl rfl (.exact 1) (KL _),fun q hq=>by
  rw[V9.1 hq];exact⟨⟨[(⟨[],[]⟩, .nilSlice)],rfl,BA (xs:=[[.str [], .nilSlice]]) h1 (fun x hx=>by rw[V9.1 hx];rfl) rfl rfl (.exact 1) (KL _),fun p hp=>by rw[V9.1 hp];exact .nil⟩,⟨[],rfl, .nil,fun p hp=>by cases hp⟩⟩⟩
set_option maxHeartbeats 16000000 in
theorem c_build1(wz:World)(hm:MaxL wz)(ha:Asp wz)(f dx depth:Nat)(hb:depth<=4->∀dx',qeV wz f dx' (depth+1))(hd:depth<=10):qeV wz (f+1) dx depth:=by
 intro h v l last hX hsm hT;obtain⟨hvl,hvs,hvc⟩:=hX.shape;obtain⟨qs,hqe,hqL,hqo⟩:∃qs:List (XC×AVal×AVal),l=qs.map (·.1)/\IsL wz h 4 v (qs.map xC)/\∀q∈qs,YsV wz h q.2.1 q.1.p/\∃dx',ZsV wz (XsV wz dx' h) h q.2.2 q.1.b:=by
  cases dx with
  |zero=>exact⟨[],hX.1,hX.2,fun q hq=>by cases hq⟩
  |succ dx=>
   obtain⟨qs,a,b,c⟩:=hX;exact⟨qs,a,b,fun q hq=>⟨(c q hq).1,dx,(c q hq).2⟩⟩
 have nv:∀H:AHeap,Ze Tryz.prog H 35 v=⟨True, .int .i64 qs.length⟩:=fun H=>by have:=hqL.len Tryz.underlying35 H;rwa [Jp]at this
 have hln:l.length=qs.length:=by rw[hqe,Jp]
 have hl6:=hsm.1;obtain⟨R,hR⟩:∃R,R=Xw (Qi f) l depth last 4 ([],[]):=⟨_,rfl⟩
 have hBE:Qi (f+1) l depth last=if R.2=[]then([32,67,79,78,84,73,78,85,69],[contC])else R:=by rw[hR];rfl
 rw[hBE]at hT|-
 have hRT:R.1.length<=1000000000:=by
  by_cases hz:R.2=[]
  ·have hR0:R=([],[]):=by
    rw[hR];by_cases hl:l.length=0
    ·exact WF _ _ _ _ _ _ _ (by simp[hl])
    ·exfalso
     rw[hR,Um _ _ _ _ _ _ _ (by simp only[JF];omega) (by decide)]at hz;have hp:∀(n:Nat) (r:Str×List StC),r.2≠[]->(Xw (Qi f) l depth last n r).2≠[]:=by
      intro n;induction n with
      |zero=>intro r h;exact h
      |succ n ih=>
       intro r h;rw[Xw];simp only;split
       ·exact ih _ (by simp)
       ·exact h
     exact hp _ _ (by simp) hz
   rw[hR0];exact Js _
  ·rw[if_neg hz]at hT;exact hT
 refine qP (n:=61) (rs:=[.tmp 6, .tmp 7]) Tryz.func15 rfl rfl rfl rfl (V7 rfl) ?_;simp only[qU];refine awp_rseq [0,1,2] (by rfl) fun K hK=>?_;simp+decide only[qJ,↓qa,Nat.reduceAdd];apply hK;clear hK K;refine awp_rseq [0,1,2,8] (by rfl) fun K hK=>?_;simp+decide only[qJ,↓qa];apply hK;clear hK K;refine awp_rseq [0,1,2,8,9] (by rfl) fun K hK=>?_;simp+decide only[qJ,↓qa];apply hK;clear hK K;refine qo ?_;refine awp_rseq [0,1,2,8,9,10] (by rfl) fun K hK=>?_;simp+decide only[qJ,↓qa];apply hK;clear hK K;refine qK ?_;refine QD [0,1,2,8,9,10] (fun g:BgG=>[(0,v),(1, .int .i64 depth),(2, .bool last),(8, .str g.T),(9,g.ov),(10, .int .i64 g.qs.length)]) (fun g:BgG=>g.H) (fun g:BgG=>AM.Sep [h,g.op,g.E] g.H/\GrowV 5 g.ov g.op (g.qs.map qen)/\(∀q∈g.qs,PhV wz g.E q.2.1 q.1.phrases/\BdV wz (StsV wz f g.E) g.E q.2.2 q.1.bodies)/\g.qs.length<=4/\R=Xw (Qi f) l depth last (4-g.qs.length) (g.T,g.qs.map (·.1))) (fun g:BgG=>4-g.qs.length) ⟨[],[], .nilSlice,emp,emp,h⟩ (by rfl) (Vk _) ⟨(Sep.emp (Sep.emp (ps:=[h]) ⟨fun p hp=>by rw[V9.1 hp];exact Vk _,by simp⟩)),GrowV.nil,(fun q hq=>by cases hq),Js _,hR⟩ ?_;rintro⟨T,ps,ov,op,E,H⟩ ⟨hS,hg,hpq,hp4,hgo⟩;simp only at hS hg hpq hp4 hgo|-
 have hs_H:AM.Sub h H:=hS.in_ (i:=0) rfl;have hovl:=hg.live;have hovs:=hg.scal;have nov:∀H':AHeap,Ze Tryz.prog H' 45 ov=⟨True, .int .i64 ps.length⟩:=fun H'=>by have:=(hg.isL (wz:=wz) (Vk _)).len Tryz.underlying45 H';rwa [Jp]at this
 refine qo ?_;refine awp_rseq [0,1,2,8,9,10,20] (by rfl) fun K hK=>?_;simp+decide only[QH,Vz,Ya,qF,Yh,Zf,Zz,Xk,↓qc,↓Qr,↓qf,↓Xc,qY,qZ,qW,↓QI,↓QE,nv];apply hK;clear hK K;refine qz (b:=_) rfl (fun hb1=>?_) (fun hb1=>?_)
 ·try simp only[qG]at hb1
  have hi:ps.length<qs.length:=by omega
  have hi4:ps.length<4:=by omega
  obtain⟨lc,o,cc,hpe⟩:=hqL.open (fun e=>by rw[V5]at e;rw[e]at hi;cases hi);have hq2:=hqL.mono hs_H;rw[hpe]at hq2;obtain⟨e0,e1,e2,e3⟩:=x_at hq2 hi;obtain⟨q,hqq⟩:∃q,q=qs.getD ps.length qtt:=⟨_,rfl⟩
  rw[<-hqq]at e0 e1 e2 e3;have hqm:q∈qs:=by rw[hqq,Ko,JD hi];exact VY hi
  obtain⟨hqY,dx',hqZ⟩:=hqo q hqm;obtain⟨hyl,hys,hyc⟩:=hqY.shape;obtain⟨hzl,hzs,hzc⟩:=hqZ.shape;have hxi:l.getD ps.length noX=q.1:=by rw[hqe,hqq,Ko,Ko,V6,JD hi];rfl
  have hxm:q.1∈l:=by rw[hqe];exact BL hqm
  obtain⟨hx1,hx2,hx3⟩:=hsm.2 q.1 hxm;obtain⟨e,he⟩:∃e,e=(decide (ps.length+1=l.length)||decide (ps.length=3)):=⟨_,rfl⟩
  obtain⟨b,hbE⟩:∃b,b=QU (Qi f) q.1 depth e (last && e):=⟨_,rfl⟩
  have hgo2:R=Xw (Qi f) l depth last (3-ps.length) (T++b.text,ps.map (·.1)++[b.cur.done]):=by
   rw[hgo,show 4-ps.length=3-ps.length+1 by omega,Um _ _ _ _ _ _ _ (by rw[Jp];omega) (by rw[Jp];omega),Jp,hxi,<-he,<-hbE]
  have hpre:T++b.text<+:R.1:=by rw[hgo2];exact qfF _ _ _ _ _ (T++b.text,_)
  have hlen:=hpre.length_le;rw[Jd]at hlen;have heI:(decide ((ps.length:Int)=(qs.length:Int)-1)||decide ((ps.length:Int)=3))=e:=by
   have h1:decide ((ps.length:Int)=(qs.length:Int)-1)=decide (ps.length+1=l.length):=by rw[decide_eq_decide,hln];omega
   have h2:decide ((ps.length:Int)=3)=decide (ps.length=3):=by rw[decide_eq_decide];omega
   rw[he,h1,h2]
  have hwl:IntKind.i64.wrap ((qs.length:Int)-1)=(qs.length:Int)-1:=wrap_i64 (by omega) (by omega);have hwi:IntKind.i64.wrap ((ps.length:Int)+1)=((ps.length+1:Nat):Int):=by rw[wrap_i64 (by omega) (by omega)];omega
  have hib:(0<=(ps.length:Int)/\(ps.length:Int)<(qs.length:Int))=True:=eq_true ⟨by omega,by omega⟩;refine qE ?_;change Awp _ _ _ _ _ _ _;refine qo ?_;refine qK ?_;refine awp_rseq [0,1,2,8,9,10,11] (by rfl) fun K hK=>?_;simp+decide only[ZY,Vz,Ya,qF,Yh,Zf,Xk,Zm,UC,↓qc,↓Qr,↓qf,↓Xc,qY,qZ,qW,↓QI,↓QE,↓qa,nv,hwl,heI];apply hK;clear hK K;refine awp_rseq [0,1,2,8,9,10,12] (by rfl) fun K hK=>?_;simp+decide only[Qw,Vz,Xa,Vw,Qe,XF,Jp,Zf,↓qc,↓qI,qh Tryz.underlying35 qsW,↓qj,Qa ag31 qsW,↓Xc,qY,qZ,qW,↓QE,hpe,e0,e1,e2,e3,hib,hyl,hzl];refine qM (by rfl) (by rfl) (c_xbuild wz hm ha _ f dx' depth q.1 q.2.1 q.2.2 e (last && e) (hqY.mono hs_H) (hqZ.mono hs_H fun _ _ hz=>hz.mono hs_H) hx1 hx2 hx3 (fun h4=>hb h4 dx') hd (by rw[<-hbE];omega)) fun x7q10 h7q10 hx7q10=>?_;rw[<-hbE]at hx7q10;obtain⟨pv,bv,pp,tp,bp,E2,rfl,hcur,hS2⟩:=hx7q10;have hS3:=EO hS hS2;simp only[Xv]at hS3;have hs_7:AM.Sub H h7q10:=hS2.in_ (i:=0) rfl;obtain⟨hpvl,hpvs,hpvc⟩:=hcur.pv_ok;obtain⟨hbvl,hbvs,hbvc,-⟩:=hcur.bv_len;have hs_h7q10:Sub h h7q10:=Bt zqC hs_7;have hr_h7q10:Sub H h7q10:=Bt zqC hs_7;refine Qz ze103 (cs:=[.str [], .str [], .int .i64 0, .int .i64 0, .nilSlice, .nilSlice]) (by rfl) fun k7q11 hk7q11=>?_;have hn_7q11:h7q10 k7q11=none:=by first|assumption|(simp only[Bi]at hk7q11;simp only[hk7q11])
  have hf_7q11:h k7q11=none:=Bj hs_h7q10 hn_7q11;refine qN (by rfl) (by rfl) zqA qng (by rfl) (by rfl) zqD (Js _) (by first|rfl|(simp+decide only[ZJ,Qu,WU,ZM,hpvs,hbvs])) ?_;simp only[QZ,Bn];simp+decide only[qR,Vw,Jp,Nat.reduceAdd];apply hK;clear hK K;have hS4:=Ec hS3 hn_7q11 (buB b.text b.cur pv bv);simp only[Xv]at hS4;obtain⟨H4,hH4⟩:∃H4,H4=h7q10.set k7q11 (buB b.text b.cur pv bv):=⟨_,rfl⟩
  rw[<-hH4]at hS4;refine BO (h':=H4) (by rw[hH4];exact Vk _) ?_;have hs_H4:AM.Sub h H4:=hS4.in_ (i:=0) rfl;have eb_7q11:=hS4.at_ (i:=7) rfl;refine awp_rseq [0,1,2,8,9,10,12] (by rfl) fun K hK=>?_;simp+decide only[Xh,Yv,XD,qF,Jd,Qb,YL,↓qc,↓qg,qoU,↓qj,qd ag9,↓qf,↓qa,Ql eb_7q11];repeat (with_reducible refine zqP ?_)
  apply hK;clear hK K;refine QK [0,1,2,8,9,10] (by rfl) ?_;simp+decide only[ZU,↓qc,↓qg,WR,↓qj,Qa qiH UJ,Ql eb_7q11,Nat.reduceAdd,hpvl,hbvl];refine Qd (cs:=[.str b.cur.verb, .int .i64 b.cur.line, .int .i64 b.cur.col,pv,bv]) (by kernel_rfl) fun k9q3 hk9q3=>?_;have hn_9q3:H4 k9q3=none:=by first|assumption|(simp only[Bi]at hk9q3;simp only[hk9q3])
  have hf_9q3:h k9q3=none:=Bj hs_H4 hn_9q3;have ne_9q3_7q11:k9q3≠k7q11:=Bl hn_9q3 eb_7q11;refine Yi (es:=5) (v:=ov) (p:=op) (xs:=ps.map qen) (ys:=[[.str b.cur.verb, .int .i64 b.cur.line, .int .i64 b.cur.col,pv,bv]]) (i:=1) (by rfl) (by rfl) Tryz.underlying45 Tryz.underlying45 (fun k e=>by cases e) UJ by82 qoc (by rfl) (by decide) (by rfl) hg rfl (hS4.forget (Vl hn_9q3)) (by rfl) (BA (Vj _ _ _) (fun x hx=>by rw[V9.1 hx];rfl) (by rfl) (by show(true && (true && (true && (pv.live && (bv.live && true)))))=true;rw[hpvl,hbvl];rfl) (.exact 1) (KL _)) (by show(true && (true && (true && (pv.scal && (bv.scal && true)))))=true;rw[hpvs,hbvs];rfl) (by simp) (by simp only[Yb];omega) (by simp only[Yb];omega) fun ov2 op2 h5 hg2 _ hS5=>?_;have hov2l:=hg2.live;simp+decide only[qJ,↓qa];change Awp _ _ _ _ _ _ _;refine QK [0,1,2,8,9,10] (by rfl) ?_;simp+decide only[YH,↓qc,↓qf,↓qa,hwi];try simp only[QT]
  refine⟨⟨T++b.text,ps++[(b.cur.done,pv,bv)],ov2,op2,YY [E,pp,tp,bp,E2],h5⟩,by simp only[Jp,ZT,hpe];rfl,Vk _,⟨?_,by rw[JK];exact hg2,?_,by simp only[ZT];omega,?_⟩,by simp only[ZT];omega⟩
  ·have hS6:=(BZ (ps:=[E,pp,tp,bp,E2]) (hS5.pick [2,3,4,5,6,0,1] (by decide) (by simp))).pick [1,2,0] (by decide) (by simp)
   exact hS6
  ·have hsu:=Xl (ps:=[E,pp,tp,bp,E2]) (hS5.pick [2,3,4,5,6] (by decide) (by simp)).2
   intro q hq;rcases JX.1 hq with hq|hq
   ·exact⟨(hpq q hq).1.mono (hsu E (by simp)),(hpq q hq).2.mono (hsu E (by simp)) fun _ _ hz=>hz.mono (hsu E (by simp))⟩
   ·rw[V9.1 hq]
    exact⟨qpd hcur (hsu pp (by simp)) (hsu tp (by simp)) (hsu E2 (by simp)),qpe hcur (hsu bp (by simp)) (hsu E2 (by simp))⟩
  ·rw[hgo2,JK]
   simp only[ZT];rw[show 4-(ps.length+1)=3-ps.length by omega];rfl
 ·try simp only[qG]at hb1
  have hgoS:R=(T,ps.map (·.1)):=by
   rw[hgo];exact WF _ _ _ _ _ _ _ (by rw[Jp];omega)
  refine QC ?_;change Awp _ _ _ _ _ _ _;refine qo ?_;refine awp_rseq [8,9,54] (by rfl) fun K hK=>?_;simp+decide only[QH,qO,Qm,Zm,↓qc,↓Qr,↓qf,nov];apply hK;clear hK K;refine qz (b:=_) rfl (fun hb2=>?_) (fun hb2=>?_)
  ·try simp only[qG]at hb2
   have hp0:ps=[]:=Kg (by omega);refine awp_rseq [6,7] (by rfl) fun K hK=>?_;simp+decide only[qR,XN,Yo,XO,Za,XZ,Xt,WO,Zw,evP,↓YJ,↓XL,bld84_];refine Qd (cs:=[.str [], .nilSlice]) (by kernel_rfl) fun k11q1 hk11q1=>?_;have hn_11q1:H k11q1=none:=by first|assumption|(simp only[Bi]at hk11q1;simp only[hk11q1])
   have hf_11q1:h k11q1=none:=Bj hs_H hn_11q1;simp+decide only[qR,XN,Yo,XO,Za,XZ,Xt,WO,Zw,evP,↓YJ,↓XL,bld82_0_2];refine Qd (cs:=[.str contC.verb, .int .i64 0, .int .i64 0, .slice (.own k11q1) 0 1 (.exact 1), .nilSlice]) (by kernel_rfl) fun k11q3 hk11q3=>?_;have ne_11q3_11q1:k11q3≠k11q1:=by simp only[Bi]at hk11q3;simp only[Ua,hk11q3]
   have hn_11q3:H k11q3=none:=by first|assumption|(simp only[Bi]at hk11q3;simp only[hk11q3])
   have hf_11q3:h k11q3=none:=Bj hs_H hn_11q3;simp+decide only[qJ,↓qa];apply hK;clear hK K;refine qV ?_;try simp only[Xz]
   refine Qk (qA (qA (qC))) ?_;simp+decide only[qR,Zt];have hR2:R.2=[]:=by rw[hgoS,hp0];rfl
   rw[if_pos hR2];obtain⟨B1,hB1⟩:∃B1:Blk,B1=⟨[.str [], .nilSlice],0⟩:=⟨_,rfl⟩
   obtain⟨B2,hB2⟩:∃B2:Blk,B2=⟨[.str contC.verb, .int .i64 0, .int .i64 0, .slice (.own k11q1) 0 1 (.exact 1), .nilSlice],0⟩:=⟨_,rfl⟩
   have hA:=Ec (Ec (hS.pick [0] (by decide) (by simp)) hk11q1 B1) (by rw[hB1];exact hk11q3) B2;simp only[VQ,Xv,XN]at hA;have hsu:=Xl (ps:=[one k11q1 B1,one k11q3 B2]) (hA.pick [1,2] (by decide) (by simp)).2;refine⟨_,Vk _,_,YY [one k11q1 B1,one k11q3 B2],rfl,contV ((hsu (one k11q1 B1) (by simp) k11q1 _ (one_at _ _)).trans (by rw[hB1])) ((hsu (one k11q3 B2) (by simp) k11q3 _ (one_at _ _)).trans (by rw[hB2])),?_⟩;have hB:=(BZ (ps:=[one k11q1 B1,one k11q3 B2]) (hA.pick [1,2,0] (by decide) (by simp))).pick [1,0] (by decide) (by simp);rw[hB1,hB2]at hB|-
   exact hB
  ·try simp only[qG]at hb2
   have hp0:ps≠[]:=fun e=>hb2 (by rw[e];rfl);refine qE ?_;change Awp _ _ _ _ _ _ _;refine awp_rseq [6,7] (by rfl) fun K hK=>?_;simp+decide only[Xh,↓qc,↓qa];apply hK;clear hK K;refine qV ?_;refine Qk (qA (qA (qC))) ?_;simp+decide only[qR,Zt];have hR2:R.2≠[]:=by
    rw[hgoS];exact fun e=>hp0 (V5.1 e)
   rw[if_neg hR2,hgoS];have hsu:=Xl (ps:=[op,E]) (hS.pick [1,2] (by decide) (by simp)).2;exact⟨_,Vk _,ov,YY [op,E],rfl,⟨ps,rfl,hg.isL (hsu op (by simp)),fun q hq=>⟨(hpq q hq).1.mono (hsu E (by simp)),(hpq q hq).2.mono (hsu E (by simp)) fun _ _ hz=>hz.mono (hsu E (by simp))⟩⟩,(BZ (ps:=[op,E]) (hS.pick [1,2,0] (by decide) (by simp))).pick [1,0] (by decide) (by simp)⟩
theorem c_build(wz:World)(hm:MaxL wz)(ha:Asp wz):∀(f dx depth:Nat),depth<=5->6<=f+depth->qeV wz f dx depth
 |0,_,_,h5,h6=>by omega
 |f+1,dx,depth,h5,h6=>c_build1 wz hm ha f dx depth (fun h4 dx'=>c_build wz hm ha f dx' (depth+1) (by omega) (by omega)) (by omega)
end Go.Proofs.YtgiadjbiimkbiaaGreatDoor
namespace Go.Stm
open Go.Col (Str)
open Go.Tok
open Go.Proofs.YtgiadjbiimkbiaaGreatDoor (qcZ)
set_option maxRecDepth 100000
section
variable (W:List XC->Int->Int) (most:Int)
def qaB:List ZC->Int->Int
 |[],n=>n
 |z::zs,n=>if n<=most then qaB zs (n+W z.2.2.1 (most-n))else n
def qaJ(deep:Bool)(x:XC)(n:Int):Int:=
 let n1:=n+((x.p.length / 2:Nat):Int)+((x.b.length / 2:Nat):Int)
 if deep=true then qaB W most x.b n1 else n1
def Ug(deep:Bool):List XC->Int->Int
 |[],n=>n
 |x::xs,n=>if n<=most then Ug deep xs (qaJ W most deep x n)else n
end
def YZ:Nat->List XC->Int->Int
 |0,l,most=>Ug (fun _ _=>0) most false l l.length
 |f+1,l,most=>Ug (YZ f) most true l l.length
def LenX(m:Nat):Nat->List XC->Prop
 |0,l=>l.length<=m/\∀x∈l,x.p.length<=m/\x.b.length<=m
 |f+1,l=>l.length<=m/\∀x∈l,x.p.length<=m/\x.b.length<=m/\∀z∈x.b,LenX m f z.2.2.1
theorem LenX.len{m:Nat}:∀{f:Nat} {l:List XC},LenX m f l->l.length<=m
 |0,_,h=>h.1
 |_+1,_,h=>h.1
theorem LenX.xs{m:Nat}:∀{f:Nat} {l:List XC},LenX m f l->∀x∈l,x.p.length<=m/\x.b.length<=m
 |0,_,h,x,hx=>h.2 x hx
 |_+1,_,h,x,hx=>⟨(h.2 x hx).1,(h.2 x hx).2.1⟩
theorem qmY{W:List XC->Int->Int}{most:Int}{m:Nat}:∀{zs:List ZC} {n:Int},(∀z∈zs,∀k:Int,0<=k->k<=most->0<=W z.2.2.1 k/\W z.2.2.1 k<=k+m)->0<=n->n<=most+m->n<=qaB W most zs n/\qaB W most zs n<=most+m
 |[],n,_,_,h=>⟨Dc _,h⟩
 |z::zs,n,hW,h0,h=>by
  rw[qaB];split
  ·rename_i hn
   obtain⟨a,b⟩:=hW z Jg (most-n) (by omega) (by omega);obtain⟨c,d⟩:=qmY (zs:=zs) (n:=n+W z.2.2.1 (most-n)) (fun z hz=>hW z (Jh _ hz)) (by omega) (by omega);exact⟨by omega,d⟩
  ·exact⟨Dc _,h⟩
theorem qpN{W:List XC->Int->Int}{most:Int}{m:Nat}{deep:Bool}{x:XC}{n:Int}(hW:deep=true->∀z∈x.b,∀k:Int,0<=k->k<=most->0<=W z.2.2.1 k/\W z.2.2.1 k<=k+m)(hp:x.p.length<=m)(hb:x.b.length<=m)(h0:0<=n)(h:n<=most):
 n+((x.p.length / 2:Nat):Int)+((x.b.length / 2:Nat):Int)<=qaJ W most deep x n/\qaJ W most deep x n<=most+m:=by
 unfold qaJ;simp only;split
 ·rename_i hd
  exact qmY (hW hd) (by omega) (by omega)
 ·exact⟨Dc _,by omega⟩
theorem qiR{W:List XC->Int->Int}{most:Int}{m:Nat}{deep:Bool}:∀{l:List XC} {n:Int},(∀x∈l,x.p.length<=m/\x.b.length<=m/\(deep=true->∀z∈x.b,∀k:Int,0<=k->k<=most->0<=W z.2.2.1 k/\W z.2.2.1 k<=k+m))->0<=n->n<=most+m->n<=Ug W most deep l n/\Ug W most deep l n<=most+m
 |[],n,_,_,h=>⟨Dc _,h⟩
 |x::l,n,hl,h0,h=>by
  rw[Ug];split
  ·rename_i hn
   obtain⟨a,b,c⟩:=hl x Jg;obtain⟨d,e⟩:=qpN (deep:=deep) (n:=n) c a b h0 hn;obtain⟨f,g⟩:=qiR (l:=l) (fun x hx=>hl x (Jh _ hx)) (by omega:0<=qaJ W most deep x n) e;exact⟨by omega,g⟩
  ·exact⟨Dc _,h⟩
theorem qmU{m:Nat}:∀{f:Nat} {l:List XC} {most:Int},LenX m f l->0<=most->0<=YZ f l most/\YZ f l most<=most+m
 |0,l,most,h,h0=>by
  have:=h.len;obtain⟨a,b⟩:=qiR (W:=fun _ _=>0) (most:=most) (m:=m) (deep:=false) (l:=l) (n:=l.length) (fun x hx=>⟨(h.2 x hx).1,(h.2 x hx).2,fun z=>by cases z⟩) (by omega) (by omega);exact⟨by show 0<=Ug _ _ _ _ _;omega,b⟩
 |f+1,l,most,h,h0=>by
  have:=h.len;obtain⟨a,b⟩:=qiR (W:=YZ f) (most:=most) (m:=m) (deep:=true) (l:=l) (n:=l.length) (fun x hx=>⟨(h.2 x hx).1,(h.2 x hx).2.1,fun _ z hz k hk _=>qmU ((h.2 x hx).2.2 z hz) hk⟩) (by omega) (by omega);exact⟨by show 0<=Ug _ _ _ _ _;omega,b⟩
def qjC:Nat->List XC->Nat
 |0,l=>l.length
 |f+1,l=>l.length+(l.map fun x=>(x.b.map fun z=>qjC f z.2.2.1).sum).sum
theorem qmV{W:List XC->Int->Int}{C:List XC->Nat}{most:Int}:∀{zs:List ZC} {n:Int},(∀z∈zs,∀k:Int,0<=k->0<=W z.2.2.1 k/\(W z.2.2.1 k<=k->(C z.2.2.1:Int)<=W z.2.2.1 k))->qaB W most zs n<=most->
 n+((zs.map fun z=>C z.2.2.1).sum:Nat)<=qaB W most zs n/\∀z∈zs,∃k,0<=k/\k<=most-n/\W z.2.2.1 k<=k
 |[],n,_,h=>⟨by simp[qaB],fun z hz=>by cases hz⟩
 |z::zs,n,hW,h=>by
  rw[qaB]at h|-
  split at h
  ·rename_i hn
   rw[if_pos hn];obtain⟨a,b⟩:=hW z Jg (most-n) (by omega);obtain⟨c,d⟩:=qmV (zs:=zs) (fun z hz=>hW z (Jh _ hz)) h;have hk:W z.2.2.1 (most-n)<=most-n:=by omega
   have:=b hk;rw[Ke,De];refine⟨by omega,fun y hy=>?_⟩;rcases KY.1 hy with rfl|hy
   ·exact⟨most-n,by omega,by omega,hk⟩
   ·obtain⟨k,k1,k2,k3⟩:=d y hy
    exact⟨k,k1,by omega,k3⟩
  ·rename_i hn;omega
theorem qiO{W:List XC->Int->Int}{C:XC->Nat}{most:Int}{deep:Bool}:∀{l:List XC} {n:Int},(∀x∈l,∀k:Int,0<=k->k<=qaJ W most deep x k/\(qaJ W most deep x k<=most->k+C x<=qaJ W most deep x k))->0<=n->Ug W most deep l n<=most->
 n+((l.map C).sum:Nat)<=Ug W most deep l n/\∀x∈l,∃k,n<=k/\qaJ W most deep x k<=most
 |[],n,_,_,h=>⟨by simp[Ug],fun z hz=>by cases hz⟩
 |x::l,n,hl,h0,h=>by
  rw[Ug]at h|-
  split at h
  ·rename_i hn
   rw[if_pos hn];obtain⟨a,b⟩:=hl x Jg n h0;obtain⟨c,d⟩:=qiO (l:=l) (fun x hx=>hl x (Jh _ hx)) (by omega:0<=qaJ W most deep x n) h;have hs:qaJ W most deep x n<=most:=by omega
   have:=b hs;rw[Ke,De];refine⟨by omega,fun y hy=>?_⟩;rcases KY.1 hy with rfl|hy
   ·exact⟨n,Dc _,hs⟩
   ·obtain⟨k,k1,k2⟩:=d y hy
    exact⟨k,by omega,k2⟩
  ·rename_i hn;omega
theorem qmW{W:List XC->Int->Int}{most:Int}:∀{zs:List ZC} {n:Int},(∀z∈zs,∀k:Int,0<=k->0<=W z.2.2.1 k)->n<=qaB W most zs n
 |[],n,_=>Dc _
 |z::zs,n,hW=>by
  rw[qaB];split
  ·have a:=hW z Jg (most-n) (by omega)
   have b:=qmW (W:=W) (most:=most) (zs:=zs) (n:=n+W z.2.2.1 (most-n)) fun z hz=>hW z (Jh _ hz);omega
  ·exact Dc _
theorem qiP{W:List XC->Int->Int}{most:Int}{deep:Bool}:∀{l:List XC} {n:Int},(∀x∈l,∀k:Int,0<=k->k<=qaJ W most deep x k)->0<=n->n<=Ug W most deep l n
 |[],n,_,_=>Dc _
 |x::l,n,hl,h0=>by
  rw[Ug];split
  ·have a:=hl x Jg n h0
   have b:=qiP (W:=W) (most:=most) (deep:=deep) (l:=l) (n:=qaJ W most deep x n) (fun x hx=>hl x (Jh _ hx)) (by omega);omega
  ·exact Dc _
theorem qcI{W:List XC->Int->Int}{most:Int}{deep:Bool}{x:XC}{n:Int}(hW:deep=true->∀z∈x.b,∀k:Int,0<=k->0<=W z.2.2.1 k):n<=qaJ W most deep x n/\n+((x.p.length / 2:Nat):Int)+((x.b.length / 2:Nat):Int)<=qaJ W most deep x n:=by
 unfold qaJ;simp only;split
 ·rename_i hd
  have:=qmW (W:=W) (most:=most) (zs:=x.b) (n:=n+((x.p.length / 2:Nat):Int)+((x.b.length / 2:Nat):Int)) (hW hd);exact⟨by omega,this⟩
 ·exact⟨by omega,Dc _⟩
theorem qfP:∀(f:Nat) (l:List XC) (most:Int),(l.length:Int)<=YZ f l most
 |0,l,most=>qiP (fun x _ k _=>(qcI fun h=>by cases h).1) (by omega)
 |f+1,l,most=>qiP (fun x _ k _=>(qcI fun _ z _ j _=>by have:=qfP f z.2.2.1 j;omega).1) (by omega)
theorem qeh:∀{f:Nat} {l:List XC} {most:Int},0<=most->YZ f l most<=most->(qjC f l:Int)<=YZ f l most/\∀m:Nat,most<=m->LenX (2*m+1) f l
 |0,l,most,h0,h=>by
  obtain⟨a,b⟩:=qiO (W:=fun _ _=>0) (C:=fun _=>0) (most:=most) (deep:=false) (l:=l) (n:=l.length) (fun x _ k _=>⟨(qcI fun h=>by cases h).1,fun _=>by have:=(qcI (W:=fun _ _=>0) (most:=most) (deep:=false) (x:=x) (n:=k) fun h=>by cases h).1;omega⟩) (by omega) h;have hl:=qfP 0 l most;refine⟨hl,fun m hm=>⟨by omega,fun x hx=>?_⟩⟩;obtain⟨k,k1,k2⟩:=b x hx;have:=(qcI (W:=fun _ _=>0) (most:=most) (deep:=false) (x:=x) (n:=k) fun h=>by cases h).2;omega
 |f+1,l,most,h0,h=>by
  have hW:∀(x:XC),∀z∈x.b,∀k:Int,0<=k->0<=YZ f z.2.2.1 k:=fun x z _ k _=>by have:=qfP f z.2.2.1 k;omega
  have hB:∀(x:XC) (k:Int),0<=k->qaJ (YZ f) most true x k<=most->k+((x.p.length / 2:Nat):Int)+((x.b.length / 2:Nat):Int)+((x.b.map fun z=>qjC f z.2.2.1).sum:Nat)<=qaJ (YZ f) most true x k/\∀z∈x.b,∃j,0<=j/\j<=most/\YZ f z.2.2.1 j<=j:=fun x k hk hs=>by
   unfold qaJ at hs|-
   simp only[if_true]at hs|-
   obtain⟨a,b⟩:=qmV (C:=qjC f) (fun z hz j hj=>⟨hW x z hz j hj,fun h=>(qeh hj h).1⟩) hs;refine⟨a,fun z hz=>?_⟩;obtain⟨j,j1,j2,j3⟩:=b z hz;exact⟨j,j1,by omega,j3⟩
  obtain⟨a,b⟩:=qiO (W:=YZ f) (C:=fun x=>(x.b.map fun z=>qjC f z.2.2.1).sum) (most:=most) (deep:=true) (l:=l) (n:=l.length) (fun x _ k hk=>⟨(qcI fun _=>hW x).1,fun hs=>by have:=(hB x k hk hs).1;omega⟩) (by omega) h;have hl:=qfP (f+1) l most;refine⟨by rw[qjC];exact Int.le_trans (by omega) a,fun m hm=>⟨by omega,fun x hx=>?_⟩⟩;obtain⟨k,k1,k2⟩:=b x hx;have hx2:=(qcI (W:=YZ f) (most:=most) (deep:=true) (x:=x) (n:=k) fun _=>hW x).2;refine⟨by omega,by omega,fun z hz=>?_⟩;obtain⟨j,j1,j2,j3⟩:=(hB x k (by omega) k2).2 z hz;exact(qeh j1 j3).2 m (by omega)
theorem qni{m:Nat}(hm:m<=1000000):∀{f g:Nat} {l:List XC},LenX m f l->g<=f+1->qcZ g l
 |_,0,_,_,_=>trivial
 |0,g+1,l,h,hg=>by
  obtain rfl:g=0:=by omega
  exact⟨Vg h.1 hm,fun x hx=>⟨Vg (h.2 x hx).1 hm,Vg (h.2 x hx).2 hm,fun _ _=>trivial⟩⟩
 |f+1,g+1,l,h,hg=>⟨Vg h.1 hm,fun x hx=>⟨Vg (h.2 x hx).1 hm,Vg (h.2 x hx).2.1 hm,fun z hz=>qni hm ((h.2 x hx).2.2 z hz) (by omega)⟩⟩
end Go.Stm
namespace Go.Stm
open Go.Col (Str)
open Go.Tok
set_option maxRecDepth 100000
def OkT(t:TokC):Prop:=t.kind<=9/\(32:UInt8)∉t.text
def OkP(p:PhrC):Prop:=(62:UInt8)∉p.words/\∀t∈p.toks,OkT t
def OkS:Nat->List StC->Prop
 |0,l=>l=[]
 |m+1,l=>∀s∈l,(32:UInt8)∉s.verb/\(∀p∈s.phrases,OkP p)/\∀b∈s.bodies,(93:UInt8)∉b.1/\(∀t∈b.2.1,OkT t)/\OkS m b.2.2
end Go.Stm
namespace Go.Stm
open Go.Col (Str FaultC okF)
open Go.Tok
open Go.Proofs.YtgiadjbiimkbiaaGreatDoor (Few qoP Few.up)
set_option maxRecDepth 100000
def OutL(N:Nat):Nat->List StC->Prop
 |0,l=>l.length<=N
 |m+1,l=>l.length<=N/\∀s∈l,s.phrases≠[]/\s.phrases.length<=N/\(∀p∈s.phrases,p.toks.length<=N)/\s.bodies.length<=N/\∀b∈s.bodies,b.2.1.length<=N/\OutL N m b.2.2
theorem OutL.snoc{N:Nat}:∀{m:Nat} {l:List StC} {s:StC},OutL N m l->OutL N m [s]->l.length+1<=N->OutL N m (l++[s])
 |0,l,s,_,_,h=>by show(l++[s]).length<=N;rw[Jd,JH];exact h
 |m+1,l,s,h1,h2,h=>⟨by rw[Jd,JH];exact h,fun t ht=>by
  rcases JX.1 ht with z|z
  ·exact h1.2 t z
  ·exact h2.2 t z⟩
theorem OutL.small{N:Nat}(hN:N<=1000000):∀{m:Nat} {l:List StC},OutL N m l->SmallS m l
 |0,l,h=>Vg h hN
 |m+1,l,h=>⟨Vg h.1 hN,fun s hs=>by
  obtain⟨_,h2,h3,h4,h5⟩:=h.2 s hs;exact⟨Vg h4 hN,Vg h2 hN,fun p hp=>Vg (h3 p hp) hN,fun b hb=>⟨Vg (h5 b hb).1 hN,(h5 b hb).2.small hN⟩⟩⟩
def qsH(N:Nat)(c:Cur):Prop:=∀b∈c.bodies,b.2.1.length<=N/\∀m,OutL N m b.2.2
theorem isE_lt{l:List TokC}{i:Nat}(h:¬isE l i=true):i<l.length:=by
 unfold isE at h;by_cases hi:i<l.length
 ·exact hi
 ·rw[if_neg hi]at h;exact absurd rfl h
theorem isV_lt{l:List TokC}{i:Nat}(h:isV l i=true):i<l.length:=by
 unfold isV at h;by_cases hi:i<l.length
 ·exact hi
 ·rw[if_neg hi]at h;cases h
theorem qmT(l:List TokC)(F:Str):∀(f i:Nat) (acc:List TokC),i<=l.length->i<=(Uz l F f i acc).2/\(Uz l F f i acc).2<=l.length/\(Uz l F f i acc).1.length=acc.length+((Uz l F f i acc).2-i)
 |0,i,acc,h=>⟨KL _,h,by rw[Uz];simp⟩
 |f+1,i,acc,h=>by
  rw[Uz];split
  ·exact⟨KL _,h,by simp⟩
  ·rename_i hn
   have hlt:i<l.length:=isE_lt fun e=>hn (.inl e);obtain⟨a,b,c⟩:=qmT l F f (i+1) (acc++[l.getD i noT]) hlt;rw[Jd,JH]at c;exact⟨by omega,b,by omega⟩
theorem headW_ok(l:List TokC)(O:List Str)(w:Str)(n i:Nat)(h:i+n<=l.length):i+n<=(headW l O w n i).2/\(headW l O w n i).2<=l.length/\(headW l O w n i).1.length=(headW l O w n i).2-(i+n):=by
 unfold headW;split
 ·obtain⟨a,b,c⟩:=qmT l (O.getLastD []) (l.length-(i+n)) (i+n) [] h
  exact⟨a,b,by rw[JF,Jr]at c;exact c⟩
 ·exact⟨KL _,h,by simp⟩
section
variable {W:Words} {l:List TokC} {forms:Str->Str×Str} {N:Nat}
theorem tok_in{c c':Cur}{ph:Str}{i j:Nat}(hi:i<l.length)(h:WS l c ph i= .ok c' j):j<=l.length/\c'.phrases≠[]\/c'=c/\j<=l.length:=by
 unfold WS at h;split at h
 ·cases h
 ·split at h
  ·cases h
   exact .inl ⟨by omega,by simp[qhu]⟩
  ·have:=qcJ l i ph (BS hi)
   split at h
   ·cases h
    exact .inl ⟨this,by simp⟩
   ·cases h
    exact .inr ⟨rfl,this⟩
theorem tok_bod{c c':Cur}{ph:Str}{i j:Nat}(h:WS l c ph i= .ok c' j):c'.bodies=c.bodies/\c.bodies=[]:=by
 unfold WS at h;split at h
 ·cases h
 ·rename_i hb
  have hb':c.bodies=[]:=Classical.not_not.1 hb;split at h
  ·cases h;exact⟨rfl,hb'⟩
  ·split at h<;>(cases h;exact⟨rfl,hb'⟩)
theorem qoh(hN:l.length+2<=N):∀f:Nat,
 (∀d O i acc L j,UU W l forms f d O i acc=some (.ok L j)->i<=l.length->i<=j/\j<=l.length/\(isV l i=true->i<j)/\(acc.length<=i->L.length<=j/\∀m,OutL N m acc->OutL N m L))/\
 (∀d O i s j,stF W l forms f d O i=some (.ok s j)->isV l i=true->i<j/\j<=l.length/\∀m,OutL N m [s])/\
 (∀d O ph c i c' b j,Uf W l forms f d O ph c i=some (.ok (c',b) j)->i<=l.length->Few c i->c.phrases≠[]->qsH N c->i<=j/\j<=l.length/\Few c' j/\c'.phrases≠[]/\qsH N c')/\
 (∀d O c w n i c' j,qaw W l forms f d O c w n i=some (.ok c' j)->i+n<=l.length->(0<n\/isV l i=true)->Few c i->qsH N c->i<j/\j<=l.length/\Few c' j/\c'.phrases=c.phrases/\qsH N c')
 |0=>by
  refine⟨fun d O i acc L j h=>?_,fun d O i s j h=>?_,fun d O ph c i c' b j h=>?_,fun d O c w n i c' j h=>?_⟩
  ·simp only[UU]at h;cases h
  ·simp only[stF]at h;cases h
  ·simp only[Uf]at h;cases h
  ·simp only[qaw]at h;cases h
 |f+1=>by
  obtain⟨i1,i2,i3,i4⟩:=qoh hN f;refine⟨fun d O i acc L j h hi=>?_,fun d O i s j h hv=>?_,fun d O ph c i c' b j h hi hf hp hg=>?_,fun d O c w n i c' j h hn hw hf hg=>?_⟩
  ·rw[UU]at h
   split at h
   ·rename_i hv
    cases hs:stF W l forms f d O i with
    |none=>rw[hs]at h;cases h
    |some x=>
     rw[hs]at h;cases x with
     |bad e=>cases h
     |ok s k=>
      obtain⟨a1,a2,a3⟩:=i2 _ _ _ _ _ hs hv;obtain⟨b1,b2,_,b4⟩:=i1 _ _ _ _ _ _ h a2;refine⟨by omega,b2,fun _=>by omega,fun hacc=>?_⟩;obtain⟨c1,c2⟩:=b4 (by rw[Jd,JH];omega);exact⟨c1,fun m hm=>c2 m (hm.snoc (a3 m) (by omega))⟩
   ·rename_i hv
    cases h;exact⟨KL _,hi,fun h=>absurd h hv,fun hacc=>⟨hacc,fun m hm=>hm⟩⟩
  ·rw[stF]at h
   split at h
   ·cases h
   ·simp only at h
    generalize hx:Uf W l forms f d _ _ _ _=x at h;match x,h with
    |some (.ok (c,b) k),h=>
     simp only at h;split at h
     ·cases h
      have hlt:=isV_lt hv;obtain⟨a1,a2,a3,a4,a5⟩:=i3 _ _ _ _ _ _ _ _ hx hlt ⟨by simp,fun p hp=>by rw[V9.1 hp];exact Js _,Js _⟩ (by simp) (fun b hb=>by cases hb);refine⟨by omega,a2,fun m=>?_⟩;cases m with
      |zero=>show 1<=N;omega
      |succ m=>exact⟨by simp only[JH];omega,fun s hs=>by
        rw[V9.1 hs];exact⟨a4,by have:=a3.1;show c.phrases.length<=N;omega,fun p hp=>by have:=a3.2.1 p hp;omega,by have:=a3.2.2;show c.bodies.length<=N;omega,fun b hb=>⟨(a5 b hb).1,(a5 b hb).2 m⟩⟩⟩
     ·cases h
  ·rw[Uf]at h
   split at h
   ·cases h
    exact⟨KL _,hi,hf,hp,hg⟩
   ·rename_i hE
    have hlt:=isE_lt hE;split at h
    ·split at h
     ·cases h
      exact⟨by omega,hlt,hf.up (by omega),hp,hg⟩
     ·cases h
      exact⟨KL _,hi,hf,hp,hg⟩
    ·split at h
     ·rename_i h3
      generalize hx:qaw W l forms f d O c _ _ i=x at h;match x,h with
      |some (.ok c1 k),h=>
       obtain⟨a1,a2,a3,a4,a5⟩:=i4 _ _ _ _ _ _ _ _ hx (qcJ l i _ hi) (.inl h3) hf hg;obtain⟨b1,b2,b3,b4,b5⟩:=i3 _ _ _ _ _ _ _ _ h a2 a3 (by rw[a4];exact hp) a5;exact⟨by omega,b2,b3,b4,b5⟩
     ·generalize hm:(if isV l i=true then Zi W c else none)=m at h
      cases m with
      |some w=>
       simp only at h;have hv:isV l i=true:=by
        by_cases z:isV l i=true
        ·exact z
        ·rw[if_neg z]at hm;cases hm
       generalize hx:qaw W l forms f d O c w 0 i=x at h;match x,h with
       |some (.ok c1 k),h=>
        obtain⟨a1,a2,a3,a4,a5⟩:=i4 _ _ _ _ _ _ _ _ hx hi (.inr hv) hf hg;obtain⟨b1,b2,b3,b4,b5⟩:=i3 _ _ _ _ _ _ _ _ h a2 a3 (by rw[a4];exact hp) a5;exact⟨by omega,b2,b3,b4,b5⟩
      |none=>
       simp only at h;split at h
       ·cases h
        exact⟨KL _,hi,hf,hp,hg⟩
       ·generalize hx:WS l c ph i=x at h
        match x,hx,h with
        | .ok c1 k,hx,h=>
          obtain⟨hb1,hb0⟩:=tok_bod hx;obtain⟨f1,f2⟩:=qoP hf hp hb0 hx;have hg1:qsH N c1:=fun b hb=>by rw[hb1,hb0]at hb;cases hb
          have hk:k<=l.length/\c1.phrases≠[]:=by
           rcases tok_in hlt hx with z|⟨z,z2⟩
           ·exact z
           ·exact⟨z2,by rw[z];exact hp⟩
          obtain⟨b1,b2,b3,b4,b5⟩:=i3 _ _ _ _ _ _ _ _ h hk.1 f1 hk.2 hg1;exact⟨by omega,b2,b3,b4,b5⟩
  ·rw[qaw]at h
   split at h
   ·cases h
   ·split at h
    ·cases h
    ·rename_i hwh
     generalize hx:UU W l forms f (d+1) O _ []=x at h;match x,h with
     |some (.ok L k),h=>
      simp only at h;split at h
      ·cases h
      ·cases h
       obtain⟨h1,h2,h3⟩:=headW_ok l O w n i hn;obtain⟨a1,a2,a3,a4⟩:=i1 _ _ _ _ _ _ hx h2;obtain⟨a5,a6⟩:=a4 (Js _);have hij:i<j:=by
        rcases hw with z|z
        ·omega
        ·by_cases hww:w=XW
         ·have:(headW l O w n i).1≠[]:=fun e=>hwh ⟨hww,e⟩
          have:=Bv.2 this;omega
         ·by_cases hn0:n=0
          ·have he:(headW l O w n i).2=i:=by unfold headW;rw[if_neg hww];simp only;omega
           rw[he]at a3;exact a3 z
          ·omega
       refine⟨hij,a2,⟨Vg hf.1 (BS hij),fun p hp=>Vg (hf.2.1 p hp) (BS hij),?_⟩,rfl,fun b hb=>?_⟩
       ·have:=hf.2.2
        simp only[ZT];omega
       ·rcases JX.1 hb with z|z
        ·exact hg b z
        ·rw[V9.1 z]
         refine⟨by simp only;omega,fun m=>a6 m ?_⟩;cases m with
         |zero=>exact Js _
         |succ m=>exact⟨Js _,fun s hs=>by cases hs⟩
theorem small_sent.small_app(hN:l.length+2<=N):∀(f d:Nat) (O:List Str) (i:Nat) (acc0 L:List StC) (j:Nat),UU W l forms f d O i acc0=some (.ok L j)->i<=l.length->∀acc:List StC,(acc++acc0).length<=i->(∀m,OutL N m (acc++acc0))->(acc++L).length<=j/\∀m,OutL N m (acc++L)
 |0,d,O,i,acc0,L,j,h,_,acc,_,_=>by simp only[UU]at h;cases h
 |f+1,d,O,i,acc0,L,j,h,hi,acc,ha,hO=>by
  rw[UU]at h;split at h
  ·rename_i hv
   cases hs:stF W l forms f d O i with
   |none=>rw[hs]at h;cases h
   |some x=>
    rw[hs]at h;cases x with
    |bad e=>cases h
    |ok s k=>
     obtain⟨a1,a2,a3⟩:=(qoh hN f).2.1 _ _ _ _ _ hs hv;refine small_sent.small_app hN f _ _ _ _ _ _ h a2 acc ?_ fun m=>?_
     ·rw[<-Jb,Jd,JH];omega
     ·rw[<-Jb]
      exact(hO m).snoc (a3 m) (by omega)
  ·cases h
   exact⟨ha,hO⟩
theorem small_sent(hN:l.length+2<=N):∀(f i:Nat) (acc L:List StC) (j:Nat),qcp W l forms f i acc=some (.ok L j)->i<=l.length->acc.length<=i->(∀m,OutL N m acc)->L.length<=l.length/\∀m,OutL N m L
 |0,i,acc,L,j,h,_,_,_=>by simp only[qcp]at h;cases h
 |f+1,i,acc,L,j,h,hi,ha,hO=>by
  rw[qcp]at h;split at h
  ·rename_i hlt
   generalize hx:UU W l forms f 1 [] i []=x at h;match x,h with
   |some (.ok L1 k),h=>
    simp only at h;obtain⟨a1,a2,a3,a4⟩:=(qoh hN f).1 _ _ _ _ _ _ hx hi;split at h
    ·cases h
    ·rename_i hk
     have hk2:k<l.length:=by
      rcases Nat.lt_or_ge k l.length with z|z
      ·exact z
      ·exact absurd (.inl (by omega)) hk
     obtain⟨b1,b2⟩:=small_sent.small_app hN f _ _ _ _ _ _ hx hi acc (by rw[JG];exact ha) (fun m=>by rw[JG];exact hO m);exact small_sent hN f (k+1) (acc++L1) L j h (by omega) (by omega) b2
  ·cases h
   exact⟨by omega,hO⟩
theorem qrl(hN:l.length+2<=N){L:List StC}{j:Nat}(h:ParseR W l forms (.ok L j)):∀m,OutL N m L:=by
 obtain⟨f,h⟩:=h;unfold qbB at h;split at h
 ·cases h
 ·exact(small_sent hN f 0 [] L j h (Js _) (Js _) fun m=>by
   cases m with
   |zero=>exact Js _
   |succ m=>exact⟨Js _,fun s hs=>by cases hs⟩).2
end
end Go.Stm
namespace Go.Stm
open Go.Col (Str FaultC okF)
open Go.Tok
open Go.Proofs.YtgiadjbiimkbiaaGreatDoor (asciiB Short TxS)
set_option maxRecDepth 100000
def qaR(w:Str):Bool:=decide (w.length<=100) && (asciiB w && (!w.contains 62 && (!w.contains 93 && decide ((Lib.fields w).length<=8))))
def qkV(v:Str):Bool:=decide (v.length<=20) && (asciiB v && !v.contains 32)
def rowWB(k:Nat):Bool:=let r:=Xd 58 [] (rowsT.getD k []);qkV (r.getD 0 []) && ((Qc (r.getD 1 [])).all (fun f=>qaR (Xj f) && decide (f.length<=500)) && (Qc (r.getD 2 [])).all fun f=>qaR (Xj f) && decide (f.length<=500))
theorem rows_W:(((KP 39).all rowWB) && (qaR (Xj Wm) && qaR (Xj XW)))=true:=by decide+kernel
def qfN(l:List Str):Prop:=∀f∈l,qaR (Xj f)=true/\f.length<=500
theorem row_W{k:Nat}(hk:k<39){a b c:Str}(h:Xd 58 [] (rowsT.getD k [])=[a,b,c]):qkV a=true/\qfN (Qc b)/\qfN (Qc c):=by
 have hr:=rows_W;rw[Ky]at hr;have h1:=JB.1 hr.1 k (JC.2 hk);unfold rowWB at h1;rw[h]at h1;simp only[VQ,Kn,Wy,JB]at h1;exact⟨h1.1,h1.2.1,h1.2.2⟩
def qmR(t:TokC):Prop:=OkT t/\t.text.length<=16
theorem qdk:∀(s cur:Str),(32:UInt8)∉cur->∀w∈Lib.fieldsGo cur s,(32:UInt8)∉w
 |[],cur,hc,w,hw=>by
  unfold Lib.fieldsGo at hw;split at hw
  ·cases hw
  ·rw[V9.1 hw];exact hc
 |c::s,cur,hc,w,hw=>by
  unfold Lib.fieldsGo at hw;split at hw
  ·split at hw
   ·exact qdk s [] (by simp) w hw
   ·rcases KY.1 hw with z|z
    ·rw[z];exact hc
    ·exact qdk s [] (by simp) w z
  ·rename_i hsp
   refine qdk s (cur++[c]) (fun hm=>?_) w hw;rcases JX.1 hm with z|z
   ·exact hc z
   ·rw[<-V9.1 z]at hsp
    exact hsp (by decide)
theorem fields_no{s:Str}:∀w∈Lib.fields s,(32:UInt8)∉w:=qdk s [] (by simp)
theorem trimB_mem{s:Str}{c b:UInt8}(h:b∈Lib.trimB s c):b∈s:=by
 unfold Lib.trimB Lib.trimLeftB Lib.trimRightB at h;have h1:=(Df _).subset h;have h2:=(Df _).subset (EF.1 h1);exact EF.1 h2
theorem lawT_ok(i:Nat)(w:Str)(h32:(32:UInt8)∉w):OkT (qao i w):=by
 have htr:(32:UInt8)∉Lib.trimB w 34:=fun hm=>h32 (trimB_mem hm);rw[qao];by_cases a:w.getD 0 0=34
 ·rw[if_pos a];exact⟨(by decide:(3:UInt8)<=9),htr⟩
 ·rw[if_neg a]
  by_cases b:48<=w.getD 0 0/\w.getD 0 0<=57
  ·rw[if_pos b];exact⟨(by decide:(2:UInt8)<=9),h32⟩
  ·rw[if_neg b]
   by_cases c:w=[46]
   ·rw[if_pos c];exact⟨(by decide:(6:UInt8)<=9),h32⟩
   ·rw[if_neg c]
    split
    ·exact⟨(by decide:(5:UInt8)<=9),h32⟩
    ·exact⟨(by decide:(1:UInt8)<=9),h32⟩
theorem lawT_len(i:Nat)(w:Str):(qao i w).text.length<=w.length:=by
 have htr:(Lib.trimB w 34).length<=w.length:=Go.Proofs.YtgiadjbiimkbiaaGreatDoor.trimB_le w 34;rw[qao];by_cases a:w.getD 0 0=34
 ·rw[if_pos a];exact htr
 ·rw[if_neg a]
  by_cases b:48<=w.getD 0 0/\w.getD 0 0<=57
  ·rw[if_pos b];exact KL _
  ·rw[if_neg b]
   by_cases c:w=[46]
   ·rw[if_pos c];exact KL _
   ·rw[if_neg c]
    split<;>exact KL _
theorem qnC:∀(ws:List Str) (i:Nat),∀t∈qbe i ws,∃j,∃w∈ws,t=qao j w
 |[],_,t,h=>by cases h
 |w::ws,i,t,h=>by
  rcases KY.1 h with z|z
  ·exact⟨i,w,Jg,z⟩
  ·obtain⟨j,w',h1,h2⟩:=qnC ws (i+1) t z
   exact⟨j,w',Jh _ h1,h2⟩
theorem qjm{s:Str}(hs:s.length<=16):∀t∈Qh s,qmR t:=fun t ht=>by
 obtain⟨j,w,hw,rfl⟩:=qnC _ _ t ht;exact⟨lawT_ok j w (fields_no w hw),Vg (lawT_len j w) (Vg (Go.Proofs.YtgiadjbiimkbiaaGreatDoor.fields_small w hw) hs)⟩
theorem words_sp(l:List UInt8):∀x∈l.map (fun o:UInt8=>32::opsT.getD (o.toNat%5) []),∃Y,x=32::Y:=fun x hx=>by
 obtain⟨o,_,rfl⟩:=JM.1 hx;exact⟨_,rfl⟩
theorem qod(ops:List UInt8):(Qh (QY ops)).length<=4:=by
 rw[qfs];unfold QY;have h4:(ops.take 4).length<=4:=List.length_take_le _ _;rw[qkg (words_sp _)];generalize ops.take 4=l at h4;have key:∀l:List UInt8,(((l.map fun o:UInt8=>32::opsT.getD (o.toNat%5) []).map Lib.fields).flatten).length=l.length:=by
  intro l;induction l with
  |nil=>rfl
  |cons o l ih=>
   rw[Ke,Ke,VS,Jd,ih,KZ];have h5:o.toNat%5<5:=Km _ (by decide);have:∀q<5,(Lib.fields (32::opsT.getD q [])).length=1:=by decide+kernel
   rw[this _ h5];omega
 rw[key];exact h4
theorem first_4(x:XC)(verb:Str):(Qh (QV x verb)).length<=4:=by
 have h:(Qh (if x.p=[]then[]else QY (x.p.getD 0 noY).ops)).length<=4:=by
  split
  ·exact(by decide:(Qh []).length<=4)
  ·exact qod _
 unfold QV;simp only;by_cases hc:verb=IFv/\(if x.p=[]then[]else QY (x.p.getD 0 noY).ops)=[]
 ·rw[if_pos hc];decide
 ·rw[if_neg hc];exact h
def PhrW(p:PhrC):Prop:=qaR p.words=true/\p.toks.length<=20/\∀t∈p.toks,qmR t
def WfS:Nat->List StC->Prop
 |0,l=>l=[]
 |m+1,l=>l.length<=4/\∀s∈l,qkV s.verb=true/\(s.phrases≠[]/\s.phrases.length<=5/\∀p∈s.phrases,PhrW p)/\s.bodies.length<=4/\∀b∈s.bodies,qaR b.1=true/\b.2.1.length<=4/\(∀t∈b.2.1,qmR t)/\WfS m b.2.2
theorem phrase_W{forms:List Str}(hF:qfN forms)(hne:forms≠[])(y:YC)(b:BuC)(hn:b.cur.phrases≠[]){M:Nat}(h:∀p∈b.cur.phrases,qaR p.words=true/\p.toks.length<=M/\∀t∈p.toks,qmR t):
 (QJ forms b y).cur.phrases≠[]/\(QJ forms b y).cur.phrases.length<=b.cur.phrases.length+1/\(∀p∈(QJ forms b y).cur.phrases,qaR p.words=true/\p.toks.length<=M+4/\∀t∈p.toks,qmR t)/\(QJ forms b y).text.length<=b.text.length+260000:=by
 have hm:y.form.toNat%forms.length<forms.length:=Km _ (Bv.2 hne);obtain⟨form,hf⟩:∃form,form=forms.getD (y.form.toNat%forms.length) []:=⟨_,rfl⟩
 obtain⟨hfw,hfl⟩:=hF form (by rw[hf,Ko,JD hm];exact VY hm);have hw16:=(Go.Stm.wordsE_ok y.ops).1;have ht:=qjm hw16;have h4:=qod y.ops;have hlen:=qhb hfl y.short true;unfold QJ;simp only;rw[<-hf];split
 ·refine⟨by simp[qaj],?_,fun p hp=>?_,by simp only[ZT,YB];omega⟩
  ·have:=Bv.2 hn
   have e:(YB b (Zl form y.short true++QY y.ops)).cur.phrases=b.cur.phrases:=rfl;simp only[ZT,qaj,E8,e];omega
  simp only[qaj]at hp;have e:(YB b (Zl form y.short true++QY y.ops)).cur.phrases=b.cur.phrases:=rfl;rw[e]at hp;rcases JX.1 hp with z|z
  ·exact⟨(h p (E9 _ z)).1,Vg (h p (E9 _ z)).2.1 (by omega),(h p (E9 _ z)).2.2⟩
  ·rw[V9.1 z]
   have hl:=h (b.cur.phrases.getLastD ⟨[],[]⟩) (by
    rw[BQ,Da hn];exact Db hn)
   refine⟨hl.1,by have:=hl.2.1;rw[Jd];omega,fun t htm=>?_⟩;rcases JX.1 htm with z|z
   ·exact hl.2.2 t z
   ·exact ht t z
 ·refine⟨by simp,by rw[Jd,JH];exact KL _,fun p hp=>?_,by simp only[ZT,YB];omega⟩
  have e:(YB b (Zl form y.short true++QY y.ops)).cur.phrases=b.cur.phrases:=rfl;rw[e]at hp;rcases JX.1 hp with z|z
  ·exact⟨(h p z).1,Vg (h p z).2.1 (by omega),(h p z).2.2⟩
  ·rw[V9.1 z]
   exact⟨hfw,by simp only;omega,ht⟩
theorem qly{forms:List Str}(hF:qfN forms)(hne:forms≠[]):∀(l:List YC) (b:BuC) (M:Nat),b.cur.phrases≠[]->(∀p∈b.cur.phrases,qaR p.words=true/\p.toks.length<=M/\∀t∈p.toks,qmR t)->
 (l.foldl (QJ forms) b).cur.phrases≠[]/\(l.foldl (QJ forms) b).cur.phrases.length<=b.cur.phrases.length+l.length/\(∀p∈(l.foldl (QJ forms) b).cur.phrases,qaR p.words=true/\p.toks.length<=M+4*l.length/\∀t∈p.toks,qmR t)/\(l.foldl (QJ forms) b).text.length<=b.text.length+260000*l.length
 |[],b,M,hn,h=>⟨hn,by simp,h,by simp⟩
 |y::l,b,M,hn,h=>by
  obtain⟨a1,a2,a3,a4⟩:=phrase_W hF hne y b hn h;obtain⟨b1,b2,b3,b4⟩:=qly hF hne l _ (M+4) a1 a3;rw[KZ];exact⟨b1,by rw[EP];omega,fun p hp=>⟨(b3 p hp).1,by have:=(b3 p hp).2.1;omega,(b3 p hp).2.2⟩,by rw[EP];omega⟩
theorem phrases_W{forms:List Str}(hF:qfN forms)(x:XC)(b:BuC):(Xb x b forms).cur.phrases≠[]/\((Xb x b forms).cur.phrases.length<=5/\∀p∈(Xb x b forms).cur.phrases,PhrW p)/\(Xb x b forms).text.length<=b.text.length+1100000:=by
 have h16:=qnN x b.cur.verb;have ht:=qjm h16;have h0:∀p∈[(⟨[],Qh (QV x b.cur.verb)⟩:PhrC)],qaR p.words=true/\p.toks.length<=4/\∀t∈p.toks,qmR t:=fun p hp=>by rw[V9.1 hp];exact⟨(by decide:qaR []=true),first_4 x _,ht⟩
 unfold Xb;simp only;split
 ·exact⟨by simp,⟨by simp,fun p hp=>⟨(h0 p hp).1,Vg (h0 p hp).2.1 (by decide),(h0 p hp).2.2⟩⟩,by simp only[ZT,YB];omega⟩
 ·rename_i hne
  have hl:((x.p.take 5).drop 1).length<=4:=by rw[K7,K6];omega
  obtain⟨b1,b2,b3,b4⟩:=qly hF hne ((x.p.take 5).drop 1) {YB b (QV x b.cur.verb)with cur:={(YB b (QV x b.cur.verb)).cur with phrases:=[⟨[],Qh (QV x b.cur.verb)⟩]}} 4 (by simp) h0;refine⟨b1,⟨Vg b2 (by simp only[JH];omega),fun p hp=>⟨(b3 p hp).1,Vg (b3 p hp).2.1 (by omega),(b3 p hp).2.2⟩⟩,Vg b4 ?_⟩;show(b.text++[32]++QV x b.cur.verb).length+_<=_
  simp only[ZT];omega
end Go.Stm
namespace Go.Stm
open Go.Col (Str FaultC okF)
open Go.Tok
open Go.Proofs.YtgiadjbiimkbiaaGreatDoor (asciiB)
set_option maxRecDepth 100000
def ZK(m:Nat)(bs:List (Str×List TokC×List StC)):Nat:=(bs.map fun b=>QW m b.2.2).sum
theorem qnS(m:Nat)(bs:List BodC)(b:BodC):ZK m (bs++[b])=ZK m bs+QW m b.2.2:=by simp[ZK]
structure BOk(B:List XC->Nat->Bool->Str×List StC)(m d:Nat)(cF:List XC->Nat):Prop where
 wf:∀l last,WfS m (B l d last).2
 cnt:∀l last,QW m (B l d last).2<=1+5*cF l
 len:∀l last,(B l d last).1.length<=3000000*QW m (B l d last).2
def qsI(m:Nat)(b:BodC):Prop:=qaR b.1=true/\b.2.1.length<=4/\(∀t∈b.2.1,qmR t)/\WfS m b.2.2
theorem body_W{B:List XC->Nat->Bool->Str×List StC}{m d:Nat}{cF:List XC->Nat}(hB:BOk B m (d+1) cF){b:BuC}{name ops:Str}{l:List XC}{last:Bool}(hw:qaR name=true)(ho:ops.length<=16)(h17:(Qh ops).length<=4)(h:∀x∈b.cur.bodies,qsI m x):
 (∀x∈(WP B b name ops l d last).cur.bodies,qsI m x)/\ZK m (WP B b name ops l d last).cur.bodies<=ZK m b.cur.bodies+(1+5*cF l)/\
 (WP B b name ops l d last).text.length+3000000*ZK m b.cur.bodies<=b.text.length+16+3000000*ZK m (WP B b name ops l d last).cur.bodies:=by
 refine⟨fun x hx=>?_,?_,?_⟩
 ·rcases JX.1 hx with z|z
  ·exact h x z
  ·rw[V9.1 z]
   exact⟨hw,h17,qjm ho,hB.wf l last⟩
 ·show ZK m (b.cur.bodies++[_])<=_
  rw[qnS];have:=hB.cnt l last;simp only;omega
 ·show(b.text++ops++(B l (d+1) last).1).length+_<=_+3000000*ZK m (b.cur.bodies++[_])
  rw[qnS];have:=hB.len l last;simp only[Jd];omega
def qhM(cF:List XC->Nat)(x:XC)(is:List Nat):Nat:=(is.map fun i=>cF (x.b.getD i noZ).2.2.1).sum
theorem formB_W{verb:Str}{forms:List Str}(hF:qfN forms)(z:ZC)(i:Nat)(hne:XB verb forms z i≠[]):qaR (Xj (XB verb forms z i))=true/\(XB verb forms z i).length<=500:=by
 have hr:=rows_W;rw[Ky,Ky]at hr;unfold XB at hne|-
 split
 ·split
  ·exact⟨hr.2.1,by decide⟩
  ·exact⟨hr.2.2,by decide⟩
 ·rename_i h1
  rw[if_neg h1]at hne;split
  ·rename_i h2
   rw[if_pos h2]at hne;exact absurd rfl hne
  ·rename_i h2
   have hm:z.1.toNat%forms.length<forms.length:=Km _ (Bv.2 h2);exact hF _ (by rw[Ko,JD hm];exact VY hm)
theorem opsB_4(name:Str)(z:ZC):(Qh (qbp name z)).length<=4:=by
 unfold qbp;split
 ·split
  ·decide
  ·exact qod _
 ·decide
theorem steps_W{B:List XC->Nat->Bool->Str×List StC}{m d:Nat}{cF:List XC->Nat}(hB:BOk B m (d+1) cF)(x:XC){forms:List Str}(hF:qfN forms)(last:Bool):∀(is:List Nat) (s:BuC×Str),(∀y∈s.1.cur.bodies,qsI m y)->
 (∀y∈(is.foldl (Qn B x forms d last) s).1.cur.bodies,qsI m y)/\(is.foldl (Qn B x forms d last) s).1.cur.bodies.length<=s.1.cur.bodies.length+is.length/\
 ZK m (is.foldl (Qn B x forms d last) s).1.cur.bodies<=ZK m s.1.cur.bodies+is.length+5*qhM cF x is/\
 (is.foldl (Qn B x forms d last) s).1.text.length+3000000*ZK m s.1.cur.bodies<=s.1.text.length+300000*is.length+3000000*ZK m (is.foldl (Qn B x forms d last) s).1.cur.bodies
 |[],s,h=>⟨h,by simp,by simp[qhM],by simp⟩
 |i::is,s,h=>by
  have hstep:(∀y∈(Qn B x forms d last s i).1.cur.bodies,qsI m y)/\(Qn B x forms d last s i).1.cur.bodies.length<=s.1.cur.bodies.length+1/\ZK m (Qn B x forms d last s i).1.cur.bodies<=ZK m s.1.cur.bodies+(1+5*cF (x.b.getD i noZ).2.2.1)/\
   (Qn B x forms d last s i).1.text.length+3000000*ZK m s.1.cur.bodies<=s.1.text.length+300000+3000000*ZK m (Qn B x forms d last s i).1.cur.bodies:=by
   unfold Qn;simp only;split
   ·exact⟨h,by omega,by omega,by omega⟩
   ·rename_i hsk
    obtain⟨form,hf⟩:∃form,form=XB s.1.cur.verb forms (x.b.getD i noZ) i:=⟨_,rfl⟩
    rw[<-hf]at hsk|-
    have hne:form≠[]:=fun e=>hsk (by unfold UL;rw[e];rfl);have hw:=formB_W hF (x.b.getD i noZ) i (verb:=s.1.cur.verb) (by rw[<-hf];exact hne);rw[<-hf]at hw;have htx:=qnf hw.2 (Xj form) (x.b.getD i noZ);obtain⟨a1,a2,a3⟩:=body_W hB (b:=YB s.1 (qak form (Xj form) (x.b.getD i noZ))) (l:=(x.b.getD i noZ).2.2.1) (last:=last && (decide (i=3)||decide (x.b.length<=i+1))) hw.1 (qoz (Xj form) (x.b.getD i noZ)).1 (opsB_4 _ _) h;refine⟨a1,?_,a2,?_⟩
    ·show(s.1.cur.bodies++[_]).length<=_
     rw[Jd,JH];exact KL _
    ·have e:(YB s.1 (qak form (Xj form) (x.b.getD i noZ))).text.length=s.1.text.length+1+(qak form (Xj form) (x.b.getD i noZ)).length:=by
      show(s.1.text++[32]++_).length=_
      simp only[ZT]
     have e2:(YB s.1 (qak form (Xj form) (x.b.getD i noZ))).cur.bodies=s.1.cur.bodies:=rfl;rw[e,e2]at a3;simp only;omega
  obtain⟨s1,s2,s3,s4⟩:=hstep;obtain⟨b1,b2,b3,b4⟩:=steps_W hB x hF last is _ s1;rw[EP,KZ];have er:qhM cF x (i::is)=cF (x.b.getD i noZ).2.2.1+qhM cF x is:=by simp[qhM]
  rw[er];exact⟨b1,by omega,by omega,by omega⟩
theorem qlc{α:Type}:∀l:List α,(l.map fun _=>0).sum=0
 |[]=>rfl
 |_::l=>by rw[Ke,De,qlc l]
theorem sum_one{α:Type}:∀l:List α,(l.map fun _=>1).sum=l.length
 |[]=>rfl
 |_::l=>by rw[Ke,De,sum_one l,KZ];omega
theorem qpV{cF:List XC->Nat}(h0:cF []=0)(x:XC)(n:Nat):qhM cF x (KP n)<=(x.b.map fun z=>cF z.2.2.1).sum:=by
 unfold qhM;generalize x.b=b;induction b generalizing n with
 |nil=>
  have:(KP n).map (fun i=>cF (([]:List ZC).getD i noZ).2.2.1)=(KP n).map fun _=>0:=Dg fun i _=>h0;rw[this,qlc];exact Js _
 |cons z b ih=>
  cases n with
  |zero=>simp
  |succ n=>
   rw[Dh,Ke,De,Di,Ke,De];have:=ih n;have e:((fun i=>cF ((z::b).getD i noZ).2.2.1) ∘ Nat.succ)=fun i=>cF (b.getD i noZ).2.2.1:=rfl;rw[e];show cF z.2.2.1+_<=_
   omega
theorem bodies_W{B:List XC->Nat->Bool->Str×List StC}{m d:Nat}{cF:List XC->Nat}(h0:cF []=0)(hB:BOk B m (d+1) cF)(x:XC){forms:List Str}(hF:qfN forms)(last:Bool){b:BuC}(hb:b.cur.bodies=[]):
 (∀y∈(XH B x b forms d last).cur.bodies,qsI m y)/\(XH B x b forms d last).cur.bodies.length<=4/\ZK m (XH B x b forms d last).cur.bodies<=4+5*(x.b.map fun z=>cF z.2.2.1).sum/\
 (XH B x b forms d last).text.length<=b.text.length+1200100+3000000*ZK m (XH B x b forms d last).cur.bodies:=by
 unfold XH;simp only;split
 ·split
  ·obtain⟨a1,a2,a3⟩:=body_W hB (b:=b) (name:=[]) (ops:=[]) (l:=(x.b.getD 0 noZ).2.2.1) (last:=false) (by decide) (by decide) (by decide) (fun y hy=>by rw[hb]at hy;cases hy)
   have hr:=qpV h0 x 1;have er:qhM cF x (KP 1)=cF (x.b.getD 0 noZ).2.2.1:=by simp[qhM,List.range_succ]
   rw[er]at hr;have hc:ZK m b.cur.bodies=0:=by rw[hb];rfl
   rw[hc]at a2 a3;refine⟨a1,?_,by omega,by omega⟩;show(b.cur.bodies++[_]).length<=4
   rw[hb];exact(by decide:1<=4)
  ·rw[hb]
   exact⟨(fun y hy=>by cases hy),Js _,Js _,by omega⟩
 ·obtain⟨n,hn⟩:∃n,n=min 4 (max x.b.length (if Ue b.cur.verb=true then 1 else 0)):=⟨_,rfl⟩
  have hn4:n<=4:=by omega
  rw[<-hn];obtain⟨a1,a2,a3,a4⟩:=steps_W hB x hF last (KP n) (b,[]) (fun y hy=>by simp only at hy;rw[hb]at hy;cases hy);have hr:=qpV h0 x n;have hc:ZK m b.cur.bodies=0:=by rw[hb];rfl
  simp only[JF,hb,ES]at a2 a3 a4;rw[show ZK m []=0 from rfl]at a3 a4;exact⟨a1,by omega,by omega,by omega⟩
theorem qdr(B:List XC->Nat->Bool->Str×List StC)(x:XC)(b:BuC)(d:Nat)(last:Bool)(hv:b.cur.verb≠XY)(hn:Ue b.cur.verb=false):XH B x b [] d last=b:=by
 unfold XH;simp only;rw[if_neg hv];have key:∀(is:List Nat) (s:BuC×Str),s.1.cur.verb=b.cur.verb->is.foldl (Qn B x [] d last) s=s:=by
  intro is;induction is with
  |nil=>intro s _;rfl
  |cons i is ih=>
   intro s hs;have:Qn B x [] d last s i=s:=by
    unfold Qn;simp only;rw[if_pos];unfold UL XB;rw[hs,hn,if_neg (by simp),if_pos rfl];rfl
   rw[EP,this];exact ih s hs
 rw[key _ (b,[]) rfl]
theorem xbuild_W{B:List XC->Nat->Bool->Str×List StC}{m d:Nat}{cF:List XC->Nat}(h0:cF []=0)(hB:d<=4->BOk B m (d+1) cF)(x:XC)(end_ last:Bool):
 qkV (QU B x d end_ last).cur.verb=true/\((QU B x d end_ last).cur.phrases≠[]/\(QU B x d end_ last).cur.phrases.length<=5/\∀p∈(QU B x d end_ last).cur.phrases,PhrW p)/\
 ((QU B x d end_ last).cur.bodies.length<=4/\∀y∈(QU B x d end_ last).cur.bodies,qsI m y)/\ZK m (QU B x d end_ last).cur.bodies<=4+5*(x.b.map fun z=>cF z.2.2.1).sum/\
 (QU B x d end_ last).text.length<=2500000+3000000*ZK m (QU B x d end_ last).cur.bodies:=by
 obtain⟨k,hk⟩:∃k,k=if 4<d then 21 else x.verb.toNat%39:=⟨_,rfl⟩
 have hk39:k<39:=by rw[hk];split<;>omega
 obtain⟨r0,r1,r2,hrow,hr0,_⟩:=qno hk39;obtain⟨w0,w1,w2⟩:=row_W hk39 hrow;obtain⟨b1,hb1⟩:∃b1,b1=Xb x ⟨32::r0,⟨r0,0,0,[],[]⟩⟩ (Qc r1):=⟨_,rfl⟩
 obtain⟨b2,hb2⟩:∃b2,b2=XH B x b1 (Qc r2) d last:=⟨_,rfl⟩
 have hxE:QU B x d end_ last=if QO b2 r0 x.cut end_ last=true then YB b2 (ENDw++r0)else b2:=by
  unfold QU rowOf;rw[<-hk,hrow,hb2,hb1];rfl
 obtain⟨p1,p2,p3⟩:=phrases_W w1 x ⟨32::r0,⟨r0,0,0,[],[]⟩⟩;obtain⟨v1,v2,_,_⟩:=WK x ⟨32::r0,⟨r0,0,0,[],[]⟩⟩ (Qc r1);rw[<-hb1]at p1 p2 p3 v1 v2;simp only[KZ]at p3;simp only at v1 v2;obtain⟨u1,u2,_,_⟩:=qeM B x b1 (Qc r2) d last;rw[<-hb2]at u1 u2;have hbW:(∀y∈b2.cur.bodies,qsI m y)/\b2.cur.bodies.length<=4/\ZK m b2.cur.bodies<=4+5*(x.b.map fun z=>cF z.2.2.1).sum/\b2.text.length<=b1.text.length+1200100+3000000*ZK m b2.cur.bodies:=by
  by_cases h4:d<=4
  ·rw[hb2]
   exact bodies_W h0 (hB h4) x w2 last v2
  ·rw[if_pos (by omega)]at hk
   rw[hk,row_21]at hrow;simp only[and_true,List.cons.injEq]at hrow;have e2:Qc r2=[]:=by rw[<-hrow.2.2];rfl
   have:b2=b1:=by
    rw[hb2,e2];exact qdr B x b1 d last (by rw[v1,<-hrow.1];decide) (by rw[v1,<-hrow.1];decide)
   rw[this,v2];exact⟨(fun y hy=>by cases hy),Js _,Js _,by omega⟩
 have hc:(QU B x d end_ last).cur=b2.cur:=by rw[hxE];split<;>rfl
 have ht:(QU B x d end_ last).text.length<=b2.text.length+100:=by
  rw[hxE];split
  ·show(b2.text++[32]++(ENDw++r0)).length<=_
   simp only[ZT,show ENDw.length=4 from rfl];omega
  ·omega
 rw[hc,u1,u2,v1];exact⟨w0,⟨p1,p2⟩,⟨hbW.2.1,hbW.1⟩,hbW.2.2.1,by omega⟩
theorem qeG(m:Nat)(S:List StC)(s:StC):QW (m+1) (S++[s])=QW (m+1) S+(1+ZK m s.bodies):=by
 simp only[ZT,QW,JK,Dj,Es,Dk,ZK];omega
def cX1(cF:List XC->Nat)(x:XC):Nat:=1+(x.b.map fun z=>cF z.2.2.1).sum
theorem qjF{B:List XC->Nat->Bool->Str×List StC}{m d:Nat}{cF:List XC->Nat}(h0:cF []=0)(hB:d<=4->BOk B m (d+1) cF)(l:List XC)(last:Bool):∀(n:Nat) (T:Str) (S:List StC),S.length+n<=4->WfS (m+1) S->
 QW (m+1) S<=5*((l.take S.length).map (cX1 cF)).sum->T.length<=3000000*QW (m+1) S->
 WfS (m+1) (Xw B l d last n (T,S)).2/\QW (m+1) (Xw B l d last n (T,S)).2<=5*(l.map (cX1 cF)).sum/\(Xw B l d last n (T,S)).1.length<=3000000*QW (m+1) (Xw B l d last n (T,S)).2
 |0,T,S,_,hW,hc,ht=>by
  refine⟨hW,Vg hc ?_,ht⟩;have:((l.take S.length).map (cX1 cF)).sum<=(l.map (cX1 cF)).sum:=by
   have e:(l.map (cX1 cF)).sum=((l.take S.length).map (cX1 cF)).sum+((l.drop S.length).map (cX1 cF)).sum:=by rw[<-Dj,<-JK,List.take_append_drop]
   omega
  omega
 |n+1,T,S,hn,hW,hc,ht=>by
  by_cases hi:S.length<l.length/\S.length<4
  ·rw[Um _ _ _ _ _ _ _ hi.1 hi.2]
   obtain⟨e,he⟩:∃e,e=(decide (S.length+1=l.length)||decide (S.length=3)):=⟨_,rfl⟩
   rw[<-he];obtain⟨x,hx⟩:∃x,x=l.getD S.length noX:=⟨_,rfl⟩
   rw[<-hx];obtain⟨a1,a2,a3,a4,a5⟩:=xbuild_W h0 hB x e (last && e);obtain⟨b,hb⟩:∃b,b=QU B x d e (last && e):=⟨_,rfl⟩
   rw[<-hb]at a1 a2 a3 a4 a5|-
   have ht2:((l.take (S.length+1)).map (cX1 cF)).sum=((l.take S.length).map (cX1 cF)).sum+cX1 cF x:=by
    rw[List.take_add_one,JD hi.1,JK,Dj];have:l[S.length]=x:=by rw[hx,Ko,JD hi.1];rfl
    rw[this];simp
   refine qjF h0 hB l last n _ _ (by rw[Jd,JH];omega) ⟨by rw[Jd,JH];omega,fun s hs=>?_⟩ ?_ ?_
   ·rcases JX.1 hs with z|z
    ·exact hW.2 s z
    ·rw[V9.1 z]
     exact⟨a1,a2,a3⟩
   ·rw[qeG,Jd,JH,ht2]
    have:ZK m b.cur.done.bodies=ZK m b.cur.bodies:=rfl;rw[this];unfold cX1 at hc|-
    omega
   ·rw[qeG,Jd]
    have:ZK m b.cur.done.bodies=ZK m b.cur.bodies:=rfl;rw[this];omega
  ·rw[WF _ _ _ _ _ _ _ hi]
   exact qjF h0 hB l last 0 T S (by omega) hW hc ht
theorem cntX_nil:∀f,qjC f []=0
 |0=>rfl
 |_+1=>rfl
theorem contC_W(m:Nat):WfS (m+1) [contC]:=⟨by decide,fun s hs=>by
 rw[V9.1 hs];exact⟨by decide,⟨by simp[contC,StC.phrases],by simp[contC,StC.phrases],fun p hp=>by rw[V9.1 hp];exact⟨by decide,Js _,fun t ht=>by cases ht⟩⟩,by simp[contC,Eo],fun b hb=>by cases hb⟩⟩
theorem build_W:∀(f F d:Nat),6<=f+d->d<=5->f<=F+1->BOk (Qi f) f d (qjC F)/\∀l last,(Qi f l d last).2≠[]
 |0,_,_,h6,h5,_=>by omega
 |f+1,F,d,h6,h5,hF=>by
  have key:∀(cF:List XC->Nat),cF []=0->(d<=4->BOk (Qi f) f (d+1) cF)->∀l last,WfS (f+1) (Qi (f+1) l d last).2/\QW (f+1) (Qi (f+1) l d last).2<=1+5*(l.map (cX1 cF)).sum/\(Qi (f+1) l d last).1.length<=3000000*QW (f+1) (Qi (f+1) l d last).2/\(Qi (f+1) l d last).2≠[]:=fun cF h0 hB l last=>by
   obtain⟨a1,a2,a3⟩:=qjF h0 hB l last 4 [] [] (by decide) ⟨by decide,fun s hs=>by cases hs⟩ (by simp[QW]) (Js _);have hE:Qi (f+1) l d last=if (Xw (Qi f) l d last 4 ([],[])).2=[]then([32,67,79,78,84,73,78,85,69],[contC])else Xw (Qi f) l d last 4 ([],[]):=rfl
   rw[hE];split
   ·refine⟨contC_W f,?_,?_,by simp⟩
    ·have:QW (f+1) [contC]=1:=by simp[QW,contC,Eo]
     rw[this];omega
    ·have:QW (f+1) [contC]=1:=by simp[QW,contC,Eo]
     rw[this];decide
   ·rename_i hne
    exact⟨a1,by omega,a3,hne⟩
  cases F with
  |zero=>
   have hf0:f=0:=by omega
   have h:=key (fun _=>0) rfl (fun h4=>by omega);refine⟨⟨fun l last=>(h l last).1,fun l last=>?_,fun l last=>(h l last).2.2.1⟩,fun l last=>(h l last).2.2.2⟩;have h2:=(h l last).2.1;have e:(l.map (cX1 fun _=>0)).sum=l.length:=by
    have:(cX1 fun _=>0)=fun _=>1:=by
     funext x;unfold cX1;rw[qlc]
    rw[this,sum_one]
   rw[e]at h2;exact h2
  |succ F=>
   have h:=key (qjC F) (cntX_nil F) (fun h4=>(build_W f F (d+1) (by omega) (by omega) (by omega)).1);refine⟨⟨fun l last=>(h l last).1,fun l last=>?_,fun l last=>(h l last).2.2.1⟩,fun l last=>(h l last).2.2.2⟩;have h2:=(h l last).2.1;have e:∀l:List XC,(l.map (cX1 (qjC F))).sum=qjC (F+1) l:=fun l=>by
    rw[qjC];induction l with
    |nil=>rfl
    |cons x l ih=>
     rw[Ke,De,ih,Ke,De,KZ];unfold cX1;omega
   rw[e]at h2;exact h2
end Go.Stm
namespace Go.Stm
open Go.Col (Str FaultC okF)
open Go.Tok
set_option maxRecDepth 100000
theorem T_word:((KP 39).all fun k=>decide (KW (32::qi k)=[(1,qi k)]) && (!endedV.contains (qi k)||decide (KW (ENDw++qi k)=[qda (qi k)])))=true:=by decide+kernel
theorem T_kind:((KP 39).all fun k=>(!decide (QB k=[])||(decide (bq k=[]) && (decide (qi k=XY)||(!endedV.contains (qi k) && !Ue (qi k))))) &&
 ((decide (QB k=[])||(endedV.contains (qi k) && (!decide (qi k=XY) && !decide (QF k=goF)))) && ((!decide (qi k=XY)||(decide (QB k=[]) && (!decide (QF k=goF) && (endedV.contains (qi k) && !Ue (qi k))))) && (!decide (qi k=IFv)||decide (QF k=[])))))=true:=by decide+kernel
theorem qeB{k:Nat}(hk:k<39):(QB k=[]->bq k=[]/\(qi k=XY\/(qi k∉endedV/\Ue (qi k)=false)))/\(QB k≠[]->qi k∈endedV/\qi k≠XY/\QF k≠goF)/\(qi k=XY->QB k=[]/\QF k≠goF/\qi k∈endedV/\Ue (qi k)=false)/\(qi k=IFv->QF k=[]):=by
 have h:=JB.1 T_kind k (JC.2 hk);simp only[Ky,decide_eq_true_eq,Jj,JJ,decide_eq_false_iff_not,Va]at h;obtain⟨h1,h2,h3,h4⟩:=h;refine⟨fun e=>?_,fun e=>?_,fun e=>?_,fun e=>?_⟩
 ·rcases h1 with h1|⟨h1,h5⟩
  ·exact absurd e h1
  ·refine⟨h1,?_⟩
   rcases h5 with h5|⟨h5,h6⟩
   ·exact .inl h5
   ·exact .inr ⟨(fun hm=>by rw[Va.2 hm]at h5;cases h5),h6⟩
 ·rcases h2 with h2|⟨h2,h5,h6⟩
  ·exact absurd h2 e
  ·exact⟨h2,h5,h6⟩
 ·rcases h3 with h3|⟨h3,h5,h6,h7⟩
  ·exact absurd e h3
  ·exact⟨h3,h5,h6,h7⟩
 ·rcases h4 with h4|h4
  ·exact absurd e h4
  ·exact h4
theorem KW_verb{k:Nat}(hk:k<39):KW (32::qi k)=[(1,qi k)]:=by
 have h:=JB.1 T_word k (JC.2 hk);rw[Ky,decide_eq_true_eq]at h;exact h.1
theorem KW_end{k:Nat}(hk:k<39)(hv:qi k∈endedV):KW (ENDw++qi k)=[qda (qi k)]:=by
 have h:=JB.1 T_word k (JC.2 hk);rw[Ky,JJ,decide_eq_true_eq,Va.2 hv]at h;rcases h.2 with h|h
 ·cases h
 ·exact of_decide_eq_true h
theorem qiv{k:Nat}(hk:k<39):Lib.contains qgO ([32]++qi k++[32])=endedV.contains (qi k):=by
 have h:=JB.1 T_end k (JC.2 hk);rw[Ky,decide_eq_true_eq]at h;exact h.1
def NextA(l:List TokC)(e:Nat):Prop:=(∃O,FolN l O e)\/VerbA l e
theorem NextA.nxt{l:List TokC}{e:Nat}(h:NextA l e){F:Str}(hF:F∈PFS)(fs:List Fm):Nxt l F fs e:=by
 rcases h with⟨O,h⟩|h
 ·exact h.nxt hF fs
 ·exact qid (h.f F (.inl hF))
theorem NextA.notRec{l:List TokC}{e:Nat}(h:NextA l e):¬At l e [(1,Yj)]:=by
 rcases h with⟨O,h⟩|h
 ·exact h.notRec
 ·exact h.notON (.inr rfl)
theorem Fol.toN{l:List TokC}{O:List Str}{last:Bool}{vs:List Str}{e:Nat}(h:Fol l O last vs e):FolN l O e:=by
 unfold Fol at h;split at h
 ·exact h.toN
 ·exact h
theorem qrS(x:XC)(verb:Str):∀κ∈KW (QV x verb),κ∈opK:=by
 have h:∀κ∈KW (if x.p=[]then[]else QY (x.p.getD 0 noY).ops),κ∈opK:=by
  split
  ·intro κ h;cases h
  ·exact qdB _
 unfold QV;simp only;by_cases hc:verb=IFv/\(if x.p=[]then[]else QY (x.p.getD 0 noY).ops)=[]
 ·rw[if_pos hc];decide+kernel
 ·rw[if_neg hc];exact h
theorem first_ne(x:XC){v:Str}(hv:v=IFv):KW (QV x v)≠[]:=by
 unfold QV;simp only;by_cases hc:v=IFv/\(if x.p=[]then[]else QY (x.p.getD 0 noY).ops)=[]
 ·rw[if_pos hc];decide+kernel
 ·rw[if_neg hc]
  have hne:¬(if x.p=[]then[]else QY (x.p.getD 0 noY).ops)=[]:=fun e=>hc ⟨hv,e⟩;split at hne
  ·exact absurd rfl hne
  ·rename_i hp
   rw[if_neg hp];rw[qiM];intro e;apply hne;unfold QY;rw[V5.1 e];rfl
def qky(x:XC)(forms:List Str):List KT:=if forms=[]then[]else(((x.p.take 5).drop 1).map (UG forms)).flatten
section
variable {l:List TokC} {d:Nat} {O:List Str} {k:Nat}
theorem qga(hk:k<39)(hO:∀f∈O,f∈BFS)(x:XC){e:Nat}(b1:BuC)(hb1:b1=Xb x ⟨32::qi k,⟨qi k,0,0,[],[]⟩⟩ (Qc (QF k))):
 ∃ws,KW b1.text=(1,qi k)::ws/\(At l e (KW b1.text)->NextA l (e+(KW b1.text).length)->
  ∃c p,CurK c (qi k) (phm b1.cur.phrases)/\c.bodies=[]/\(p=e+(KW b1.text).length\/(p=e+(KW b1.text).length+1/\QF k=goF/\At l (e+(KW b1.text).length) [(1,wON)]))/\
   ∀r,LoopR wordsO l Qo d (O++[bq k]) (QF k) c p r->LoopR wordsO l Qo d (O++[bq k]) (QF k) (qck l e) (e+1) r):=by
 obtain⟨fs,gs,hfs,hgs,hfe⟩:=qet hk;have hform:Qc (QF k)=fs.map (·.form):=(qeT hfs).1;obtain⟨b0,hb0⟩:∃b0:BuC,b0={YB ⟨32::qi k,⟨qi k,0,0,[],[]⟩⟩ (QV x (qi k))with cur:={(YB ⟨32::qi k,⟨qi k,0,0,[],[]⟩⟩ (QV x (qi k))).cur with phrases:=[⟨[],Qh (QV x (qi k))⟩]}}:=⟨_,rfl⟩
 have hKW0:KW b0.text=(1,qi k)::KW (QV x (qi k)):=by
  rw[hb0];show KW (32::qi k++[32]++QV x (qi k))=_
  rw[qkr,KW_verb hk];rfl
 have hph0:phm b0.cur.phrases=[([],KW (QV x (qi k)))]:=by
  rw[hb0];show[([],(Qh (QV x (qi k))).map kt)]=_
  rw[UV]
 have hne0:b0.cur.phrases≠[]:=by rw[hb0];simp
 have hE:b1=if Qc (QF k)=[]then b0 else((x.p.take 5).drop 1).foldl (QJ (Qc (QF k))) b0:=by rw[hb1,hb0];rfl
 have hKW1:KW b1.text=(1,qi k)::(KW (QV x (qi k))++qky x (Qc (QF k))):=by
  rw[hE];unfold qky;split
  ·rw[hKW0,JG]
  ·have:∀(ys:List YC) (b:BuC),KW (ys.foldl (QJ (Qc (QF k))) b).text=KW b.text++(ys.map (UG (Qc (QF k)))).flatten:=by
    intro ys;induction ys with
    |nil=>intro b;simp
    |cons y ys ih=>intro b;rw[EP,ih,qjJ,Ke,VS,Jb]
   rw[this,hKW0];rfl
 refine⟨_,hKW1,fun ha hN=>?_⟩;rw[hKW1]at ha hN|-
 have hv:(l.getD e noT).text=qi k:=congrArg Prod.snd ha.1.2;obtain⟨ha1,ha2⟩:=EU.1 ha.2;have hc0:CurK (qck l e) (qi k) [([],[])]:=⟨hv,rfl,by simp[qck]⟩
 obtain⟨c1,g1,g2,g3⟩:=qie (d:=d) hk hO (KW (QV x (qi k))) (qck l e) (e+1) (qrS x _) rfl hc0 ha1;have hadd:qfg [(([]:Str),([]:List KT))] (KW (QV x (qi k)))=[([],KW (QV x (qi k)))]:=qbH [] [] [] _;rw[hadd,<-hph0]at g1;have hlen:e+((1,qi k)::(KW (QV x (qi k))++qky x (Qc (QF k)))).length=e+1+(KW (QV x (qi k))).length+(qky x (Qc (QF k))).length:=by simp only[KZ,Jd];omega
 rw[hlen]at hN|-
 by_cases hf:Qc (QF k)=[]
 ·have h0:qky x (Qc (QF k))=[]:=by unfold qky;rw[if_pos hf]
  rw[h0,JF,K8];rw[hE,if_pos hf];exact⟨c1,_,g1,g2, .inl rfl,g3⟩
 ·have h0:qky x (Qc (QF k))=(((x.p.take 5).drop 1).map (UG (Qc (QF k)))).flatten:=by unfold qky;rw[if_neg hf]
  rw[h0]at ha2 hN|-
  obtain⟨c2,p2,q1,q2,q3,_,q5⟩:=qhN (d:=d) hk hO hfs hform hf ((x.p.take 5).drop 1) b0 c1 (e+1+(KW (QV x (qi k))).length) (e+1+(KW (QV x (qi k))).length) g2 g1 hne0 (.inl rfl) ha2 (hN.nxt (qot hk) fs);rw[hE,if_neg hf];refine⟨c2,p2,q1,q2,?_,fun r hr=>g3 r (q5 r hr)⟩;rcases q3 with h|⟨h,⟨h1,h2⟩|⟨_,h2⟩⟩
  ·exact .inl h
  ·exact .inr ⟨h,h1,h2⟩
  ·exact absurd h2 hN.notRec
end
def qtb(m:Nat)(s t:StC):Bool:=decide (s.verb=t.verb) && (rowE qbA s.phrases t.phrases && rowE (simB m) s.bodies t.bodies)
theorem qri:∀{a b:List PhrC},phm a=phm b->rowE qbA a b=true
 |[],[],_=>rfl
 |p::a,q::b,h=>by
  simp only[Ke,List.cons.injEq,phm,ph2,Prod.mk.injEq]at h;rw[rowE,qri h.2];unfold qbA;rw[qpS h.1.2,h.1.1];simp
 |[],q::b,h=>by cases h
 |p::a,[],h=>by cases h
theorem qfW{m:Nat}{c b:Cur}(h:CurB m c b):qtb m c.done b.done=true:=by
 unfold qtb;show(decide (c.verb=b.verb) && (rowE qbA c.phrases b.phrases && rowE (simB m) c.bodies b.bodies))=true
 rw[h.verb,qri h.ph,h.bd];simp
theorem qrv(forms:List Str):∀(ys:List YC) (b:BuC),b.cur.phrases≠[]->(∀p∈phm b.cur.phrases,∀κ∈p.2,κ∈opK)->∀p∈phm (ys.foldl (QJ forms) b).cur.phrases,∀κ∈p.2,κ∈opK
 |[],_,_,h=>h
 |y::ys,b,hn,h=>by
  obtain⟨h1,h2⟩:=qlz forms b y hn;refine qrv forms ys _ h2 ?_;rw[h1];have hw:=qdB y.ops;have hne:phm b.cur.phrases≠[]:=by unfold phm;simpa using hn
  split
  ·obtain⟨qs,⟨w,a⟩,he⟩:=qkE hne
   rw[he]at h|-
   rw[qbH];intro p hp κ hκ;rcases JX.1 hp with z|z
   ·exact h p (JX.2 (.inl z)) κ hκ
   ·rw[V9.1 z]at hκ
    rcases JX.1 hκ with z|z
    ·exact h (w,a) (by simp) κ z
    ·exact hw κ z
  ·intro p hp κ hκ
   rcases JX.1 hp with z|z
   ·exact h p z κ hκ
   ·rw[V9.1 z]at hκ
    exact hw κ hκ
theorem ops_all(x:XC)(b:BuC)(forms:List Str):∀p∈phm (Xb x b forms).cur.phrases,∀κ∈p.2,κ∈opK:=by
 have h0:∀p∈phm [(⟨[],Qh (QV x b.cur.verb)⟩:PhrC)],∀κ∈p.2,κ∈opK:=fun p hp κ hκ=>by
  rw[V9.1 (show p∈[(([]:Str),(Qh (QV x b.cur.verb)).map kt)]from hp)]at hκ;rw[UV]at hκ;exact qrS x _ κ hκ
 unfold Xb;simp only;split
 ·exact h0
 ·exact qrv forms _ {YB b (QV x b.cur.verb)with cur:={(YB b (QV x b.cur.verb)).cur with phrases:=[⟨[],Qh (QV x b.cur.verb)⟩]}} (by simp) h0
theorem qrh(ps:List PhrC):((phm ps).getD 0 ([],[])).2=(firstT ps).map kt:=by
 unfold phm firstT;cases ps<;>rfl
theorem phm_any(b:BuC)(w:Str):((phm b.cur.phrases).any fun p=>decide (p.1=w))=qbt b w:=by
 unfold qbt phm;rw[List.any_map];rfl
theorem first_if(x:XC)(forms:List Str)(hf:forms=[])(b:BuC)(hv:b.cur.verb=IFv):((phm (Xb x b forms).cur.phrases).getD 0 ([],[])).2≠[]:=by
 unfold Xb;simp only;rw[if_pos hf];show(Qh (QV x b.cur.verb)).map kt≠[]
 rw[UV];exact first_ne x hv
section
variable {B:List XC->Nat->Bool->Str×List StC} {d:Nat} {x:XC} {lst:Bool}
theorem qkd(forms:List Str):∀(is:List Nat) (s:BuC×Str),s.1.cur.bodies<+:(is.foldl (Qn B x forms d lst) s).1.cur.bodies
 |[],s=>EH _
 |i::is,s=>by
  rw[EP];refine List.IsPrefix.trans ?_ (qkd forms is _);unfold Qn;simp only;split
  ·exact EH _
  ·exact EG _ _
theorem qtw{b:BuC}(hn:Ue b.cur.verb=true)(hb:b.cur.bodies=[])(forms:List Str):∃bd r,((KP (qaI x b.cur.verb)).foldl (Qn B x forms d lst) (b,[])).1.cur.bodies=bd::r/\bd.1=(if b.cur.verb=IFv then Wm else XW):=by
 obtain⟨N,hN⟩:∃N,qaI x b.cur.verb=N+1:=⟨qaI x b.cur.verb-1,by unfold qaI;rw[if_pos hn];omega⟩
 rw[hN,Dh,EP];have hform:XB b.cur.verb forms (x.b.getD 0 noZ) 0=if b.cur.verb=IFv then Wm else XW:=by unfold XB;rw[if_pos ⟨hn,rfl⟩]
 have hcan:Xj (if b.cur.verb=IFv then Wm else XW)=if b.cur.verb=IFv then Wm else XW:=by split<;>decide+kernel
 have hskip:UL [] (if b.cur.verb=IFv then Wm else XW) (if b.cur.verb=IFv then Wm else XW)=false:=by split<;>decide+kernel
 have h1:(Qn B x forms d lst (b,[]) 0).1.cur.bodies=[((if b.cur.verb=IFv then Wm else XW),Qh (qbp (if b.cur.verb=IFv then Wm else XW) (x.b.getD 0 noZ)),(B (x.b.getD 0 noZ).2.2.1 (d+1) (lst && (decide (0=3)||decide (x.b.length<=0+1)))).2)]:=by
  unfold Qn;simp only;rw[hform,hcan,if_neg (by rw[hskip];decide)];show b.cur.bodies++[_]=_
  rw[hb];rfl
 obtain⟨r,hr⟩:=qkd (B:=B) (d:=d) (x:=x) (lst:=lst) forms (List.map Nat.succ (KP N)) (Qn B x forms d lst (b,[]) 0);rw[h1]at hr;exact⟨_,_,hr.symm,rfl⟩
end
section
variable {l:List TokC} {d:Nat} {O:List Str} {k:Nat} {B:List XC->Nat->Bool->Str×List StC} {m:Nat} {x:XC} {lst end_:Bool} {vs:List Str}
theorem qcP{b2:BuC}(hk:k<39)(h:QO b2 (qi k) x.cut end_ lst=true):qi k∈endedV:=by
 unfold QO at h;rw[Ky,qiv hk]at h;exact Va.1 h.1
theorem qeE(hk:k<39){b2:BuC}(hb2:b2.cur.bodies=[])(hel:lst=true->end_=true){c:Cur}(hcv:c.verb=qi k)(hi:Zi wordsO c=none){e p:Nat}(hp:p=e\/(p=e+1/\QF k=goF/\At l e [(1,wON)]))
 (hend:QO b2 (qi k) x.cut end_ lst=true->At l e [qda (qi k)]) (hF:QO b2 (qi k) x.cut end_ lst=false->(end_=true->Fol l O lst vs e)/\(end_=false->VerbA l e)):
 ∃cl p',LoopR wordsO l Qo d (O++[bq k]) (QF k) c p (.ok (c,cl) p')/\(end_=true->Fin l lst vs (if QO b2 (qi k) x.cut end_ lst=true then e+1 else e) p')/\(end_=false->p'=if QO b2 (qi k) x.cut end_ lst=true then e+1 else e):=by
 cases hn:QO b2 (qi k) x.cut end_ lst with
 |true=>
  have hv:=qcP hk hn;have ha:=hend hn;have hpe:p=e:=by
   rcases hp with h|⟨_,_,h⟩
   ·exact h
   ·exact absurd h (qcD hv ha (.inl rfl))
  rw[hpe,if_pos rfl];refine⟨true,e+1,qoO hv ha _ _ c hcv,fun _=>?_,fun _=>rfl⟩;unfold Fin;split
  ·exact⟨0,Js _,rfl⟩
  ·exact .inl rfl
 |false=>
  obtain⟨hF1,hF2⟩:=hF hn;rw[if_neg (by decide)];cases he:end_ with
  |false=>
   have hva:=hF2 he;have hpe:p=e:=by
    rcases hp with h|⟨_,_,h⟩
    ·exact h
    ·exact absurd h (hva.notON (.inl rfl))
   rw[hpe];exact⟨false,e,fin_verb hk hva c hi _,(fun h=>by cases h),fun _=>rfl⟩
  |true=>
   have hf:=hF1 he;cases hl:lst with
   |true=>
    unfold Fol at hf;rw[if_pos hl]at hf;have hpe:p=e:=by
     rcases hp with h|⟨_,_,h⟩
     ·exact h
     ·exact absurd h (hf.notON (.inl rfl))
    rw[hpe];obtain⟨cl,t,h1,h2,_⟩:=qrT (d:=d) (O:=O) hk hf c hcv;refine⟨cl,e+t,h2,fun _=>?_,fun h=>by cases h⟩;unfold Fin;rw[if_pos rfl];exact⟨t,h1,rfl⟩
   |false=>
    unfold Fol at hf;rw[if_neg (by rw[hl];decide)]at hf;have hv:qi k∉endedV:=fun hm=>by
     unfold QO at hn;rw[qiv hk,Va.2 hm,hb2,he,hl]at hn;simp at hn
    have hbq:bq k=[]:=by
     by_cases hb:QB k=[]
     ·exact((qeB hk).1 hb).1
     ·exact absurd ((qeB hk).2.1 hb).1 hv
    rw[hbq];refine⟨false,p,fin_none hf (by rcases hp with h|⟨h,_,h2⟩;exact .inl h;exact .inr ⟨h,h2⟩) _ c (by rw[hcv];exact hv),fun _=>?_,fun h=>by cases h⟩;unfold Fin;rw[if_neg (by decide)];rcases hp with h|⟨h,_,h2⟩
    ·exact .inl h
    ·exact .inr ⟨h,h2⟩
theorem qlU(hk:k<39)(hV:HeadV B (d+1)){gs:List Fm}(hgs:(QB k,bq k,gs)∈BT){N:Nat}:∀(n j:Nat) (s:BuC×Str) {e:Nat},j+n=N->BodI k s j->UW B x (Qc (QB k)) d lst ((KP N).drop j) s≠[]->At l e (UW B x (Qc (QB k)) d lst ((KP N).drop j) s)->NextA l e
 |0,j,s,e,hj,_,hne,_=>by
  rw[show j=N by omega,ER (by rw[ES];exact KL _)]at hne;exact absurd rfl hne
 |n+1,j,s,e,hj,hI,hne,ha=>by
  rw[qev (by omega),UW]at hne ha;cases hsk:UL s.2 (XB s.1.cur.verb (Qc (QB k)) (x.b.getD j noZ) j) (Xj (XB s.1.cur.verb (Qc (QB k)) (x.b.getD j noZ) j))with
  |true=>
   obtain⟨h1,h2⟩:=qiW (B:=B) (d:=d) (lst:=lst) hsk;rw[h1,h2,Jf]at hne ha;have hI2:BodI k s (j+1):=by have:=hI.step (B:=B) (d:=d) (x:=x) (lst:=lst) hk hgs;rw[h1]at this;exact this
   exact qlU hk hV hgs n (j+1) s (by omega) hI2 hne ha
  |false=>
   obtain⟨fm,hfm,hcn,hw⟩:=qep hk hgs hI hsk;have ha1:=(EU.1 ha).1;unfold stepW at ha1;rw[if_neg (by rw[hsk];decide)]at ha1;rcases hw with⟨W,hW,hKW⟩|⟨h1,_,_,_,h0⟩
   ·rw[hKW]at ha1
    obtain⟨ha2,ha3⟩:=EU.1 ha1;rw[show(kws W).length=W.length from Jp _]at ha3;exact .inl ⟨[]++[bq k],bod_fol hk hgs hfm hW ha2 (qjr hk hV (qkH _ _) ha3)⟩
   ·rw[h0,qoA _ (by rw[<-hcn,h1];decide),Jf,Jf]at ha1
    exact .inr (hV.at_ ha1)
end
section
variable {l:List TokC} {d:Nat} {O:List Str} {B:List XC->Nat->Bool->Str×List StC} {m:Nat} {x:XC} {lst end_:Bool} {vs:List Str}
def qsF(l:List TokC)(d:Nat)(O:List Str)(m:Nat)(e:Nat)(t:StC)(end_ lst:Bool)(vs:List Str)(E:Nat):Prop:=
 ∃s p,StR wordsO l Qo d O e (.ok s p)/\qtb m s t=true/\(end_=true->Fin l lst vs E p)/\(end_=false->p=E)
theorem qbP{c:Cur}{verb:Str}(hv:c.verb=verb)(hn:verb≠IFv)(hp:verb=XY->YO wordsO c.phrases=false):Zi wordsO c=none:=by
 unfold Zi;split
 ·rfl
 ·rw[if_neg (by rw[hv];exact hn)]
  split
  ·rename_i h
   rw[hv]at h;rw[hp h.1]at h;cases h.2
  ·rfl
theorem qdb{c:Cur}{verb:Str}(hv:c.verb=verb)(hn:Ue verb=false)(hp:verb≠XY)(b:Bool):qbw wordsO c b=true:=by
 simp only[decide_eq_false_iff_not,VD,Ue]at hn;unfold qbw;rw[hv,if_neg hn.1,if_neg (by rintro(h|h);exact hn.2.1 h;exact hn.2.2 h),if_neg hp]
theorem qlj{k:Nat}(hk:k<39)(hd:d<=32){e:Nat}(hv:(l.getD e noT).text=qi k){c:Cur}{b:Bool}{p:Nat}(h:LoopR wordsO l Qo d (O++[bq k]) (QF k) (qck l e) (e+1) (.ok (c,b) p))(hw:qbw wordsO c b=true):StR wordsO l Qo d O e (.ok c.done p):=by
 obtain⟨_,_,_,_,hfe⟩:=qet hk;refine StR.ok (by omega) ?_ hw;rw[hv,hfe];exact h
theorem qon(hd:d<=4)(hsp:∀l d last,(B l d last).1=[]\/∃Y,(B l d last).1=32::Y)(hO:∀f∈O,f∈BFS)(hB:qfL B m (d+1))(hV:HeadV B (d+1))(hel:lst=true->end_=true){k:Nat}(hk:k<39)(hvp:qi k=XY){b1 b2:BuC}
 (hb1:b1=Xb x ⟨32::qi k,⟨qi k,0,0,[],[]⟩⟩ (Qc (QF k))) (hb2:b2=XH B x b1 (Qc (QB k)) d lst) {e:Nat} (ha:At l e (KW b2.text++if QO b2 (qi k) x.cut end_ lst=true then[qda (qi k)]else[]))
 (hF:(end_=true->Fol l O lst vs (e+(KW b2.text).length+if QO b2 (qi k) x.cut end_ lst=true then 1 else 0))/\(end_=false->VerbA l (e+(KW b2.text).length+if QO b2 (qi k) x.cut end_ lst=true then 1 else 0))):
 qsF l d O m e b2.cur.done end_ lst vs (e+(KW b2.text).length+if QO b2 (qi k) x.cut end_ lst=true then 1 else 0):=by
 obtain⟨kd1,kd2,kd3,kd4⟩:=(qeB hk).2.2.1 hvp;have hbq:bq k=[]:=((qeB hk).1 kd1).1;obtain⟨v1,v2,_,_⟩:=WK x ⟨32::qi k,⟨qi k,0,0,[],[]⟩⟩ (Qc (QF k));rw[<-hb1]at v1 v2;simp only at v1 v2;have hop:=ops_all x ⟨32::qi k,⟨qi k,0,0,[],[]⟩⟩ (Qc (QF k));rw[<-hb1]at hop;obtain⟨ws,hws,hread⟩:=qga (l:=l) (d:=d) hk hO x (e:=e) b1 hb1;obtain⟨q,hq⟩:∃q,q=phm b1.cur.phrases:=⟨_,rfl⟩
 have hop0:∀κ∈(q.getD 0 ([],[])).2,κ∈opK:=fun κ hκ=>by
  rw[hq]at hκ;cases hph:phm b1.cur.phrases with
  |nil=>rw[hph]at hκ;cases hκ
  |cons p r=>
   rw[hph]at hκ;exact hop p (by rw[hph];exact Jg) κ hκ
 have hfl:(firstT b1.cur.phrases).length=(q.getD 0 ([],[])).2.length:=by rw[hq,qrh,Jp]
 have hbE:b2=if (firstT b1.cur.phrases).length=0\/((firstT b1.cur.phrases).length=1/\qbt b1 qas=true/\qbt b1 qaP=false)then WP B b1 [] [] (x.b.getD 0 noZ).2.2.1 d false else b1:=by
  rw[hb2];unfold XH;simp only;rw[if_pos (by rw[v1,hvp])]
 have hinl:∀ps,phm ps=q->YO wordsO ps=decide ((firstT b1.cur.phrases).length=0\/((firstT b1.cur.phrases).length=1/\qbt b1 qas=true/\qbt b1 qaP=false)):=fun ps hps=>by
  rw[inline_kt hps hop0,hq,phm_any,phm_any,<-hq,hfl];have h0:decide ((q.getD 0 ([],[])).2=[])=decide ((q.getD 0 ([],[])).2.length=0):=by rw[decide_eq_decide,ET]
  rw[h0];cases qbt b1 qas<;>cases qbt b1 qaP<;>simp
 by_cases hcond:(firstT b1.cur.phrases).length=0\/((firstT b1.cur.phrases).length=1/\qbt b1 qas=true/\qbt b1 qaP=false)
 ·
  rw[if_pos hcond]at hbE;have hbb:b2.cur.bodies≠[]:=by rw[hbE];simp[WP]
  have hneed:QO b2 (qi k) x.cut end_ lst=true:=by
   unfold QO;rw[qiv hk,Va.2 kd3,decide_eq_false hbb,decide_eq_true hvp];simp
  have hKW:KW b2.text=KW b1.text++KW (B (x.b.getD 0 noZ).2.2.1 (d+1) false).1:=by
   rw[hbE,qkO B b1 [] (.inl rfl) _ _ _ (hsp _ _ _)];show KW b1.text++([]++_)=_
   rw[Jf]
  rw[hneed,if_pos rfl]at ha hF|-
  rw[hKW]at ha;obtain⟨a1,a3⟩:=EU.1 ha;obtain⟨a1,a2⟩:=EU.1 a1;have hva:VerbA l (e+(KW b1.text).length):=hV.at_ a2;obtain⟨c,p,g1,g2,g3,g4⟩:=hread a1 (.inr hva);have hpe:p=e+(KW b1.text).length:=by
   rcases g3 with h|⟨_,h,_⟩
   ·exact h
   ·exact absurd h kd2
  have hc:CurB m c b1.cur:=⟨by rw[g1.verb,v1],g1.ph,by rw[g2,v2];rfl⟩
  rw[<-hKW]at a3;obtain⟨_,c1,p1,h1,h2,h3⟩:=qnr (B:=B) (m:=m) (d:=d) (b:=b1) (ops:=[]) (lx:=(x.b.getD 0 noZ).2.2.1) (last:=false) (vs:=[]) (p:=p) (n:=0) (w:=[]) hk hO hB hc (fun κ h=>by cases h) (fun _=>rfl) (fun h=>by cases h) (by unfold twice;rw[g2];rfl)
   (by rw[hpe,K8];exact a2) (by
    unfold Fol;rw[if_neg (by decide)];refine .inr (.inl ⟨qi k,kd3,?_⟩);rw[hpe,K8,show KW ([]:Str)=[]from rfl,JF,K8,Kw,<-Jd,<-hKW];exact a3)
  rw[<-hbE]at h2;rw[hpe,K8,show KW ([]:Str)=[]from rfl,JF,K8,Kw,<-Jd,<-hKW]at h3;have hp1:p1=e+(KW b2.text).length:=by
   unfold Fin at h3;rw[if_neg (by decide)]at h3;rcases h3 with h|⟨_,h⟩
   ·exact h
   ·exact absurd h (qcD kd3 a3 (.inl rfl))
  have hc1v:c1.verb=qi k:=by rw[h2.verb,hbE];exact v1
  have hc1p:phm c1.phrases=q:=by rw[h2.ph,hbE,hq];rfl
  have hc1b:c1.bodies≠[]:=fun h=>hbb ((qlr h2.bd).1 h);have hin1:YO wordsO c.phrases=true:=by rw[hinl c.phrases (by rw[g1.ph,hq])];exact decide_eq_true hcond
  have hin2:YO wordsO c1.phrases=true:=by rw[hinl c1.phrases hc1p];exact decide_eq_true hcond
  refine⟨c1.done,p1+1,qlj hk (by omega) (congrArg Prod.snd (show kt (l.getD e noT)=(1,qi k) by rw[hws]at a1;exact a1.1.2)) (g4 _ (EZ (by rw[hpe];exact hva.e) (by rw[hpe];exact hva.n) (by rw[Uw,hpe,qaF hva.f (.inr (qeL hk))]) (by rw[hpe];exact hva.v) (w:=[]) ?_ h1 (qoO kd3 (by rw[hp1];exact a3) _ _ c1 hc1v))) ?_,qfW h2,fun _=>?_,fun _=>by rw[hp1]⟩
  ·unfold Zi
   rw[if_neg (by rw[g2];simp),if_neg (by rw[g1.verb,hvp];decide),if_pos ⟨by rw[g1.verb,hvp],hin1⟩]
  ·unfold qbw
   rw[hc1v,hvp,if_neg (by decide),if_neg (by decide),if_pos rfl,hin2,decide_eq_false hc1b];rfl
  ·unfold Fin
   split
   ·exact⟨0,Js _,by rw[hp1]<;>rfl⟩
   ·exact .inl (by rw[hp1])
 ·
  rw[if_neg hcond]at hbE;have hbb:b2.cur.bodies=[]:=by rw[hbE,v2]
  obtain⟨a1,a2⟩:=EU.1 ha;have hN:NextA l (e+(KW b1.text).length):=by
   rw[<-hbE];cases hn:QO b2 (qi k) x.cut end_ lst with
   |true=>
    rw[hn,if_pos rfl]at a2;exact .inl ⟨[], .inr (.inl ⟨qi k,kd3,a2⟩)⟩
   |false=>
    rw[hn,if_neg (by decide),K8]at hF;cases he:end_ with
    |true=>exact .inl ⟨_,(hF.1 he).toN⟩
    |false=>exact .inr (hF.2 he)
  obtain⟨c,p,g1,g2,g3,g4⟩:=hread (by rw[<-hbE];exact a1) hN;have hin:YO wordsO c.phrases=false:=by rw[hinl c.phrases (by rw[g1.ph,hq])];exact decide_eq_false hcond
  rw[<-hbE]at g3;obtain⟨cl,p',f1,f2,f3⟩:=qeE (l:=l) (d:=d) (O:=O) (x:=x) (lst:=lst) (end_:=end_) (vs:=vs) hk hbb hel g1.verb (qbP g1.verb (by rw[hvp];decide) fun _=>hin) g3 (fun hn=>by rw[hn,if_pos rfl]at a2;exact a2) (fun hn=>by rw[hn,if_neg (by decide),K8]at hF;exact hF);have hEe:(if QO b2 (qi k) x.cut end_ lst=true then e+(KW b2.text).length+1 else e+(KW b2.text).length)=e+(KW b2.text).length+if QO b2 (qi k) x.cut end_ lst=true then 1 else 0:=by split<;>rfl
  rw[hEe]at f2 f3;refine⟨c.done,p',qlj hk (by omega) (congrArg Prod.snd (show kt (l.getD e noT)=(1,qi k) by rw[hbE,hws]at a1;exact a1.1.2)) (g4 _ f1) ?_,qfW ⟨by rw[g1.verb,hbE,v1],by rw[g1.ph,hbE],by rw[g2,hbb]<;>rfl⟩,f2,f3⟩;unfold qbw;rw[g1.verb,hvp,if_neg (by decide),if_neg (by decide),if_pos rfl,hin,g2];simp
theorem qtf(hd:d<=32)(hO:∀f∈O,f∈BFS)(hel:lst=true->end_=true){k:Nat}(hk:k<39)(hbod:QB k=[])(hvp:qi k≠XY){b1 b2:BuC}
 (hb1:b1=Xb x ⟨32::qi k,⟨qi k,0,0,[],[]⟩⟩ (Qc (QF k))) (hb2:b2=XH B x b1 (Qc (QB k)) d lst) {e:Nat} (ha:At l e (KW b2.text++if QO b2 (qi k) x.cut end_ lst=true then[qda (qi k)]else[]))
 (hF:(end_=true->Fol l O lst vs (e+(KW b2.text).length+if QO b2 (qi k) x.cut end_ lst=true then 1 else 0))/\(end_=false->VerbA l (e+(KW b2.text).length+if QO b2 (qi k) x.cut end_ lst=true then 1 else 0))):
 qsF l d O m e b2.cur.done end_ lst vs (e+(KW b2.text).length+if QO b2 (qi k) x.cut end_ lst=true then 1 else 0):=by
 obtain⟨kd1,kd2⟩:=(qeB hk).1 hbod;obtain⟨kd2,kd3⟩:qi k∉endedV/\Ue (qi k)=false:=by
  rcases kd2 with h|h
  ·exact absurd h hvp
  ·exact h
 obtain⟨v1,v2,_,_⟩:=WK x ⟨32::qi k,⟨qi k,0,0,[],[]⟩⟩ (Qc (QF k));rw[<-hb1]at v1 v2;simp only at v1 v2;obtain⟨ws,hws,hread⟩:=qga (l:=l) (d:=d) hk hO x (e:=e) b1 hb1;have hbE:b2=b1:=by
  rw[hb2,hbod];exact qdr B x b1 d lst (by rw[v1];exact hvp) (by rw[v1];exact kd3)
 have hn:QO b2 (qi k) x.cut end_ lst=false:=by
  cases h:QO b2 (qi k) x.cut end_ lst with
  |false=>rfl
  |true=>exact absurd (qcP hk h) kd2
 rw[hn,if_neg (by decide),K8]at hF|-
 rw[hn,if_neg (by decide),JG]at ha;have hbb:b2.cur.bodies=[]:=by rw[hbE,v2]
 have hN:NextA l (e+(KW b1.text).length):=by
  rw[<-hbE];cases he:end_ with
  |true=>exact .inl ⟨_,(hF.1 he).toN⟩
  |false=>exact .inr (hF.2 he)
 obtain⟨c,p,g1,g2,g3,g4⟩:=hread (by rw[<-hbE];exact ha) hN;rw[<-hbE]at g3;have hnif:qi k≠IFv:=fun h=>by rw[h]at kd3;exact absurd kd3 (by decide)
 obtain⟨cl,p',f1,f2,f3⟩:=qeE (l:=l) (d:=d) (O:=O) (x:=x) (lst:=lst) (end_:=end_) (vs:=vs) hk hbb hel g1.verb (qbP g1.verb hnif fun h=>absurd h hvp) g3 (fun h=>by rw[hn]at h;cases h) (fun _=>hF);rw[hn,if_neg (by decide)]at f2 f3;exact⟨c.done,p',qlj hk hd (congrArg Prod.snd (show kt (l.getD e noT)=(1,qi k) by rw[hbE,hws]at ha;exact ha.1.2)) (g4 _ f1) (qdb g1.verb kd3 hvp _),qfW ⟨by rw[g1.verb,hbE,v1],by rw[g1.ph,hbE],by rw[g2,hbb]<;>rfl⟩,f2,f3⟩
end
section
variable {l:List TokC} {d:Nat} {O:List Str} {B:List XC->Nat->Bool->Str×List StC} {m:Nat} {x:XC} {lst end_:Bool} {vs:List Str}
theorem qpY(hd:d<=4)(hsp:∀l d last,(B l d last).1=[]\/∃Y,(B l d last).1=32::Y)(hO:∀f∈O,f∈BFS)(hB:qfL B m (d+1))(hV:HeadV B (d+1))(hel:lst=true->end_=true){k:Nat}(hk:k<39)(hbod:QB k≠[]){b1 b2:BuC}
 (hb1:b1=Xb x ⟨32::qi k,⟨qi k,0,0,[],[]⟩⟩ (Qc (QF k))) (hb2:b2=XH B x b1 (Qc (QB k)) d lst) {e:Nat} (ha:At l e (KW b2.text++if QO b2 (qi k) x.cut end_ lst=true then[qda (qi k)]else[]))
 (hF:(end_=true->Fol l O lst vs (e+(KW b2.text).length+if QO b2 (qi k) x.cut end_ lst=true then 1 else 0))/\(end_=false->VerbA l (e+(KW b2.text).length+if QO b2 (qi k) x.cut end_ lst=true then 1 else 0))):
 qsF l d O m e b2.cur.done end_ lst vs (e+(KW b2.text).length+if QO b2 (qi k) x.cut end_ lst=true then 1 else 0):=by
 obtain⟨kd1,kd2,kd3⟩:=(qeB hk).2.1 hbod;obtain⟨fs,gs,hfs,hgs,_⟩:=qet hk;obtain⟨v1,v2,_,_⟩:=WK x ⟨32::qi k,⟨qi k,0,0,[],[]⟩⟩ (Qc (QF k));rw[<-hb1]at v1 v2;simp only at v1 v2;have hb2E:b2=((KP (qaI x (qi k))).foldl (Qn B x (Qc (QB k)) d lst) (b1,[])).1:=by
  rw[hb2,qbk _ _ _ _ _ _ (by rw[v1];exact kd2),v1]
 obtain⟨u1,u2,_,_⟩:=qeM B x b1 (Qc (QB k)) d lst;rw[<-hb2]at u1 u2;obtain⟨ws,hws,hread⟩:=qga (l:=l) (d:=d) hk hO x (e:=e) b1 hb1;obtain⟨fw,hfw⟩:∃fw,fw=UW B x (Qc (QB k)) d lst (KP (qaI x (qi k))) (b1,[]):=⟨_,rfl⟩
 have hKW:KW b2.text=KW b1.text++fw:=by rw[hb2E,hfw,qkN hsp]
 have hI:BodI k (b1,([]:Str)) 0:=⟨v1,(fun bd h=>by simp only at h;rw[v2]at h;cases h),(fun _=> .inl ⟨rfl,v2⟩),fun _=>rfl⟩
 obtain⟨E2,hE2⟩:∃E2,E2=e+(KW b2.text).length:=⟨_,rfl⟩
 have hE2':E2=e+(KW b1.text).length+fw.length:=by rw[hE2,hKW,Jd];omega
 rw[<-hE2]at hF|-
 obtain⟨a1,aE⟩:=EU.1 ha;rw[<-hE2]at aE;rw[hKW]at a1;obtain⟨a1,a2⟩:=EU.1 a1;have hN:NextA l (e+(KW b1.text).length):=by
  by_cases hw0:fw=[]
  ·rw[hw0,JF,K8]at hE2'
   rw[<-hE2'];cases hn:QO b2 (qi k) x.cut end_ lst with
   |true=>
    rw[hn,if_pos rfl]at aE;exact .inl ⟨[], .inr (.inl ⟨qi k,kd1,aE⟩)⟩
   |false=>
    rw[hn,if_neg (by decide),K8]at hF;cases he:end_ with
    |true=>exact .inl ⟨_,(hF.1 he).toN⟩
    |false=>exact .inr (hF.2 he)
  ·have:=qlU (l:=l) (B:=B) (d:=d) (x:=x) (lst:=lst) (N:=qaI x (qi k)) hk hV hgs (qaI x (qi k)) 0 (b1,[]) (e:=e+(KW b1.text).length) (by omega) hI
   rw[Vp,<-hfw]at this;exact this hw0 a2
 obtain⟨c,p,g1,g2,g3,g4⟩:=hread a1 hN;have hpe:p=e+(KW b1.text).length:=by
  rcases g3 with h|⟨_,h,_⟩
  ·exact h
  ·exact absurd h kd3
 have hc:CurB m c b1.cur:=⟨by rw[g1.verb,v1],g1.ph,by rw[g2,v2];rfl⟩
 obtain⟨vsx,hvsx⟩:∃vsx,vsx=if QO b2 (qi k) x.cut end_ lst=true then qi k::vs else vs:=⟨_,rfl⟩
 have hEB:b2.cur.bodies≠[]->EndB l k lst vsx E2:=fun hbb=>by
  cases hn:QO b2 (qi k) x.cut end_ lst with
  |true=>
   rw[hn,if_pos rfl]at aE hvsx hF;cases hl:lst with
   |false=>exact .inr ⟨rfl,kd1,aE⟩
   |true=>
    refine .inl ⟨rfl,?_⟩;have hf:=hF.1 (hel hl);unfold Fol at hf;rw[if_pos hl]at hf;rw[hvsx];refine⟨⟨EY.1 aE,hf.1⟩,fun v hv=>?_,?_⟩
    ·rcases KY.1 hv with rfl|hv
     ·exact kd1
     ·exact hf.2.1 v hv
    ·have:=hf.2.2
     rw[KZ,show E2+(vs.length+1)=E2+1+vs.length by omega];exact this
  |false=>
   rw[hn,if_neg (by decide)]at hvsx hF;rw[K8]at hF;have hl:lst=true:=by
    unfold QO at hn;rw[qiv hk,Va.2 kd1,decide_eq_false hbb]at hn;cases h:lst with
    |true=>rfl
    |false=>rw[h]at hn;simp at hn
   refine .inl ⟨hl,?_⟩;have hf:=hF.1 (hel hl);unfold Fol at hf;rw[if_pos hl]at hf;rw[hvsx];exact hf
 have hfold:=qjb (l:=l) (d:=d) (O:=O) (B:=B) (m:=m) (x:=x) (lst:=lst) (vsx:=vsx) hk hO hB hV hgs (qaI x (qi k)) 0 (b1,[]) c (e+(KW b1.text).length) p (by omega) hI hc (fun _=>hpe) (.inl hpe);rw[Vp,<-hfw,<-hb2E,<-hE2']at hfold;obtain⟨c',p',h1,h2,h3⟩:=hfold a2 hEB;have hcv:c'.verb=qi k:=by rw[h1.verb,u1,v1]
 have hkv:(l.getD e noT).text=qi k:=congrArg Prod.snd (show kt (l.getD e noT)=(1,qi k) by rw[hws]at a1;exact a1.1.2);have hneed:Ue (qi k)=true->∃bd r,b2.cur.bodies=bd::r/\bd.1=(if qi k=IFv then Wm else XW):=fun hn=>by
  have:=qtw (B:=B) (d:=d) (x:=x) (lst:=lst) (b:=b1) (by rw[v1];exact hn) v2 (Qc (QB k));rw[v1,<-hb2E]at this;exact this
 rcases h3 with⟨hbb,hpp,hfw0⟩|⟨hbb,h3⟩
 ·
  have hnn:Ue (qi k)=false:=by
   cases h:Ue (qi k)with
   |false=>rfl
   |true=>
    obtain⟨bd,r,hr,_⟩:=hneed h;rw[hbb]at hr;cases hr
  have hnif:qi k≠IFv:=fun h=>by rw[h]at hnn;exact absurd hnn (by decide)
  rw[hfw0,JF,K8]at hE2';obtain⟨cl,p2,f1,f2,f3⟩:=qeE (l:=l) (d:=d) (O:=O) (x:=x) (lst:=lst) (end_:=end_) (vs:=vs) (e:=E2) (p:=p') hk hbb hel hcv (qbP hcv hnif fun h=>absurd h kd2) (.inl (by rw[hpp,hpe,hE2'])) (fun hn=>by rw[hn,if_pos rfl]at aE;exact aE) (fun hn=>by rw[hn,if_neg (by decide),K8]at hF;exact hF);have hEe:(if QO b2 (qi k) x.cut end_ lst=true then E2+1 else E2)=E2+if QO b2 (qi k) x.cut end_ lst=true then 1 else 0:=by split<;>rfl
  rw[hEe]at f2 f3;exact⟨c'.done,p2,qlj hk (by omega) hkv (g4 _ (h2 _ f1)) (qdb hcv hnn kd2 _),qfW h1,f2,f3⟩
 ·
  have hcb:c'.bodies≠[]:=fun h=>hbb ((qlr h1.bd).1 h);have hwhole:∀b,qbw wordsO c' b=true:=fun b=>by
   cases hn:Ue (qi k)with
   |false=>exact qdb hcv hn kd2 b
   |true=>
    obtain⟨bd,r,hr,hbd⟩:=hneed hn;unfold qbw;rw[hcv];have hbodies:=h1.bd;rw[hr]at hbodies;cases hc'b:c'.bodies with
    |nil=>exact absurd hc'b hcb
    |cons bd' r'=>
     rw[hc'b,rowE,Ky]at hbodies;have hnm:=qnj hbodies.1;by_cases hif:qi k=IFv
     ·rw[if_pos hif]
      have hph:firstT c'.phrases≠[]:=fun h0=>by
       have h5:=first_if x (Qc (QF k)) (by rw[(qeB hk).2.2.2 hif];rfl) ⟨32::qi k,⟨qi k,0,0,[],[]⟩⟩ hif;rw[<-hb1]at h5;have h6:=qrh c'.phrases;rw[h1.ph,u2,h0]at h6;exact h5 h6
      rw[decide_eq_false hph];simp only[Vz,Bool.not_false];rw[hnm,hbd,if_pos hif];exact decide_eq_true rfl
     ·rw[if_neg hif]
      simp only[decide_eq_true_eq,JJ,Ue]at hn;have hev:qi k=qjK\/qi k=qpz:=by
       rcases hn with h|h
       ·exact absurd h hif
       ·exact h
      rw[if_pos hev,List.any_cons,hnm,hbd,if_neg hif];simp
  have hEb:=hEB hbb;rcases h3 with⟨hl,t,ht,hp'⟩|⟨hl,hp'⟩
  ·
   have hf:FolE l vsx E2:=by
    rcases hEb with⟨_,h⟩|⟨h,_⟩
    ·exact h
    ·rw[hl]at h;cases h
   obtain⟨cl,t2,f1,f2,f3⟩:=qrT (l:=l) (d:=d) (O:=O) hk (hf.skip ht) c' hcv;rw[<-hp']at f2;refine⟨c'.done,_,qlj hk (by omega) hkv (g4 _ (h2 _ f2)) (hwhole cl),qfW h1,fun _=>?_,fun h=>by rw[hel hl]at h;cases h⟩;unfold Fin;rw[if_pos hl];rw[K7]at f1;cases hn:QO b2 (qi k) x.cut end_ lst with
   |false=>
    rw[hn,if_neg (by decide)]at hvsx;rw[hvsx]at f1 ht;rw[if_neg (by decide)];exact⟨t+t2,by omega,by omega⟩
   |true=>
    rw[hn,if_pos rfl]at hvsx;rw[hvsx,KZ]at f1 ht;rw[if_pos rfl];have h1t:1<=t+t2:=by
     by_cases ht0:t=0
     ·have:=(f3 ⟨vs,by rw[hvsx,ht0];rfl⟩).2
      omega
     ·omega
    exact⟨t+t2-1,by omega,by omega⟩
  ·
   obtain⟨_,_,hae⟩:lst=false/\qi k∈endedV/\At l E2 [qda (qi k)]:=by
    rcases hEb with⟨h,_⟩|h
    ·rw[hl]at h;cases h
    ·exact h
   have hn:QO b2 (qi k) x.cut end_ lst=true:=by
    unfold QO;rw[qiv hk,Va.2 kd1,decide_eq_false hbb,hl];simp
   rw[hn,if_pos rfl];refine⟨c'.done,E2+1,qlj hk (by omega) hkv (g4 _ (h2 _ (by rw[hp'];exact qoO kd1 hae _ _ c' hcv))) (hwhole true),qfW h1,fun _=>?_,fun _=>rfl⟩;unfold Fin;rw[if_neg (by rw[hl];decide)];exact .inl rfl
theorem read_st(hd:d<=32)(hsp:∀l d last,(B l d last).1=[]\/∃Y,(B l d last).1=32::Y)(hO:∀f∈O,f∈BFS)(hB:d<=4->qfL B m (d+1))(hV:d<=4->HeadV B (d+1))(hel:lst=true->end_=true){e:Nat}(ha:At l e (KW (QU B x d end_ lst).text))
 (hF:(end_=true->Fol l O lst vs (e+(KW (QU B x d end_ lst).text).length))/\(end_=false->VerbA l (e+(KW (QU B x d end_ lst).text).length))):
 qsF l d O m e (QU B x d end_ lst).cur.done end_ lst vs (e+(KW (QU B x d end_ lst).text).length):=by
 obtain⟨k,hk⟩:∃k,k=if 4<d then 21 else x.verb.toNat%39:=⟨_,rfl⟩
 have hk39:k<39:=by rw[hk];split<;>omega
 obtain⟨b1,hb1⟩:∃b1,b1=Xb x ⟨32::qi k,⟨qi k,0,0,[],[]⟩⟩ (Qc (QF k)):=⟨_,rfl⟩
 obtain⟨b2,hb2⟩:∃b2,b2=XH B x b1 (Qc (QB k)) d lst:=⟨_,rfl⟩
 have hxE:QU B x d end_ lst=if QO b2 (qi k) x.cut end_ lst=true then YB b2 (ENDw++qi k)else b2:=by
  unfold QU rowOf;rw[<-hk,hb2,hb1];rfl
 have hc:(QU B x d end_ lst).cur.done=b2.cur.done:=by rw[hxE];split<;>rfl
 have hKW:KW (QU B x d end_ lst).text=KW b2.text++if QO b2 (qi k) x.cut end_ lst=true then[qda (qi k)]else[]:=by
  rw[hxE];cases hn:QO b2 (qi k) x.cut end_ lst with
  |true=>
   rw[if_pos rfl,if_pos rfl];show KW (b2.text++[32]++_)=_
   rw[qkr,KW_end hk39 (qcP hk39 hn)]
  |false=>rw[if_neg (by decide),if_neg (by decide),JG]
 have hlen:e+(KW (QU B x d end_ lst).text).length=e+(KW b2.text).length+if QO b2 (qi k) x.cut end_ lst=true then 1 else 0:=by
  rw[hKW,Jd];split
  ·rw[JH];omega
  ·rw[JF];omega
 rw[hlen]at hF|-
 rw[hKW]at ha;rw[hc];by_cases hbod:QB k=[]
 ·by_cases hvp:qi k=XY
  ·have hd4:d<=4:=by
    by_cases h4:d<=4
    ·exact h4
    ·rw[if_pos (by omega)]at hk
     rw[hk]at hvp;exact absurd hvp (by decide+kernel)
   exact qon hd4 hsp hO (hB hd4) (hV hd4) hel hk39 hvp hb1 hb2 ha hF
  ·exact qtf hd hO hel hk39 hbod hvp hb1 hb2 ha hF
 ·have hd4:d<=4:=by
   by_cases h4:d<=4
   ·exact h4
   ·rw[if_pos (by omega)]at hk
    rw[hk]at hbod;exact absurd (by decide+kernel) hbod
  exact qpY hd4 hsp hO (hB hd4) (hV hd4) hel hk39 hbod hb1 hb2 ha hF
end
end Go.Stm
namespace Go.Stm
open Go.Col (Str FaultC okF)
open Go.Tok
open Go.Proofs.YtgiadjbiimkbiaaGreatDoor (asciiB Short TxS)
set_option maxRecDepth 100000
def WfQ:Nat->List StC->Prop
 |0,l=>l=[]
 |m+1,l=>l.length<=4/\∀s∈l,qkV s.verb=true/\(s.phrases.length<=5/\∀p∈s.phrases,PhrW p)/\s.bodies.length<=4/\∀b∈s.bodies,qaR b.1=true/\b.2.1.length<=4/\(∀t∈b.2.1,qmR t)/\WfQ m b.2.2
theorem WfS.q:∀{m:Nat} {l:List StC},WfS m l->WfQ m l
 |0,_,h=>h
 |_+1,_,h=>⟨h.1,fun s hs=>⟨(h.2 s hs).1,(h.2 s hs).2.1.2,(h.2 s hs).2.2.1,fun b hb=>⟨((h.2 s hs).2.2.2 b hb).1,((h.2 s hs).2.2.2 b hb).2.1,((h.2 s hs).2.2.2 b hb).2.2.1,((h.2 s hs).2.2.2 b hb).2.2.2.q⟩⟩⟩
theorem qkS{w:Str}(h:qaR w=true):w.length<=100/\asciiB w=true/\(62:UInt8)∉w/\(93:UInt8)∉w/\(Lib.fields w).length<=8:=by
 simp only[Ky,decide_eq_true_eq,Jj,qaR]at h;obtain⟨h1,h2,h3,h4,h5⟩:=h;exact⟨h1,h2,(fun e=>by rw[Va.2 e]at h3;cases h3),(fun e=>by rw[Va.2 e]at h4;cases h4),h5⟩
theorem qsU{v:Str}(h:qkV v=true):v.length<=20/\asciiB v=true/\(32:UInt8)∉v:=by
 simp only[Ky,decide_eq_true_eq,Jj,qkV]at h;obtain⟨h1,h2,h3⟩:=h;exact⟨h1,h2,fun e=>by rw[Va.2 e]at h3;cases h3⟩
theorem WfQ.ok:∀{m:Nat} {l:List StC},WfQ m l->OkS m l
 |0,_,h=>h
 |_+1,_,h=>fun s hs=>by
  obtain⟨h1,h2,h3,h4⟩:=h.2 s hs;exact⟨(qsU h1).2.2,fun p hp=>⟨(qkS (h2.2 p hp).1).2.2.1,fun t ht=>((h2.2 p hp).2.2 t ht).1⟩,fun b hb=>⟨(qkS (h4 b hb).1).2.2.2.1,fun t ht=>((h4 b hb).2.2.1 t ht).1,(h4 b hb).2.2.2.ok⟩⟩
theorem WfQ.small:∀{m:Nat} {l:List StC},WfQ m l->SmallS m l
 |0,l,h=>by rw[show l=[]from h];exact Js _
 |_+1,_,h=>⟨Vg h.1 (by decide),fun s hs=>by
  obtain⟨h1,h2,h3,h4⟩:=h.2 s hs;exact⟨Vg h3 (by decide),Vg h2.1 (by decide),fun p hp=>Vg (h2.2 p hp).2.1 (by decide),fun b hb=>⟨Vg (h4 b hb).2.1 (by decide),(h4 b hb).2.2.2.small⟩⟩⟩
theorem deep_nil:∀k,WZ k []=false
 |0=>rfl
 |_+1=>rfl
theorem WfQ.deep:∀{m k:Nat} {l:List StC},WfQ m l->m<=k->WZ k l=false
 |0,k,l,h,_=>by rw[show l=[]from h];exact deep_nil k
 |m+1,k+1,l,h,hk=>by
  rw[WZ,EW];intro s hs;rw[BP,EW];intro b hb;rw[WfQ.deep ((h.2 s hs).2.2.2 b hb).2.2.2 (Nat.le_of_succ_le_succ hk)];decide
end Go.Stm
namespace Go.Stm
def qeg:Nat->List XC->Int->Int
 |0=>fun _ _=>0
 |f+1=>YZ f
def qdn(f:Nat):Bool:=decide (0<f)
theorem weighE_eq(f:Nat)(l:List XC)(most:Int):YZ f l most=Ug (qeg f) most (qdn f) l l.length:=by cases f<;>rfl
theorem LenX.at_{m f:Nat}{l:List XC}(h:LenX m f l){x:XC}(hx:x∈l)(hf:qdn f=true):∃g,f=g+1/\∀z∈x.b,LenX m g z.2.2.1:=by
 cases f with
 |zero=>cases hf
 |succ g=>exact⟨g,rfl,(h.2 x hx).2.2⟩
end Go.Stm
namespace Go.Proofs.YtgiadjbiimkbiaaGreatDoor
open Go.AM
open Go.Proofs
open Go.Col (Str FaultC okF)
open Go.Tok (TokC)
open Go.Stm
open Go.RowKit (Below)
set_option maxRecDepth 100000
theorem XsV.els{wz:World}{h:AHeap}{d:Nat}{v:AVal}{l:List XC}(hX:XsV wz d h v l):∃qs:List (XC×AVal×AVal),l=qs.map (·.1)/\IsL wz h 4 v (qs.map xC)/\∀q∈qs,YsV wz h q.2.1 q.1.p/\∃d',ZsV wz (XsV wz d' h) h q.2.2 q.1.b:=by
 cases d with
 |zero=>exact⟨[],hX.1,hX.2,fun q hq=>by cases hq⟩
 |succ d=>
  obtain⟨qs,a,b,c⟩:=hX;exact⟨qs,a,b,fun q hq=>⟨(c q hq).1,d,(c q hq).2⟩⟩
structure WgG where
 i:Nat
 n:Int
set_option maxHeartbeats 16000000 in
theorem qsi(wz:World)(f d:Nat)(h:AHeap)(v:AVal)(l:List XC)(most:Int)(hf:f<=8)(hX:XsV wz d h v l)(hL:LenX 140737488355328 f l)(h0:0<=most)(h6:most<=1000000)
 (ih:∀g,f=g+1->∀(d:Nat) (v:AVal) (l:List XC) (most:Int),XsV wz d h v l->LenX 140737488355328 g l->0<=most->most<=1000000->ACall Tryz.prog wz 32 [v, .int .i64 most, .int .i64 ((8-g:Nat):Int)] h (fun r h'=>r= .int .i64 (YZ g l most)/\h'=h)):
 ACall Tryz.prog wz 32 [v, .int .i64 most, .int .i64 ((8-f:Nat):Int)] h (fun r h'=>r= .int .i64 (YZ f l most)/\h'=h):=by
 obtain⟨hvl,hvs,hvc⟩:=hX.shape;obtain⟨qs,hqe,hqL,hqo⟩:=hX.els;have nv:∀H:AHeap,Ze Tryz.prog H 35 v=⟨True, .int .i64 qs.length⟩:=fun H=>by have:=hqL.len Tryz.underlying35 H;rwa [Jp]at this
 have hln:l.length=qs.length:=by rw[hqe,Jp]
 have hl2:=hL.len;have hWb:∀x∈l,qdn f=true->∀z∈x.b,∀k:Int,0<=k->k<=most->0<=qeg f z.2.2.1 k/\qeg f z.2.2.1 k<=k+(140737488355328:Nat):=fun x hx hdp z hz k hk _=>by
  obtain⟨g,rfl,hg⟩:=hL.at_ hx hdp;exact qmU (hg z hz) hk
 rw[weighE_eq];obtain⟨R,hR⟩:∃R,R=Ug (qeg f) most (qdn f) l l.length:=⟨_,rfl⟩
 rw[<-hR];have hdp:qdn f=decide (((8-f:Nat):Int)<8):=by unfold qdn;rw[decide_eq_decide];omega
 have hwd:IntKind.i64.wrap (((8-f:Nat):Int)+1)=((8-f:Nat):Int)+1:=wrap_i64 (by omega) (by omega);refine qP (n:=77) (rs:=[.tmp 6]) Tryz.func32 rfl rfl rfl rfl (V7 rfl) ?_;simp only[qU];refine awp_rseq [0,1,2] (by rfl) fun K hK=>?_;simp+decide only[qJ,↓qa,Nat.reduceAdd];apply hK;clear hK K;refine awp_rseq [0,1,2,7] (by rfl) fun K hK=>?_;simp+decide only[Xh,Qm,↓qc,↓Qr,↓qa,nv];apply hK;clear hK K;refine qo ?_;refine awp_rseq [0,1,2,7,8] (by rfl) fun K hK=>?_;simp+decide only[qJ,↓qa];apply hK;clear hK K;refine qK ?_;refine QD [0,1,2,7,8] (fun g:WgG=>[(0,v),(1, .int .i64 most),(2, .int .i64 ((8-f:Nat):Int)),(7, .int .i64 g.n),(8, .int .i64 g.i)]) (fun g:WgG=>h) (fun g:WgG=>g.i<=qs.length/\0<=g.n/\g.n<=most+140737488355328/\R=Ug (qeg f) most (qdn f) (l.drop g.i) g.n) (fun g:WgG=>qs.length-g.i) ⟨0,qs.length⟩ (by rfl) (Vk _) ⟨Js _,by simp only;omega,by simp only;omega,by rw[Vp,<-hln];exact hR⟩ ?_;rintro⟨i,n⟩ ⟨hi,hn0,hn1,hg⟩;simp only at hi hn0 hn1 hg|-
 refine qo ?_;refine awp_rseq [0,1,2,7,8,20] (by rfl) fun K hK=>?_;simp+decide only[QH,XU,qF,Yh,Zf,Zz,Xk,↓qc,↓Qr,↓qf,↓Xc,qY,qZ,qW,↓QI,qtp,↓QE,nv];apply hK;clear hK K;refine qz (b:=_) rfl (fun hb1=>?_) (fun hb1=>?_)
 ·try simp only[qG]at hb1
  have hi1:i<qs.length:=by omega
  have hnm:n<=most:=by omega
  obtain⟨lc,o,cc,hpe⟩:=hqL.open (fun e=>by rw[V5]at e;rw[e]at hi1;cases hi1);have hq2:=hqL;rw[hpe]at hq2;obtain⟨e0,e1,e2,e3⟩:=x_at hq2 hi1;obtain⟨q,hqq⟩:∃q,q=qs.getD i qtt:=⟨_,rfl⟩
  rw[<-hqq]at e0 e1 e2 e3;have hqm:q∈qs:=by rw[hqq,Ko,JD hi1];exact VY hi1
  obtain⟨hqY,dx',hqZ⟩:=hqo q hqm;obtain⟨hyl,hys,hyc⟩:=hqY.shape;obtain⟨hzl,hzs,hzc⟩:=hqZ.shape;have hxm:q.1∈l:=by rw[hqe];exact BL hqm
  obtain⟨hxp,hxb⟩:=hL.xs q.1 hxm;obtain⟨ys,hye,hyL,-⟩:=id hqY;obtain⟨zs,hze,hzL,hzo⟩:=id hqZ;have hyn:q.1.p.length=ys.length:=by rw[hye,Jp]
  have hzn:q.1.b.length=zs.length:=by rw[hze,Jp]
  have ny:∀H:AHeap,Ze Tryz.prog H 28 q.2.1=⟨True, .int .i64 ys.length⟩:=fun H=>by have:=hyL.len Tryz.underlying28 H;rwa [Jp]at this
  have nz:∀H:AHeap,Ze Tryz.prog H 29 q.2.2=⟨True, .int .i64 zs.length⟩:=fun H=>by have:=hzL.len Tryz.underlying29 H;rwa [Jp]at this
  have hib:(0<=(i:Int)/\(i:Int)<(qs.length:Int))=True:=eq_true ⟨by omega,by omega⟩;have hqy:Int.tdiv (ys.length:Int) 2=((ys.length / 2:Nat):Int):=by rw[Dl (by omega)];exact(Dm _ 2).symm
  have hqz:Int.tdiv (zs.length:Int) 2=((zs.length / 2:Nat):Int):=by rw[Dl (by omega)];exact(Dm _ 2).symm
  have hwy:IntKind.i64.wrap ((ys.length / 2:Nat):Int)=((ys.length / 2:Nat):Int):=wrap_i64 (by omega) (by omega);have hwz:IntKind.i64.wrap ((zs.length / 2:Nat):Int)=((zs.length / 2:Nat):Int):=wrap_i64 (by omega) (by omega);have hw1:IntKind.i64.wrap (n+((ys.length / 2:Nat):Int))=n+((ys.length / 2:Nat):Int):=wrap_i64 (by omega) (by omega);have hw2:IntKind.i64.wrap (n+((ys.length / 2:Nat):Int)+((zs.length / 2:Nat):Int))=n+((ys.length / 2:Nat):Int)+((zs.length / 2:Nat):Int):=wrap_i64 (by omega) (by omega);have hwi:IntKind.i64.wrap ((i:Int)+1)=((i+1:Nat):Int):=by rw[wrap_i64 (by omega) (by omega)];omega
  obtain⟨n1,hn1E⟩:∃n1,n1=n+((ys.length / 2:Nat):Int)+((zs.length / 2:Nat):Int):=⟨_,rfl⟩
  rw[<-hn1E]at hw2;have hdrop:l.drop i=q.1::l.drop (i+1):=by
   rw[Ve (by omega)];congr 1;have:l[i]?=some q.1:=by rw[hqe,V6,JD hi1,hqq,Ko,JD hi1];rfl
   rw[JD (by omega)]at this;exact Option.some.inj this
  rw[hdrop,Ug,if_pos hnm]at hg;obtain⟨m,hmE⟩:∃m,m=qaJ (qeg f) most (qdn f) q.1 n:=⟨_,rfl⟩
  have hmB:=qpN (deep:=qdn f) (n:=n) (hWb q.1 hxm) hxp hxb hn0 hnm;rw[<-hmE]at hg hmB;have hmE2:m=if qdn f=true then qaB (qeg f) most q.1.b n1 else n1:=by rw[hmE,hn1E,<-hyn,<-hzn];rfl
  refine qE ?_;change Awp _ _ _ _ _ _ _;refine qo ?_;refine qK ?_;refine qai [0,1,2,7,8] mixed (by kernel_rfl) (by rfl) (by rfl) fun K hK=>?_;simp+decide only[Yz,Vw,qO,qF,Qm,Jp,ZI,↓qc,↓qI,qh Tryz.underlying35 qsW,↓qg,qhj,↓qj,qd ag28,↓Qr,↓qf,pI_quo,hpe,e1,hyl,ny,hib,hqy,hwy,hw1];try simp+decide only[qJ,cond_false,qaf,WA,XD,Vw,qO,qF,Qm,Jp,ZI,qeF,qd qpv,↓Qr,↓qf,pI_quo,↓qa,e2,hzl,nz,hqz,hwz,<-hn1E,hw2]
  apply hK;clear hK K;refine awp_rseq [0,1,2,7,8,9] (by rfl) fun K hK=>?_;simp+decide only[qJ,↓qa];apply hK;clear hK K;refine qK ?_;refine QD [0,1,2,7,8,9] (fun g:WgG=>[(0,v),(1, .int .i64 most),(2, .int .i64 ((8-f:Nat):Int)),(7, .int .i64 g.n),(8, .int .i64 i),(9, .int .i64 g.i)]) (fun g:WgG=>h) (fun g:WgG=>g.i<=zs.length/\0<=g.n/\g.n<=most+140737488355328/\(qdn f=true->m=qaB (qeg f) most (q.1.b.drop g.i) g.n)/\(qdn f=false->m=g.n)) (fun g:WgG=>zs.length-g.i) ⟨0,n1⟩ (by rw[hpe,Jp];rfl) (Vk _) ⟨Js _,by simp only;omega,by simp only;omega,fun hz=>by rw[hmE2,if_pos hz];rfl,fun hz=>by rw[hmE2,if_neg (by rw[hz];decide)]⟩ ?_;rintro⟨k,n2⟩ ⟨hk,hk0,hk1,hkt,hkf⟩;simp only at hk hk0 hk1 hkt hkf|-
  refine qo ?_;refine awp_rseq [0,1,2,7,8,9,56] (by rfl) fun K hK=>?_;simp+decide only[QH,Zn,Vw,Ya,qF,Yh,Jp,Zf,Zz,Xk,↓qc,↓qI,qh Tryz.underlying35 qsW,↓qg,qeF,↓qj,qd qpv,↓Qr,↓qf,↓Xc,qY,qZ,qW,↓QI,qtp,↓QE,hpe,e2,hzl,nz,hib];apply hK;clear hK K;refine qz (b:=_) rfl (fun hb2=>?_) (fun hb2=>?_)
  ·try simp only[qG]at hb2
   have hk2:k<zs.length:=by omega
   have hd8:qdn f=true:=by rw[hdp];exact decide_eq_true (by omega)
   have hn2m:n2<=most:=by omega
   obtain⟨lz,oz,cz,hze2⟩:=hzL.open (fun e=>by rw[V5]at e;rw[e]at hk2;cases hk2);have hz2:=hzL;rw[hze2]at hz2;obtain⟨g0,g1,g2,g3⟩:=z_at hz2 hk2;obtain⟨z,hzz⟩:∃z,z=zs.getD k qry:=⟨_,rfl⟩
   rw[<-hzz]at g0 g1 g2 g3;have hzm:z∈zs:=by rw[hzz,Ko,JD hk2];exact VY hk2
   have hzX:=(hzo z hzm).2;obtain⟨hul,hus,huc⟩:=hzX.shape;have hzb:z.1∈q.1.b:=by rw[hze];exact BL hzm
   obtain⟨f',hff,hfL⟩:=hL.at_ hxm hd8;have hkb:(0<=(k:Int)/\(k:Int)<(zs.length:Int))=True:=eq_true ⟨by omega,by omega⟩;have hw8:IntKind.i64.wrap (((8-f:Nat):Int)+1)=((8-f':Nat):Int):=by rw[hwd];omega
   have hwn:IntKind.i64.wrap (most-n2)=most-n2:=wrap_i64 (by omega) (by omega);have hWz:=hWb q.1 hxm hd8 z.1 hzb (most-n2) (by omega) (by omega);have hWe:qeg f=YZ f':=by rw[hff];rfl
   obtain⟨u,huE⟩:∃u,u=YZ f' z.1.2.2.1 (most-n2):=⟨_,rfl⟩
   rw[hWe,<-huE]at hWz;have hwu:IntKind.i64.wrap (n2+u)=n2+u:=wrap_i64 (by omega) (by omega);have hwk:IntKind.i64.wrap ((k:Int)+1)=((k+1:Nat):Int):=by rw[wrap_i64 (by omega) (by omega)];omega
   have hdz:q.1.b.drop k=z.1::q.1.b.drop (k+1):=by
    have hbl:k<q.1.b.length:=by omega
    rw[Ve hbl];congr 1;have:q.1.b[k]?=some z.1:=by rw[hze,V6,JD hk2,hzz,Ko,JD hk2];rfl
    rw[JD hbl]at this;exact Option.some.inj this
   refine qE ?_;change Awp _ _ _ _ _ _ _;refine qo ?_;refine qK ?_;refine QK [0,1,2,7,8,9] (by rfl) ?_;simp+decide only[Yz,Vw,qO,qF,Jp,ZI,UC,↓qc,↓qI,qh Tryz.underlying35 qsW,↓qg,qeF,↓qj,qd qpv,qh Tryz.underlying29 sz37,fa37_2,qd ag35,↓qf,hpe,e2,hze2,g2,hul,hib,hkb,hw8,hwn];refine qM (by rfl) (by rfl) (ih f' hff _ z.2.2 z.1.2.2.1 (most-n2) hzX (hfL z.1 hzb) (by omega) (by omega)) fun x9q15 h9q15 hx9q15=>?_;obtain⟨rfl,rfl⟩:=hx9q15;rw[<-huE];simp+decide only[qJ,cond_false,qaf,WA,Vw,qF,Jp,ZI,↓qf,↓qa,hwu];change Awp _ _ _ _ _ _ _;refine QK [0,1,2,7,8,9] (by rfl) ?_;simp+decide only[YH,↓qc,↓qf,↓qa,hwk];try simp only[QT]
   exact⟨⟨k+1,n2+u⟩,by first|rfl|(rw[hpe,Jp];rfl),Vk _,⟨hk2,by simp only;omega,by simp only;omega,fun hz=>by rw[hkt hz,hdz,qaB,if_pos hn2m,hWe,<-huE],fun hz=>by rw[hd8]at hz;cases hz⟩,by simp only;omega⟩
  ·try simp only[qG]at hb2
   have hmk:m=n2:=by
    cases hz:qdn f with
    |false=>exact hkf hz
    |true=>
     have hz8:((8-f:Nat):Int)<8:=by rw[hdp]at hz;exact of_decide_eq_true hz
     rw[hkt hz];by_cases hkl:k<zs.length
     ·have hbl:k<q.1.b.length:=by omega
      rw[Ve hbl,qaB,if_neg (by omega)]
     ·rw[ER (by omega)];rfl
   refine QC ?_;change Awp _ _ _ _ _ _ _;refine QK [0,1,2,7,8] (by rfl) ?_;simp+decide only[YH,↓qc,↓qf,↓qa,hwi];try simp only[QT]
   exact⟨⟨i+1,n2⟩,by rw[hpe,Jp];rfl,Vk _,⟨hi1,hk0,hk1,by rw[<-hmk];exact hg⟩,by simp only;omega⟩
 ·try simp only[qG]at hb1
  have hRn:R=n:=by
   rw[hg];by_cases hil:i<qs.length
   ·rw[Ve (by omega),Ug,if_neg (by omega)]
   ·rw[ER (by omega)];rfl
  refine QC ?_;change Awp _ _ _ _ _ _ _;refine awp_rseq [6] (by rfl) fun K hK=>?_;simp+decide only[Xh,↓qc,↓qa];apply hK;clear hK K;refine qV ?_;refine QL h zqC (qA (qC)) ?_;simp+decide only[Xn];rw[hRn]
theorem c_weigh(wz:World):∀(f d:Nat) (h:AHeap) (v:AVal) (l:List XC) (most:Int),f<=8->XsV wz d h v l->LenX 140737488355328 f l->0<=most->most<=1000000->ACall Tryz.prog wz 32 [v, .int .i64 most, .int .i64 ((8-f:Nat):Int)] h (fun r h'=>r= .int .i64 (YZ f l most)/\h'=h)
 |0,d,h,v,l,most,hf,hX,hL,h0,h6=>qsi wz 0 d h v l most hf hX hL h0 h6 fun g hg=>by cases hg
 |f+1,d,h,v,l,most,hf,hX,hL,h0,h6=>qsi wz (f+1) d h v l most hf hX hL h0 h6 fun g hg d v l most hX hL h0 h6=>by
  obtain rfl:f=g:=Nat.succ.inj hg;exact c_weigh wz f d h v l most (by omega) hX hL h0 h6
def qcV(l:List XC)(most:Int):Bool:=decide (most<YZ 8 l most)
theorem c_big(wz:World)(d:Nat)(h:AHeap)(v:AVal)(l:List XC)(most:Int)(hX:XsV wz d h v l)(hL:LenX 140737488355328 8 l)(h0:0<=most)(h6:most<=1000000):ACall Tryz.prog wz 14 [v, .int .i64 most] h (fun r h'=>r= .bool (qcV l most)/\h'=h):=by
 have hvl:=hX.shape.1;refine qP (n:=10) (rs:=[.tmp 4]) Tryz.func14 rfl rfl rfl rfl (V7 rfl) ?_;simp only[qU];refine awp_rseq [0,1] (by rfl) fun K hK=>?_;simp+decide only[qJ,↓qa];apply hK;clear hK K;refine awp_rseq [4] (by rfl) fun K hK=>?_;simp+decide only[Qw,↓qc];refine QM (V:= .int .i64 (YZ 8 l most)) (by rfl) (by rfl) (c_weigh wz 8 d _ v l most (KL _) hX hL h0 h6) ?_;simp+decide only[ZY,qF,WL,↓qc,↓qf,↓qa];apply hK;clear hK K;refine qV ?_;refine QL h zqC (qA (qC)) ?_;simp+decide only[Xn];all_goals first|rfl|exact⟨rfl,rfl⟩|(simp+decide only[Ka, *];done)|(trace_state;fail)
end Go.Proofs.YtgiadjbiimkbiaaGreatDoor
namespace Go.Stm
open Go.Col (Str FaultC okF)
open Go.Tok
open Go.Proofs.YtgiadjbiimkbiaaGreatDoor (asciiB Short TxS qcV qcZ)
set_option maxRecDepth 100000
theorem qfY{α:Type}{R:α->α->Bool}:∀{l:List α},(∀x∈l,R x x=true)->rowE R l l=true
 |[],_=>rfl
 |x::l,h=>by rw[rowE,h x Jg,qfY fun y hy=>h y (Jh _ hy)];rfl
theorem qjP(l:List TokC):Wo l l=true:=decide_eq_true rfl
theorem qpT(p:PhrC):qbA p p=true:=by unfold qbA;rw[qjP];simp
theorem qnl:∀(m:Nat) (l:List StC),qal m l l=true
 |0,l=>decide_eq_true rfl
 |m+1,l=>qfY fun s _=>by
  rw[qfY fun p _=>qpT p,qfY fun b _=>by rw[qjP,qnl m];simp];simp
structure BuiltOk(x:List StC)(a:Str):Prop where
 wf:WfS 6 x
 cnt:QW 6 x<=151
 ne:x≠[]
 len:a.length<=1000000000
 txt:a≠[]
theorem build_sp.xbuild_sp(B:List XC->Nat->Bool->Str×List StC)(x:XC)(d:Nat)(e last:Bool):∃Y,(QU B x d e last).text=32::Y:=by
 obtain⟨row,hr⟩:∃row,row=rowOf x d:=⟨_,rfl⟩
 obtain⟨b2,hb2⟩:∃b2,b2=XH B x (Xb x ⟨32::row.getD 0 [],⟨row.getD 0 [],0,0,[],[]⟩⟩ (Qc (row.getD 1 []))) (Qc (row.getD 2 [])) d last:=⟨_,rfl⟩
 have h1:(QU B x d e last)=if QO b2 (row.getD 0 []) x.cut e last=true then YB b2 (ENDw++row.getD 0 [])else b2:=by rw[hb2,hr];rfl
 have h2:(32::row.getD 0 [])<+:b2.text:=by
  rw[hb2];refine List.IsPrefix.trans ?_ (qlu _ _ _ _ _ _);have hw:∀b:BuC,∀forms:List Str,b.text<+:(Xb x b forms).text:=fun b forms=>by
   unfold Xb;simp only;split
   ·exact qlw _ _
   ·exact(qlw b _).trans (qde forms _ {YB b (QV x b.cur.verb)with cur:={(YB b (QV x b.cur.verb)).cur with phrases:=[⟨[],Qh (QV x b.cur.verb)⟩]}})
  exact hw ⟨32::row.getD 0 [],⟨row.getD 0 [],0,0,[],[]⟩⟩ _
 obtain⟨Z,hZ⟩:=h2;have h3:∃Y,b2.text=32::Y:=⟨_,hZ.symm⟩
 rw[h1];split
 ·obtain⟨Y,hY⟩:=h3
  exact⟨_,show b2.text++[32]++_=_ by rw[hY];rfl⟩
 ·exact h3
theorem build_sp:∀(f:Nat) (l:List XC) (d:Nat) (last:Bool),(Qi f l d last).1=[]\/∃Y,(Qi f l d last).1=32::Y
 |0,_,_,_=> .inl rfl
 |f+1,l,d,last=>by
  have hE:Qi (f+1) l d last=if (Xw (Qi f) l d last 4 ([],[])).2=[]then([32,67,79,78,84,73,78,85,69],[contC])else Xw (Qi f) l d last 4 ([],[]):=rfl
  rw[hE];split
  ·exact .inr ⟨_,rfl⟩
  ·have key:∀(n:Nat) (r:Str×List StC),(r.1=[]\/∃Y,r.1=32::Y)->(Xw (Qi f) l d last n r).1=[]\/∃Y,(Xw (Qi f) l d last n r).1=32::Y:=by
    intro n;induction n with
    |zero=>intro r h;exact h
    |succ n ih=>
     intro r h;rw[Xw];simp only;split
     ·refine ih _ ?_
      simp only;rcases h with h|⟨Y,h⟩
      ·rw[h,Jf]
       exact .inr (build_sp.xbuild_sp _ _ _ _ _)
      ·rw[h];exact .inr ⟨_,rfl⟩
     ·exact h
   exact key 4 _ (.inl rfl)
theorem qdZ{l:List XC}{most:Int}(h:qcV l most=false)(h0:0<=most)(h30:most<=30)(last:Bool):BuiltOk (Qi 6 l 1 last).2 (Qi 6 l 1 last).1/\qcZ 6 l:=by
 have hle:YZ 8 l most<=most:=by
  unfold qcV at h;have:=of_decide_eq_false h;omega
 obtain⟨h1,h2⟩:=qeh h0 hle;obtain⟨hB,hne⟩:=build_W 6 8 1 (by decide) (by decide) (by decide);have hc:=hB.cnt l last;have hl:=hB.len l last;have hx:qjC 8 l<=30:=by omega
 refine⟨⟨hB.wf l last,by omega,hne l last,by omega,fun e=>?_⟩,qni (m:=2*30+1) (by decide) (h2 30 (by omega)) (by decide)⟩;have hw:=hB.wf l last;have hE:Qi 6 l 1 last=if (Xw (Qi 5) l 1 last 4 ([],[])).2=[]then([32,67,79,78,84,73,78,85,69],[contC])else Xw (Qi 5) l 1 last 4 ([],[]):=rfl
 rw[hE]at e;split at e
 ·cases e
 ·rename_i hz
  by_cases hl0:l.length=0
  ·exact hz (by rw[WF _ _ _ _ _ _ _ (by simp[hl0])])
  ·rw[Um _ _ _ _ _ _ _ (by simp only[JF];omega) (by decide)]at e
   obtain⟨Y,hY⟩:=build_sp.xbuild_sp (Qi 5) (l.getD ([]:List StC).length noX) 1 (decide (([]:List StC).length+1=l.length)||decide (([]:List StC).length=3)) (last && (decide (([]:List StC).length+1=l.length)||decide (([]:List StC).length=3)));have hp:=qfF (Qi 5) l 1 last 3 ([]++(QU (Qi 5) (l.getD ([]:List StC).length noX) 1 (decide (([]:List StC).length+1=l.length)||decide (([]:List StC).length=3)) (last && (decide (([]:List StC).length+1=l.length)||decide (([]:List StC).length=3)))).text,[]++[(QU (Qi 5) (l.getD ([]:List StC).length noX) 1 (decide (([]:List StC).length+1=l.length)||decide (([]:List StC).length=3)) (last && (decide (([]:List StC).length+1=l.length)||decide (([]:List StC).length=3)))).cur.done]);rw[e]at hp;simp only[Jf]at hp;rw[hY]at hp;have:=hp.length_le;simp at this
end Go.Stm
namespace Go.Stm
open Go.Col (Str FaultC okF)
open Go.Tok
set_option maxRecDepth 100000
theorem isV_end{l:List TokC}{i:Nat}(h:isE l i=true):isV l i=false:=by
 unfold isE at h;unfold isV;split
 ·rename_i h0
  rw[if_pos h0,decide_eq_true_eq]at h;unfold YN;rw[h];rfl
 ·rfl
theorem FolN.isV{l:List TokC}{O:List Str}{e p:Nat}(h:FolN l O e)(hp:p=e\/(p=e+1/\At l e [(1,wON)])):Stm.isV l p=false:=by
 rcases hp with rfl|⟨rfl,hon⟩
 ·rcases h with h|⟨v,hv,h⟩|⟨h,_⟩
  ·exact isV_end h
  ·exact(endA hv h).v
  ·exact h.2.2
 ·rcases h with h|⟨v,hv,h⟩|⟨_,_,_,h⟩
  ·exact absurd (qhF h hon) (by decide)
  ·exact absurd hon (qcD hv h (.inl rfl))
  ·exact(h hon).1.2.2
theorem Fin.isV{l:List TokC}{O:List Str}{last:Bool}{vs:List Str}{e p:Nat}(h:Fol l O last vs e)(hp:Fin l last vs e p):Stm.isV l p=false:=by
 unfold Fol at h;unfold Fin at hp;cases hl:last with
 |true=>
  rw[if_pos hl]at h hp;obtain⟨t,ht,rfl⟩:=hp;exact FolN.isV (O:=[]) (h.skip ht).toN (.inl rfl)
 |false=>
  rw[if_neg (by rw[hl];decide)]at h hp;exact h.isV hp
section
variable {B:List XC->Nat->Bool->Str×List StC}
theorem qpC(hsp:∀l d last,(B l d last).1=[]\/∃Y,(B l d last).1=32::Y)(x:XC)(d:Nat)(e lst:Bool):∃k,k<39/\∃r,KW (QU B x d e lst).text=(1,qi k)::r:=by
 obtain⟨k,hk⟩:∃k,k=if 4<d then 21 else x.verb.toNat%39:=⟨_,rfl⟩
 have hk39:k<39:=by rw[hk];split<;>omega
 obtain⟨b1,hb1⟩:∃b1,b1=Xb x ⟨32::qi k,⟨qi k,0,0,[],[]⟩⟩ (Qc (QF k)):=⟨_,rfl⟩
 obtain⟨b2,hb2⟩:∃b2,b2=XH B x b1 (Qc (QB k)) d lst:=⟨_,rfl⟩
 have hxE:QU B x d e lst=if QO b2 (qi k) x.cut e lst=true then YB b2 (ENDw++qi k)else b2:=by
  unfold QU rowOf;rw[<-hk,hb2,hb1];rfl
 obtain⟨ws,hws,_⟩:=qga (l:=[]) (d:=0) (O:=[]) hk39 (fun f h=>by cases h) x (e:=0) b1 hb1;have h2:∃r,KW b2.text=KW b1.text++r:=by
  by_cases hv:b1.cur.verb=XY
  ·have hbE:b2=if (firstT b1.cur.phrases).length=0\/((firstT b1.cur.phrases).length=1/\qbt b1 qas=true/\qbt b1 qaP=false)then WP B b1 [] [] (x.b.getD 0 noZ).2.2.1 d false else b1:=by
    rw[hb2];unfold XH;simp only;rw[if_pos hv]
   rw[hbE];split
   ·exact⟨_,qkO B b1 [] (.inl rfl) _ _ _ (hsp _ _ _)⟩
   ·exact⟨[],by rw[JG]⟩
  ·rw[hb2,qbk _ _ _ _ _ _ hv]
   exact⟨_,qkN hsp _ _ _ _ _ _⟩
 obtain⟨r,hr⟩:=h2;refine⟨k,hk39,?_⟩;rw[hxE];split
 ·rw[show(YB b2 (ENDw++qi k)).text=b2.text++[32]++(ENDw++qi k)from rfl,qkr,hr,hws]
  exact⟨_,rfl⟩
 ·rw[hr,hws]
  exact⟨_,rfl⟩
theorem read_go{m d:Nat}(hd:d<=32)(hsp:∀l d last,(B l d last).1=[]\/∃Y,(B l d last).1=32::Y)(hB:d<=4->qfL B m (d+1))(hV:d<=4->HeadV B (d+1))(lx:List XC)(last:Bool):∀(n:Nat) (T:Str) (S:List StC),S.length+n=4->S.length<lx.length->S.length<4->
 ∃Z U,Xw B lx d last n (T,S)=(T++Z,S++U)/\(∃Y,Z=32::Y)/\(∃k,k<39/\∃r,KW Z=(1,qi k)::r)/\U≠[]/\∀(l:List TokC) (O:List Str) (vs:List Str) (e:Nat) (acc:List StC),(∀f∈O,f∈BFS)->At l e (KW Z)->Fol l O last vs (e+(KW Z).length)->
  ∃L p,ListR wordsO l Qo d O e acc (.ok (acc++L) p)/\rowE (qtb m) L U=true/\L≠[]/\VerbA l e/\Fin l last vs (e+(KW Z).length) p
 |0,T,S,h,h1,h4=>by omega
 |n+1,T,S,h,h1,h4=>by
  obtain⟨x,hx⟩:∃x,x=lx.getD S.length noX:=⟨_,rfl⟩
  obtain⟨en,hen⟩:∃en,en=(decide (S.length+1=lx.length)||decide (S.length=3)):=⟨_,rfl⟩
  rw[Um B lx d last n T S h1 h4,<-hx,<-hen];obtain⟨b,hb⟩:∃b,b=QU B x d en (last && en):=⟨_,rfl⟩
  rw[<-hb];obtain⟨Y,hY⟩:=build_sp.xbuild_sp B x d en (last && en);obtain⟨k,hk,r,hr⟩:=qpC hsp x d en (last && en);rw[<-hb]at hY hr;cases he:en with
  |true=>
   rw[he,J8]at hb;rw[he]at hen;replace hen:=hen.symm
   refine⟨b.text,[b.cur.done],WF _ _ _ _ _ _ _ ?_,⟨Y,hY⟩,⟨k,hk,r,hr⟩,by simp,?_⟩
   ·rw[Jd,JH]
    simp only[decide_eq_true_eq,JJ]at hen;omega
   ·intro l O vs e acc hO ha hF
    have hva:VerbA l e:=qpK hk (EY.2 (by rw[hr]at ha;exact ha.1));have hst:=read_st (l:=l) (d:=d) (O:=O) (B:=B) (m:=m) (x:=x) (lst:=last) (end_:=true) (vs:=vs) hd hsp hO hB hV (fun _=>rfl) (e:=e) (by rw[<-hb];exact ha) ⟨(fun _=>by rw[<-hb];exact hF),fun h=>by cases h⟩;rw[<-hb]at hst;obtain⟨s,p,s1,s2,s3,_⟩:=hst;refine⟨[s],p,Dn hva.v s1 (Dp (Fin.isV hF (s3 rfl))),?_,by simp,hva,s3 rfl⟩;simp[rowE,s2]
  |false=>
   rw[he,Bool.and_false]at hb;rw[he]at hen;have hen':S.length+1≠lx.length/\S.length≠3:=by
    have:=hen.symm;simp only[decide_eq_false_iff_not,VD]at this;exact this
   obtain⟨Z,U,g1,⟨Y',g2⟩,⟨k',hk',r',g3⟩,g4,g5⟩:=read_go hd hsp hB hV lx last n (T++b.text) (S++[b.cur.done]) (by rw[Jd,JH];omega) (by rw[Jd,JH];omega) (by rw[Jd,JH];omega);have hKW:KW (b.text++Z)=KW b.text++KW Z:=qfM _ (.inr ⟨Y',g2⟩);refine⟨b.text++Z,b.cur.done::U,by rw[g1,Jb,Jb];rfl,⟨Y++Z,by rw[hY];rfl⟩,⟨k,hk,r++KW Z,by rw[hKW,hr];rfl⟩,by simp,?_⟩;intro l O vs e acc hO ha hF;rw[hKW]at ha hF|-
   rw[Jd,<-Kw]at hF|-
   obtain⟨a1,a2⟩:=EU.1 ha;have hva:VerbA l e:=qpK hk (EY.2 (by rw[hr]at a1;exact a1.1));have hvb:VerbA l (e+(KW b.text).length):=qpK hk' (EY.2 (by rw[g3]at a2;exact a2.1));have hst:=read_st (l:=l) (d:=d) (O:=O) (B:=B) (m:=m) (x:=x) (lst:=false) (end_:=false) (vs:=vs) hd hsp hO hB hV (fun h=>by cases h) (e:=e) (by rw[<-hb];exact a1) ⟨(fun h=>by cases h),fun _=>(by rw[<-hb];exact hvb)⟩;rw[<-hb]at hst;obtain⟨s,p,s1,s2,_,s4⟩:=hst;rw[s4 rfl]at s1;obtain⟨L,q,t1,t2,t3,_,t5⟩:=g5 l O vs _ (acc++[s]) hO a2 hF;refine⟨s::L,q,Dn hva.v s1 (by rw[Jb]at t1;exact t1),?_,by simp,hva,t5⟩;rw[rowE,s2,t2];rfl
end
theorem qte(m:Nat)(a b:List StC):qal (m+1) a b=rowE (qtb m) a b:=rfl
theorem read_cont{l:List TokC}{d:Nat}{O:List Str}{last:Bool}{vs:List Str}{e:Nat}(hd:d<=32)(hO:∀f∈O,f∈BFS)(ha:At l e (KW [32,67,79,78,84,73,78,85,69]))(hF:Fol l O last vs (e+1)){m:Nat}:
 qsF l d O m e contC true last vs (e+1):=by
 have hk:(7:Nat)<39:=by decide
 have hvb:qi 7=[67,79,78,84,73,78,85,69]:=by decide+kernel
 have hK:KW [32,67,79,78,84,73,78,85,69]=[(1,qi 7)]:=by decide+kernel
 have hbod:QB 7=[]:=by decide+kernel
 have hvp:qi 7≠XY:=by decide+kernel
 have hnif:qi 7≠IFv:=by decide+kernel
 have kd2:qi 7∉endedV:=by decide+kernel
 have kd3:Ue (qi 7)=false:=by decide+kernel
 rw[hK]at ha;have hkv:(l.getD e noT).text=qi 7:=congrArg Prod.snd (show kt (l.getD e noT)=(1,qi 7)from ha.1.2);have hcv:(qck l e).verb=qi 7:=hkv;obtain⟨b2,hb2⟩:∃b2:BuC,b2=⟨[],⟨[],0,0,[],[]⟩⟩:=⟨_,rfl⟩
 have hn:QO b2 (qi 7) noX.cut true last=false:=by
  cases h:QO b2 (qi 7) noX.cut true last with
  |false=>rfl
  |true=>exact absurd (qcP hk h) kd2
 obtain⟨cl,p',f1,f2,f3⟩:=qeE (l:=l) (d:=d) (O:=O) (x:=noX) (lst:=last) (end_:=true) (vs:=vs) (e:=e+1) (p:=e+1) hk (b2:=b2) (by rw[hb2]) (fun _=>rfl) hcv (qbP hcv hnif fun h=>absurd h hvp) (.inl rfl) (fun h=>by rw[hn]at h;cases h) (fun _=>⟨fun _=>hF,fun h=>by cases h⟩);rw[hn,if_neg (by decide)]at f2 f3;refine⟨(qck l e).done,p',qlj hk hd hkv f1 (qdb hcv kd3 hvp _),?_,f2,fun h=>by cases h⟩;have h1:(qck l e).done.verb=qi 7:=hkv;unfold qtb;rw[h1,hvb];rfl
theorem qhr:∀(f d:Nat),6<=f+d->d<=5->qfL (Qi f) f d/\HeadV (Qi f) d
 |0,d,h,h5=>by omega
 |f+1,d,h,h5=>by
  have hB:d<=4->qfL (Qi f) f (d+1):=fun h4=>(qhr f (d+1) (by omega) (by omega)).1;have hV:d<=4->HeadV (Qi f) (d+1):=fun h4=>(qhr f (d+1) (by omega) (by omega)).2;have hE:∀(l:List XC) (last:Bool),Qi (f+1) l d last=if (Xw (Qi f) l d last 4 ([],[])).2=[]then([32,67,79,78,84,73,78,85,69],[contC])else Xw (Qi f) l d last 4 ([],[]):=fun l last=>rfl
  have key:∀(lx:List XC) (last:Bool),(lx=[]/\Qi (f+1) lx d last=([32,67,79,78,84,73,78,85,69],[contC]))\/(lx≠[]/\∃Z U,Qi (f+1) lx d last=(Z,U)/\(∃k,k<39/\∃r,KW Z=(1,qi k)::r)/\∀(l:List TokC) (O:List Str) (vs:List Str) (e:Nat) (acc:List StC),(∀f∈O,f∈BFS)->At l e (KW Z)->Fol l O last vs (e+(KW Z).length)->
   ∃L p,ListR wordsO l Qo d O e acc (.ok (acc++L) p)/\rowE (qtb f) L U=true/\L≠[]/\VerbA l e/\Fin l last vs (e+(KW Z).length) p):=fun lx last=>by
   by_cases hl:lx=[]
   ·refine .inl ⟨hl,?_⟩
    rw[hE,WF _ _ _ _ _ _ _ (by simp[hl]),if_pos rfl]
   ·have hl0:0<lx.length:=Bv.2 hl
    obtain⟨Z,U,g1,_,g3,g4,g5⟩:=read_go (by omega) (build_sp f) hB hV lx last 4 [] [] rfl hl0 (by decide);rw[Jf,Jf]at g1;exact .inr ⟨hl,Z,U,by rw[hE,g1,if_neg g4],g3,g5⟩
  refine⟨fun l O lx last vs e hO ha hF=>?_,fun lx last=>?_⟩
  ·rcases key lx last with⟨_,h1⟩|⟨_,Z,U,h1,_,h2⟩
   ·rw[h1]at ha hF|-
    have hK:KW [32,67,79,78,84,73,78,85,69]=[(1,qi 7)]:=by decide+kernel
    have hva:VerbA l e:=qpK (k:=7) (by decide) (by rw[<-hK];exact ha);obtain⟨s,p,s1,s2,s3,_⟩:=read_cont (d:=d) (m:=f) (by omega) hO ha (by rw[hK]at hF;exact hF);refine⟨[s],p,Dn hva.v s1 (Dp (Fin.isV (e:=e+1) (by rw[hK]at hF;exact hF) (s3 rfl))),?_,by simp,hva,by rw[hK];exact s3 rfl⟩;rw[qte,rowE,s2];rfl
   ·rw[h1]at ha hF|-
    obtain⟨L,p,t1,t2,t3,t4,t5⟩:=h2 l O vs e [] hO ha hF;exact⟨L,p,t1,t2,t3,t4,t5⟩
  ·rcases key lx last with⟨_,h1⟩|⟨_,Z,U,h1,h2,_⟩
   ·rw[h1]
    exact⟨7,by decide,[],by decide+kernel⟩
   ·rw[h1]
    exact h2
end Go.Stm
namespace Go.Stm
open Go.Col (Str FaultC okF)
open Go.Tok
open Go.Proofs.YtgiadjbiimkbiaaGreatDoor (qcV)
set_option maxRecDepth 100000
theorem T_lenP:(PT.all fun p=>p.2.all fun fm=>fm.vars.all fun W=>decide (W.length<=6))=true:=by decide+kernel
theorem T_lenB:(BT.all fun b=>b.2.2.all fun fm=>fm.vars.all fun W=>decide (W.length<=6))=true:=by decide+kernel
theorem qeU(ops:List UInt8):(KW (QY ops)).length<=4:=by
 rw[qiM,Jp,K6];omega
theorem first_len(x:XC)(verb:Str):(KW (QV x verb)).length<=4:=by
 have h:(KW (if x.p=[]then[]else QY (x.p.getD 0 noY).ops)).length<=4:=by
  split
  ·exact Js _
  ·exact qeU _
 unfold QV;simp only;by_cases hc:verb=IFv/\(if x.p=[]then[]else QY (x.p.getD 0 noY).ops)=[]
 ·rw[if_pos hc];decide+kernel
 ·rw[if_neg hc];exact h
theorem opsB_len(name:Str)(z:ZC):(KW (qbp name z)).length<=4:=by
 unfold qbp;split
 ·split
  ·decide+kernel
  ·exact qeU _
 ·exact Js _
theorem kws_len(W:List Str):(kws W).length=W.length:=by unfold kws;rw[Jp]
theorem flatten_len{α:Type}{n:Nat}:∀(L:List (List α)),(∀a∈L,a.length<=n)->L.flatten.length<=n*L.length
 |[],_=>Js _
 |a::L,h=>by
  have h1:=h a Jg;have h2:=flatten_len L fun b hb=>h b (Jh _ hb);rw[VS,Jd,KZ,Nat.mul_succ];omega
theorem KW_phrases{k:Nat}(hk:k<39)(x:XC):KW (Xb x ⟨32::qi k,⟨qi k,0,0,[],[]⟩⟩ (Qc (QF k))).text=(1,qi k)::(KW (QV x (qi k))++qky x (Qc (QF k))):=by
 obtain⟨b0,hb0⟩:∃b0:BuC,b0={YB ⟨32::qi k,⟨qi k,0,0,[],[]⟩⟩ (QV x (qi k))with cur:={(YB ⟨32::qi k,⟨qi k,0,0,[],[]⟩⟩ (QV x (qi k))).cur with phrases:=[⟨[],Qh (QV x (qi k))⟩]}}:=⟨_,rfl⟩
 have hKW0:KW b0.text=(1,qi k)::KW (QV x (qi k)):=by
  rw[hb0];show KW (32::qi k++[32]++QV x (qi k))=_
  rw[qkr,KW_verb hk];rfl
 have hE:Xb x ⟨32::qi k,⟨qi k,0,0,[],[]⟩⟩ (Qc (QF k))=if Qc (QF k)=[]then b0 else((x.p.take 5).drop 1).foldl (QJ (Qc (QF k))) b0:=by rw[hb0];rfl
 rw[hE];unfold qky;split
 ·rw[hKW0,JG]
 ·have:∀(ys:List YC) (b:BuC),KW (ys.foldl (QJ (Qc (QF k))) b).text=KW b.text++(ys.map (UG (Qc (QF k)))).flatten:=by
   intro ys;induction ys with
   |nil=>intro b;simp
   |cons y ys ih=>intro b;rw[EP,ih,qjJ,Ke,VS,Jb]
  rw[this,hKW0];rfl
section
variable {B:List XC->Nat->Bool->Str×List StC}
theorem phr_len{k:Nat}(hk:k<39)(x:XC):(qky x (Qc (QF k))).length<=40:=by
 obtain⟨fs,gs,hfs,_,_⟩:=qet hk;obtain⟨hf1,hf2⟩:=qeT hfs;unfold qky;split
 ·exact Js _
 ·rename_i hne
  refine Vg (flatten_len (n:=10) _ fun a ha=>?_) ?_
  ·obtain⟨y,_,rfl⟩:=JM.1 ha
   unfold UG;rw[Jd];have hpos:0<(Qc (QF k)).length:=Bv.2 hne;have hm:qbv (Qc (QF k)) y∈Qc (QF k):=by
    unfold qbv;rw[Dq,JD (Km _ hpos)];exact VY _
   obtain⟨fm,hfm,hfe⟩:∃fm∈fs,fm.form=qbv (Qc (QF k)) y:=by
    have hm':=hm;generalize qbv (Qc (QF k)) y=F at hm'|-
    rw[hf1]at hm';obtain⟨fm,h1,h2⟩:=JM.1 hm';exact⟨fm,h1,h2⟩
   obtain⟨W,hW,hKW⟩:=(hf2 fm hfm).text y.short;rw[<-hfe,hKW,kws_len];have h6:=JB.1 T_lenP _ hfs;simp only[decide_eq_true_eq,JB]at h6;have:=h6 fm hfm W hW;have:=qeU y.ops;omega
  ·rw[Jp,K7,K6]
   omega
theorem step_len{k:Nat}(hk:k<39){gs:List Fm}(hgs:(QB k,bq k,gs)∈BT){x:XC}{s:BuC×Str}{i m d:Nat}{lst:Bool}(h:BodI k s i)(hB:∀l last,(KW (B l (d+1) last).1).length<=100*QW m (B l (d+1) last).2):
 (stepW B x (Qc (QB k)) d lst s i).length+100*ZK m s.1.cur.bodies<=10+100*ZK m (Qn B x (Qc (QB k)) d lst s i).1.cur.bodies:=by
 have hw:=qep (x:=x) hk hgs h;unfold stepW Qn;simp only;cases hsk:UL s.2 (XB s.1.cur.verb (Qc (QB k)) (x.b.getD i noZ) i) (Xj (XB s.1.cur.verb (Qc (QB k)) (x.b.getD i noZ) i))with
 |true=>rw[if_pos rfl,if_pos rfl,JF];omega
 |false=>
  rw[if_neg (by decide),if_neg (by decide)];obtain⟨fm,hfm,_,h1⟩:=hw hsk;have h6:=JB.1 T_lenB _ hgs;simp only[decide_eq_true_eq,JB]at h6;have hT:(KW (qak (XB s.1.cur.verb (Qc (QB k)) (x.b.getD i noZ) i) (Xj (XB s.1.cur.verb (Qc (QB k)) (x.b.getD i noZ) i)) (x.b.getD i noZ))).length<=6:=by
   rcases h1 with⟨W,hW,h1⟩|⟨_,_,_,_,h1⟩
   ·rw[h1,kws_len];exact h6 fm hfm W hW
   ·rw[h1];exact Js _
  have hO:=opsB_len (Xj (XB s.1.cur.verb (Qc (QB k)) (x.b.getD i noZ) i)) (x.b.getD i noZ);rw[Jd,Jd];show _<=10+100*ZK m (s.1.cur.bodies++[_])
  unfold ZK;rw[JK,Dj,Es,Dk];have:=hB (x.b.getD i noZ).2.2.1 (lst && (decide (i=3)||decide (x.b.length<=i+1)));simp only;omega
theorem qnL{k:Nat}(hk:k<39){gs:List Fm}(hgs:(QB k,bq k,gs)∈BT){x:XC}{m d:Nat}{lst:Bool}(hB:∀l last,(KW (B l (d+1) last).1).length<=100*QW m (B l (d+1) last).2):∀(n i:Nat) (s:BuC×Str),BodI k s i->
 (UW B x (Qc (QB k)) d lst ((KP n).map (i+ ·)) s).length+100*ZK m s.1.cur.bodies<=10*n+100*ZK m (((KP n).map (i+ ·)).foldl (Qn B x (Qc (QB k)) d lst) s).1.cur.bodies
 |0,i,s,_=>by simp[UW]
 |n+1,i,s,h=>by
  have e:(KP (n+1)).map (i+ ·)=i::(KP n).map (i+1+ ·):=by
   rw[Dh,Ke,Di,K8];congr 1;exact Dg fun q _=>by simp only[Function.comp];omega
  rw[e,UW,Jd,EP];have h1:=step_len (x:=x) (lst:=lst) hk hgs h hB;have h2:=qnL (x:=x) (lst:=lst) hk hgs hB n (i+1) _ (h.step (B:=B) (x:=x) (d:=d) (lst:=lst) hk hgs);omega
theorem qsJ{m d:Nat}(hsp:∀l d last,(B l d last).1=[]\/∃Y,(B l d last).1=32::Y)(hB:d<=4->∀l last,(KW (B l (d+1) last).1).length<=100*QW m (B l (d+1) last).2)(x:XC)(e lst:Bool):
 (KW (QU B x d e lst).text).length<=100*(1+ZK m (QU B x d e lst).cur.bodies):=by
 obtain⟨k,hk⟩:∃k,k=if 4<d then 21 else x.verb.toNat%39:=⟨_,rfl⟩
 have hk39:k<39:=by rw[hk];split<;>omega
 obtain⟨b1,hb1⟩:∃b1,b1=Xb x ⟨32::qi k,⟨qi k,0,0,[],[]⟩⟩ (Qc (QF k)):=⟨_,rfl⟩
 obtain⟨b2,hb2⟩:∃b2,b2=XH B x b1 (Qc (QB k)) d lst:=⟨_,rfl⟩
 have hxE:QU B x d e lst=if QO b2 (qi k) x.cut e lst=true then YB b2 (ENDw++qi k)else b2:=by
  unfold QU rowOf;rw[<-hk,hb2,hb1];rfl
 obtain⟨fs,gs,hfs,hgs,_⟩:=qet hk39;obtain⟨v1,v2,_,_⟩:=WK x ⟨32::qi k,⟨qi k,0,0,[],[]⟩⟩ (Qc (QF k));rw[<-hb1]at v1 v2;simp only at v1 v2;have h1:(KW b1.text).length<=45:=by
  rw[hb1,KW_phrases hk39,KZ,Jd];have:=first_len x (qi k);have:=phr_len hk39 x;omega
 have h2:(KW b2.text).length<=90+100*ZK m b2.cur.bodies:=by
  by_cases hv:b1.cur.verb=XY
  ·have hbE:b2=if (firstT b1.cur.phrases).length=0\/((firstT b1.cur.phrases).length=1/\qbt b1 qas=true/\qbt b1 qaP=false)then WP B b1 [] [] (x.b.getD 0 noZ).2.2.1 d false else b1:=by
    rw[hb2];unfold XH;simp only;rw[if_pos hv]
   have hd4:d<=4:=by
    by_cases h4:d<=4
    ·exact h4
    ·rw[if_pos (by omega)]at hk
     rw[v1,hk]at hv;exact absurd hv (by decide+kernel)
   rw[hbE];split
   ·rw[qkO B b1 [] (.inl rfl) _ _ _ (hsp _ _ _),Jd,Jd]
    have:=hB hd4 (x.b.getD 0 noZ).2.2.1 false;have e2:ZK m (WP B b1 [] [] (x.b.getD 0 noZ).2.2.1 d false).cur.bodies=QW m (B (x.b.getD 0 noZ).2.2.1 (d+1) false).2:=by
     unfold WP ZK;rw[v2];simp
    rw[e2,show(KW ([]:Str)).length=0 from rfl];omega
   ·omega
  ·by_cases h4:d<=4
   ·have hbl:=qbk B x b1 (Qc (QB k)) d lst hv
    obtain⟨N,hN⟩:∃N,N=qaI x b1.cur.verb:=⟨_,rfl⟩
    rw[<-hN]at hbl;have hN4:N<=4:=by rw[hN];unfold qaI;omega
    have hI:BodI k (b1,([]:Str)) 0:=⟨v1,(fun bd h=>by simp only at h;rw[v2]at h;cases h),(fun _=> .inl ⟨rfl,v2⟩),fun _=>rfl⟩
    have:=qnL (x:=x) (lst:=lst) hk39 hgs (hB h4) N 0 (b1,[]) hI;rw[show(KP N).map (0+ ·)=KP N by simp]at this;rw[hb2,hbl,qkN hsp,Jd];have h0:ZK m ((b1,([]:Str)):BuC×Str).1.cur.bodies=0:=by
     show ZK m b1.cur.bodies=0
     rw[v2];rfl
    rw[h0]at this;have h3:((b1,([]:Str)):BuC×Str).1.text=b1.text:=rfl;rw[h3];omega
   ·rw[if_pos (by omega)]at hk
    have hb0:Qc (QB k)=[]:=by rw[hk];decide+kernel
    have hn0:Ue (qi k)=false:=by rw[hk];decide+kernel
    have:b2=b1:=by
     rw[hb2,hb0];exact qdr B x b1 d lst hv (by rw[v1];exact hn0)
    rw[this];omega
 rw[hxE];split
 ·rename_i hn
  rw[show(YB b2 (ENDw++qi k)).text=b2.text++[32]++(ENDw++qi k)from rfl,qkr,KW_end hk39 (qcP hk39 hn),Jd,JH];show _<=100*(1+ZK m b2.cur.bodies)
  omega
 ·omega
theorem qkn{m d:Nat}(hsp:∀l d last,(B l d last).1=[]\/∃Y,(B l d last).1=32::Y)(hB:d<=4->∀l last,(KW (B l (d+1) last).1).length<=100*QW m (B l (d+1) last).2)(l:List XC)(last:Bool):∀(n:Nat) (T:Str) (S:List StC),
 (KW T).length<=100*QW (m+1) S->(KW (Xw B l d last n (T,S)).1).length<=100*QW (m+1) (Xw B l d last n (T,S)).2
 |0,T,S,h=>h
 |n+1,T,S,h=>by
  by_cases hi:S.length<l.length/\S.length<4
  ·rw[Um _ _ _ _ _ _ _ hi.1 hi.2]
   obtain⟨e,he⟩:∃e,e=(decide (S.length+1=l.length)||decide (S.length=3)):=⟨_,rfl⟩
   rw[<-he];obtain⟨Y,hY⟩:=build_sp.xbuild_sp B (l.getD S.length noX) d e (last && e);have hx:=qsJ hsp hB (l.getD S.length noX) e (last && e);refine qkn hsp hB l last n _ _ ?_;rw[qfM _ (.inr ⟨Y,hY⟩),Jd,qeG];have:∀b:BuC,ZK m b.cur.done.bodies=ZK m b.cur.bodies:=fun b=>rfl;rw[this];omega
  ·rw[WF _ _ _ _ _ _ _ hi]
   exact h
end
theorem qjE:∀(f d:Nat),6<=f+d->d<=5->∀(l:List XC) (last:Bool),(KW (Qi f l d last).1).length<=100*QW f (Qi f l d last).2
 |0,d,h,h5=>by omega
 |f+1,d,h,h5=>fun l last=>by
  have hB:d<=4->∀l last,(KW (Qi f l (d+1) last).1).length<=100*QW f (Qi f l (d+1) last).2:=fun h4=>qjE f (d+1) (by omega) (by omega);have hE:Qi (f+1) l d last=if (Xw (Qi f) l d last 4 ([],[])).2=[]then([32,67,79,78,84,73,78,85,69],[contC])else Xw (Qi f) l d last 4 ([],[]):=rfl
  rw[hE];split
  ·have h1:QW (f+1) [contC]=1:=by simp[QW,contC,Eo]
   rw[h1];decide+kernel
  ·exact qkn (build_sp f) hB l last 4 [] [] (Js _)
theorem failE_e(l:List TokC)(e:Int)(a:Nat):(qam l e a).e=e:=by
 unfold qam;split<;>rfl
theorem qfE{l:List XC}(h:qcV l 15=false):
 (∃L j,ParseR wordsO (Qh ((Qi 6 l 1 true).1++[32,46])) Qo (.ok L j)/\qal 6 L (Qi 6 l 1 true).2=true)/\
 ∃f:FaultC,f.e=4/\ParseR wordsO ((Qh ((Qi 6 l 1 true).1++[32,46])).take ((Qh ((Qi 6 l 1 true).1++[32,46])).length-1)) Qo (.bad f):=by
 obtain⟨A,hA⟩:∃A,A=(Qi 6 l 1 true).1:=⟨_,rfl⟩
 obtain⟨hb,_⟩:=qdZ h (by decide) (by decide) true;have hcnt:=hb.cnt;have hlen:=qjE 6 1 (by decide) (by decide) l true;have hread:=(qhr 6 1 (by decide) (by decide)).1;have hn:(KW A).length<=15100:=by rw[hA];omega
 obtain⟨t,ht⟩:∃t,t=Qh (A++[32,46]):=⟨_,rfl⟩
 rw[<-hA,<-ht];have hK:t.map kt=KW A++[(6,[46])]:=by
  rw[ht,UV,qfM _ (.inr ⟨[46],rfl⟩),show KW [32,46]=[(6,[46])] by decide+kernel]
 have htl:t.length=(KW A).length+1:=by
  have:=congrArg Ee hK;rw[Jp,Jd,JH]at this;exact this
 constructor
 ·have ha:=At.of_kt hK
  obtain⟨a1,a2⟩:=EU.1 ha;rw[Jr]at a2;have hE:isE t (KW A).length=true:=by rw[qlK (EY.1 a2)];rfl
  obtain⟨L,p,h1,h2,_,h4,h5⟩:=hread t [] l true [] 0 (fun f hf=>by cases hf) (by rw[<-hA];exact a1) (by
   unfold Fol;rw[if_pos rfl];exact⟨trivial,(fun v hv=>by cases hv),by rw[<-hA,Jr];exact hE⟩)
  have hp:p=(KW A).length:=by
   unfold Fin at h5;rw[if_pos rfl,<-hA]at h5;obtain⟨t',ht',rfl⟩:=h5;rw[JF]at ht';omega
  have hlt:=(EY.1 a2).1;refine⟨L,(KW A).length+1,Ea (by omega) (SentR.next (j:=p) (L:=L) (by omega) h1 ?_ ?_),h2⟩
  ·rw[hp]
   rintro(h|h)
   ·omega
   ·unfold isE at hE
    rw[if_pos hlt,decide_eq_true_eq]at hE;exact h hE
  ·rw[hp,Jf]
   exact SentR.stop (by omega)
 ·obtain⟨u,hu⟩:∃u,u=t.take (t.length-1):=⟨_,rfl⟩
  rw[<-hu];have hKu:u.map kt=KW A:=by
   rw[hu,List.map_take,hK,htl,Nat.add_sub_cancel,List.take_left]
  have hul:u.length=(KW A).length:=by rw[<-hKu,Jp]
  have ha:=At.of_kt hKu;have hE:isE u (KW A).length=true:=by unfold isE;rw[if_neg (by omega)]
  obtain⟨L,p,h1,h2,_,h4,h5⟩:=hread u [] l true [] 0 (fun f hf=>by cases hf) (by rw[<-hA];exact ha) (by
   unfold Fol;rw[if_pos rfl];exact⟨trivial,(fun v hv=>by cases hv),by rw[<-hA,Jr];exact hE⟩)
  have hp:p=(KW A).length:=by
   unfold Fin at h5;rw[if_pos rfl,<-hA]at h5;obtain⟨t',ht',rfl⟩:=h5;rw[JF]at ht';omega
  have h0:=verb_in h4;exact⟨qam u 4 p,failE_e u 4 p,Ea (by omega) (SentR.open h0 h1 (.inl (by omega)))⟩
end Go.Stm
namespace Go.Stm
open Go.Col (Str FaultC okF)
open Go.Tok
open Go.Proofs.YtgiadjbiimkbiaaGreatDoor (asciiB qcV)
set_option maxRecDepth 100000
def Tx(n:Nat)(s:Str):Prop:=s.length<=n/\asciiB s=true
theorem Tx.app{m n:Nat}{a b:Str}(ha:Tx m a)(hb:Tx n b):Tx (m+n) (a++b):=⟨by rw[Jd];exact Nat.add_le_add ha.1 hb.1,by
 unfold asciiB;rw[List.all_append];exact Bool.and_eq_true_iff.2 ⟨ha.2,hb.2⟩⟩
theorem Tx.mono{m n:Nat}{a:Str}(ha:Tx m a)(h:m<=n):Tx n a:=⟨Vg ha.1 h,ha.2⟩
theorem Tx.sp:Tx 1 [32]:=⟨by decide,by decide⟩
theorem T_txP:(PT.all fun p=>p.2.all fun fm=>(KP 32).all fun b=>decide ((Zl fm.form (KD b) true).length<=80) && asciiB (Zl fm.form (KD b) true))=true:=by decide+kernel
theorem T_txB:(BT.all fun p=>p.2.2.all fun fm=>(KP 32).all fun b=>decide ((Zl fm.form (KD b) true).length<=80) && asciiB (Zl fm.form (KD b) true))=true:=by decide+kernel
theorem T_txV:((KP 39).all fun k=>decide ((qi k).length<=20) && asciiB (qi k))=true:=by decide+kernel
theorem verb_tx{k:Nat}(hk:k<39):Tx 20 (qi k):=by
 have h:=JB.1 T_txV k (JC.2 hk);rw[Ky,decide_eq_true_eq]at h;exact h
theorem qpO{fm:Fm}(h1:fmB fm=true)(h2:((KP 32).all fun b=>decide ((Zl fm.form (KD b) true).length<=80) && asciiB (Zl fm.form (KD b) true))=true)(b:UInt8):Tx 80 (Zl fm.form b true):=by
 simp only[Wy,fmB]at h1;rw[qnk h1.2.2.1 b];have h:=JB.1 h2 (b.toNat%32) (JC.2 (Km _ (by decide)));rw[Ky,decide_eq_true_eq]at h;exact h
theorem qpD(ops:List UInt8):Tx 16 (QY ops):=wordsE_ok ops
theorem ops_tx(name:Str)(z:ZC):Tx 16 (qbp name z):=qoz name z
theorem first_tx(x:XC)(verb:Str):Tx 16 (QV x verb):=by
 have h:Tx 16 (if x.p=[]then[]else QY (x.p.getD 0 noY).ops):=by
  split
  ·exact⟨Js _,rfl⟩
  ·exact qpD _
 unfold QV;simp only;by_cases hc:verb=IFv/\(if x.p=[]then[]else QY (x.p.getD 0 noY).ops)=[]
 ·rw[if_pos hc];exact⟨by decide,by decide⟩
 ·rw[if_neg hc];exact h
section
variable {B:List XC->Nat->Bool->Str×List StC}
theorem qtk{k:Nat}(hk:k<39)(x:XC):Tx 450 (Xb x ⟨32::qi k,⟨qi k,0,0,[],[]⟩⟩ (Qc (QF k))).text:=by
 obtain⟨fs,gs,hfs,_,_⟩:=qet hk;have hf1:=(qeT hfs).1;obtain⟨b0,hb0⟩:∃b0:BuC,b0={YB ⟨32::qi k,⟨qi k,0,0,[],[]⟩⟩ (QV x (qi k))with cur:={(YB ⟨32::qi k,⟨qi k,0,0,[],[]⟩⟩ (QV x (qi k))).cur with phrases:=[⟨[],Qh (QV x (qi k))⟩]}}:=⟨_,rfl⟩
 have h0:Tx 38 b0.text:=by
  rw[hb0];show Tx 38 (([32]++qi k)++[32]++QV x (qi k))
  exact((Tx.sp.app (verb_tx hk)).app Tx.sp).app (first_tx x _)
 have hE:Xb x ⟨32::qi k,⟨qi k,0,0,[],[]⟩⟩ (Qc (QF k))=if Qc (QF k)=[]then b0 else((x.p.take 5).drop 1).foldl (QJ (Qc (QF k))) b0:=by rw[hb0];rfl
 rw[hE];split
 ·exact h0.mono (by decide)
 ·rename_i hne
  have hpos:0<(Qc (QF k)).length:=Bv.2 hne;have step:∀(b:BuC) (y:YC) (n:Nat),Tx n b.text->Tx (n+97) (QJ (Qc (QF k)) b y).text:=fun b y n h=>by
   obtain⟨form,hform⟩:∃form,form=(Qc (QF k)).getD (y.form.toNat%(Qc (QF k)).length) []:=⟨_,rfl⟩
   have hm:form∈Qc (QF k):=by
    rw[hform,Dq,JD (Km _ hpos)];exact VY _
   rw[hf1]at hm;obtain⟨fm,hfm,hfe⟩:=JM.1 hm;have hT:=JB.1 T_formP _ hfs;simp only[Ky,JB]at hT;have hs:=qpO (hT.2 fm hfm) (JB.1 (JB.1 T_txP _ hfs) fm hfm) y.short;rw[hfe]at hs;have ht:(QJ (Qc (QF k)) b y).text=b.text++[32]++(Zl form y.short true++QY y.ops):=by
    unfold QJ;simp only;rw[<-hform];split<;>rfl
   rw[ht];exact((h.app Tx.sp).app (hs.app (qpD _))).mono (by omega)
  have fold:∀(ys:List YC) (b:BuC) (n:Nat),Tx n b.text->Tx (n+97*ys.length) (ys.foldl (QJ (Qc (QF k))) b).text:=by
   intro ys;induction ys with
   |nil=>intro b n h;exact h
   |cons y ys ih=>
    intro b n h;rw[EP,KZ];exact(ih _ _ (step b y n h)).mono (by omega)
  refine(fold _ b0 38 h0).mono ?_;rw[K7,K6];omega
theorem step_tx{k:Nat}(hk:k<39){gs:List Fm}(hgs:(QB k,bq k,gs)∈BT){x:XC}{s:BuC×Str}{i m d:Nat}{lst:Bool}(h:BodI k s i)(hB:∀l last,Tx (1000*QW m (B l (d+1) last).2) (B l (d+1) last).1){n:Nat}(hn:Tx (n+1000*ZK m s.1.cur.bodies) s.1.text):
 Tx (n+97+1000*ZK m (Qn B x (Qc (QB k)) d lst s i).1.cur.bodies) (Qn B x (Qc (QB k)) d lst s i).1.text:=by
 unfold Qn;simp only;rw[h.verb];cases hsk:UL s.2 (XB (qi k) (Qc (QB k)) (x.b.getD i noZ) i) (Xj (XB (qi k) (Qc (QB k)) (x.b.getD i noZ) i))with
 |true=>rw[if_pos rfl];exact hn.mono (by omega)
 |false=>
  rw[if_neg (by decide)];obtain⟨fm,hfm,hff⟩:=qrN hk hgs hsk;have hT:=JB.1 T_formB _ hgs;simp only[Ky,JB]at hT;have hs:=qpO (hT.2 fm hfm).1 (JB.1 (JB.1 T_txB _ hgs) fm hfm) (x.b.getD i noZ).2.2.2;rw[hff]at hs;have ht:Tx 80 (qak (XB (qi k) (Qc (QB k)) (x.b.getD i noZ) i) (Xj (XB (qi k) (Qc (QB k)) (x.b.getD i noZ) i)) (x.b.getD i noZ)):=by
   unfold qak;split
   ·exact⟨Js _,rfl⟩
   ·exact hs
  have ho:=ops_tx (Xj (XB (qi k) (Qc (QB k)) (x.b.getD i noZ) i)) (x.b.getD i noZ);have hb:=hB (x.b.getD i noZ).2.2.1 (lst && (decide (i=3)||decide (x.b.length<=i+1)));show Tx (n+97+1000*ZK m (s.1.cur.bodies++[_])) (s.1.text++[32]++_++_++_)
  refine((((hn.app Tx.sp).app ht).app ho).app hb).mono ?_;unfold ZK;rw[JK,Dj,Es,Dk];simp only;omega
theorem fold_tx{k:Nat}(hk:k<39){gs:List Fm}(hgs:(QB k,bq k,gs)∈BT){x:XC}{m d:Nat}{lst:Bool}(hB:∀l last,Tx (1000*QW m (B l (d+1) last).2) (B l (d+1) last).1):∀(N i:Nat) (s:BuC×Str) (n:Nat),BodI k s i->Tx (n+1000*ZK m s.1.cur.bodies) s.1.text->
 Tx (n+97*N+1000*ZK m (((KP N).map (i+ ·)).foldl (Qn B x (Qc (QB k)) d lst) s).1.cur.bodies) (((KP N).map (i+ ·)).foldl (Qn B x (Qc (QB k)) d lst) s).1.text
 |0,i,s,n,_,hn=>hn
 |N+1,i,s,n,h,hn=>by
  have e:(KP (N+1)).map (i+ ·)=i::(KP N).map (i+1+ ·):=by
   rw[Dh,Ke,Di,K8];congr 1;exact Dg fun q _=>by simp only[Function.comp];omega
  rw[e,EP];have h1:=step_tx (x:=x) (lst:=lst) hk hgs h hB hn;exact(fold_tx (x:=x) (lst:=lst) hk hgs hB N (i+1) _ (n+97) (h.step (B:=B) (x:=x) (d:=d) (lst:=lst) hk hgs) h1).mono (by omega)
theorem xbuild_tx{m d:Nat}(hB:d<=4->∀l last,Tx (1000*QW m (B l (d+1) last).2) (B l (d+1) last).1)(x:XC)(e lst:Bool):
 Tx (1000*(1+ZK m (QU B x d e lst).cur.bodies)) (QU B x d e lst).text:=by
 obtain⟨k,hk⟩:∃k,k=if 4<d then 21 else x.verb.toNat%39:=⟨_,rfl⟩
 have hk39:k<39:=by rw[hk];split<;>omega
 obtain⟨b1,hb1⟩:∃b1,b1=Xb x ⟨32::qi k,⟨qi k,0,0,[],[]⟩⟩ (Qc (QF k)):=⟨_,rfl⟩
 obtain⟨b2,hb2⟩:∃b2,b2=XH B x b1 (Qc (QB k)) d lst:=⟨_,rfl⟩
 have hxE:QU B x d e lst=if QO b2 (qi k) x.cut e lst=true then YB b2 (ENDw++qi k)else b2:=by
  unfold QU rowOf;rw[<-hk,hb2,hb1];rfl
 obtain⟨fs,gs,hfs,hgs,_⟩:=qet hk39;obtain⟨v1,v2,_,_⟩:=WK x ⟨32::qi k,⟨qi k,0,0,[],[]⟩⟩ (Qc (QF k));rw[<-hb1]at v1 v2;simp only at v1 v2;have h1:Tx 450 b1.text:=by rw[hb1];exact qtk hk39 x
 have h2:Tx (900+1000*ZK m b2.cur.bodies) b2.text:=by
  by_cases hv:b1.cur.verb=XY
  ·have hbE:b2=if (firstT b1.cur.phrases).length=0\/((firstT b1.cur.phrases).length=1/\qbt b1 qas=true/\qbt b1 qaP=false)then WP B b1 [] [] (x.b.getD 0 noZ).2.2.1 d false else b1:=by
    rw[hb2];unfold XH;simp only;rw[if_pos hv]
   have hd4:d<=4:=by
    by_cases h4:d<=4
    ·exact h4
    ·rw[if_pos (by omega)]at hk
     rw[v1,hk]at hv;exact absurd hv (by decide+kernel)
   rw[hbE];split
   ·have hb:=hB hd4 (x.b.getD 0 noZ).2.2.1 false
    have e2:ZK m (WP B b1 [] [] (x.b.getD 0 noZ).2.2.1 d false).cur.bodies=QW m (B (x.b.getD 0 noZ).2.2.1 (d+1) false).2:=by
     unfold WP ZK;rw[v2];simp
    rw[e2];show Tx _ (b1.text++[]++_)
    rw[JG];exact(h1.app hb).mono (by omega)
   ·exact h1.mono (by omega)
  ·by_cases h4:d<=4
   ·have hbl:=qbk B x b1 (Qc (QB k)) d lst hv
    obtain⟨N,hN⟩:∃N,N=qaI x b1.cur.verb:=⟨_,rfl⟩
    rw[<-hN]at hbl;have hN4:N<=4:=by rw[hN];unfold qaI;omega
    have hI:BodI k (b1,([]:Str)) 0:=⟨v1,(fun bd h=>by simp only at h;rw[v2]at h;cases h),(fun _=> .inl ⟨rfl,v2⟩),fun _=>rfl⟩
    have:=fold_tx (x:=x) (lst:=lst) hk39 hgs (hB h4) N 0 (b1,[]) 450 hI (h1.mono (by omega));rw[show(KP N).map (0+ ·)=KP N by simp]at this;rw[hb2,hbl];exact this.mono (by omega)
   ·rw[if_pos (by omega)]at hk
    have hb0:Qc (QB k)=[]:=by rw[hk];decide+kernel
    have hn0:Ue (qi k)=false:=by rw[hk];decide+kernel
    have:b2=b1:=by
     rw[hb2,hb0];exact qdr B x b1 d lst hv (by rw[v1];exact hn0)
    rw[this];exact h1.mono (by omega)
 rw[hxE];split
 ·have he:Tx 4 ENDw:=⟨by decide,by decide⟩
  show Tx (1000*(1+ZK m b2.cur.bodies)) (b2.text++[32]++(ENDw++qi k))
  exact((h2.app Tx.sp).app (he.app (verb_tx hk39))).mono (by omega)
 ·exact h2.mono (by omega)
theorem qmi{m d:Nat}(hB:d<=4->∀l last,Tx (1000*QW m (B l (d+1) last).2) (B l (d+1) last).1)(l:List XC)(last:Bool):∀(n:Nat) (T:Str) (S:List StC),
 Tx (1000*QW (m+1) S) T->Tx (1000*QW (m+1) (Xw B l d last n (T,S)).2) (Xw B l d last n (T,S)).1
 |0,T,S,h=>h
 |n+1,T,S,h=>by
  by_cases hi:S.length<l.length/\S.length<4
  ·rw[Um _ _ _ _ _ _ _ hi.1 hi.2]
   obtain⟨e,he⟩:∃e,e=(decide (S.length+1=l.length)||decide (S.length=3)):=⟨_,rfl⟩
   rw[<-he];have hx:=xbuild_tx hB (l.getD S.length noX) e (last && e);refine qmi hB l last n _ _ ?_;rw[qeG];have:∀b:BuC,ZK m b.cur.done.bodies=ZK m b.cur.bodies:=fun b=>rfl;rw[this];exact(h.app hx).mono (by omega)
  ·rw[WF _ _ _ _ _ _ _ hi]
   exact h
end
theorem qsu:∀(f d:Nat),6<=f+d->d<=5->∀(l:List XC) (last:Bool),Tx (1000*QW f (Qi f l d last).2) (Qi f l d last).1
 |0,d,h,h5=>by omega
 |f+1,d,h,h5=>fun l last=>by
  have hB:d<=4->∀l last,Tx (1000*QW f (Qi f l (d+1) last).2) (Qi f l (d+1) last).1:=fun h4=>qsu f (d+1) (by omega) (by omega);have hE:Qi (f+1) l d last=if (Xw (Qi f) l d last 4 ([],[])).2=[]then([32,67,79,78,84,73,78,85,69],[contC])else Xw (Qi f) l d last 4 ([],[]):=rfl
  rw[hE];split
  ·have h1:QW (f+1) [contC]=1:=by simp[QW,contC,Eo]
   rw[h1];exact⟨by decide,by decide⟩
  ·exact qmi hB l last 4 [] [] ⟨Js _,rfl⟩
theorem text_tx{l:List XC}(h:qcV l 15=false):Tx 151002 ((Qi 6 l 1 true).1++[32,46]):=by
 obtain⟨hb,_⟩:=qdZ h (by decide) (by decide) true;have hcnt:=hb.cnt;have hp:Tx 2 [32,46]:=⟨by decide,by decide⟩
 exact((qsu 6 1 (by decide) (by decide) l true).app hp).mono (by omega)
end Go.Stm
namespace Go.Stm
open Go.Col (Str FaultC okF)
open Go.Tok
open Go.Proofs.YtgiadjbiimkbiaaGreatDoor (asciiB qcV Short YW)
set_option maxRecDepth 100000
theorem qja{α:Type}{R Q:α->α->Bool}:∀{a b:List α},(∀x,∀y∈b,R x y=true->Q x y=true)->rowE R a b=true->rowE Q a b=true
 |[],[],_,_=>rfl
 |x::a,y::b,h,hr=>by
  rw[rowE,Ky]at hr;rw[rowE,h x y Jg hr.1,qja (fun u v hv=>h u v (Jh _ hv)) hr.2];rfl
 |[],y::b,_,h=>by cases h
 |x::a,[],_,h=>by cases h
theorem same_up:∀{m:Nat} {a b:List StC},WfS m b->qal m a b=true->∀n,qal (m+n) a b=true
 |0,a,b,hw,h,n=>by
  have hb:b=[]:=hw;have ha:a=[]:=ET.1 (by have:=of_decide_eq_true h;rw[hb]at this;exact this);rw[ha,hb];exact qnl _ _
 |m+1,a,b,hw,h,n=>by
  rw[show m+1+n=(m+n)+1 by omega];refine qja (fun s t ht hst=>?_) h;simp only[Ky]at hst|-
  refine⟨hst.1,hst.2.1,qja (fun x y hy hxy=>?_) hst.2.2⟩;simp only[Ky]at hxy|-
  exact⟨hxy.1,hxy.2.1,same_up ((hw.2 t ht).2.2.2 y hy).2.2.2 hxy.2.2 n⟩
theorem qnm:∀{m:Nat} {a b:List StC},WfS m b->qal m a b=true->∀n,WZ (m+n) a=false
 |0,a,b,hw,h,n=>by
  have hb:b=[]:=hw;have ha:a=[]:=ET.1 (by have:=of_decide_eq_true h;rw[hb]at this;exact this);rw[ha];cases n<;>rfl
 |m+1,a,b,hw,h,n=>by
  rw[show m+1+n=(m+n)+1 by omega,WZ];rw[Bool.eq_false_iff];intro hd;obtain⟨s,hs,hd⟩:=Vb.1 hd;obtain⟨x,hx,hd⟩:=Vb.1 hd;obtain⟨t,ht,hst⟩:=(qhL h).1 s hs;simp only[Ky]at hst;obtain⟨y,hy,hxy⟩:=(qhL hst.2.2).1 x hx;simp only[Ky]at hxy;rw[qnm ((hw.2 t ht).2.2.2 y hy).2.2.2 hxy.2.2 n]at hd;cases hd
def qdL(l:List XC):Str:=(Qi 6 l 1 true).1++[32,46]
def qat(l:List XC)(bad:Bool):List TokC:=if bad=true then(Qh (qdL l)).take ((Qh (qdL l)).length-1)else Qh (qdL l)
theorem qiT{l:List XC}(h:qcV l 15=false):(Qh (qdL l)).length<=20000/\1<=(Qh (qdL l)).length/\Short (Qh (qdL l)):=by
 obtain⟨hb,_⟩:=qdZ h (by decide) (by decide) true;have hcnt:=hb.cnt;have hlen:=qjE 6 1 (by decide) (by decide) l true;have hK:(Qh (qdL l)).map kt=KW (Qi 6 l 1 true).1++[(6,[46])]:=by
  unfold qdL;rw[UV,qfM _ (.inr ⟨[46],rfl⟩),show KW [32,46]=[(6,[46])] by decide+kernel]
 have hl:=congrArg Ee hK;rw[Jp,Jd,JH]at hl;have htx:=text_tx h;exact⟨by omega,by omega,YW (Vg htx.1 (by decide))⟩
theorem toks_ok{l:List XC}(h:qcV l 15=false)(bad:Bool):(qat l bad).length<=1000000/\Short (qat l bad):=by
 obtain⟨h1,_,h3⟩:=qiT h;unfold qat;split
 ·exact⟨by rw[K6];omega,fun t ht=>h3 t (List.mem_of_mem_take ht)⟩
 ·exact⟨by omega,h3⟩
theorem toks_good{l:List XC}(h:qcV l 15=false){L:List StC}{j:Nat}(hp:ParseR wordsO (qat l false) Qo (.ok L j)):qnZ 32 L (Qi 6 l 1 true).2=true/\SmallS 32 L:=by
 obtain⟨hb,_⟩:=qdZ h (by decide) (by decide) true;obtain⟨⟨L',j',h1,h2⟩,_⟩:=qfE h;have he:qat l false=Qh ((Qi 6 l 1 true).1++[32,46]):=rfl;rw[he]at hp;have:=Dr hp h1;simp only[Rs.ok.injEq]at this;rw[this.1];refine⟨?_,(qrl (N:=100000) (by have:=(qiT h).1;unfold qdL at this;omega) h1 32).small (by decide)⟩;unfold qnZ;rw[qnm hb.wf h2 26,hb.wf.q.deep (by decide),same_up hb.wf h2 26];rfl
theorem qnd{l:List XC}(h:qcV l 15=false){f:FaultC}:¬ParseR wordsO (qat l false) Qo (.bad f):=fun hp=>by
 obtain⟨⟨L',j',h1,h2⟩,_⟩:=qfE h;have he:qat l false=Qh ((Qi 6 l 1 true).1++[32,46]):=rfl;rw[he]at hp;cases Dr hp h1
theorem qkZ{l:List XC}(h:qcV l 15=false){r:Rs (List StC)}(hp:ParseR wordsO (qat l true) Qo r):∃f:FaultC,r= .bad f/\f.e=4:=by
 obtain⟨_,f,h1,h2⟩:=qfE h;have he:qat l true=(Qh ((Qi 6 l 1 true).1++[32,46])).take ((Qh ((Qi 6 l 1 true).1++[32,46])).length-1):=rfl;rw[he]at hp;exact⟨f,Dr hp h2,h1⟩
end Go.Stm
