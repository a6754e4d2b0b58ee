/-
  Texts of this proof, joined: SsF, SsG, SsH, SsI, SsJ, SsL, SsK, SsM, SxA, SxB, SrF, SrG, SrH, SrI, SrJ, SrK, SxC, SxD, SxF, SxG.
  Conditions: none.
-/
import Derived.Test.YtgiadjbiimkbiaaGreatDoorKd
import Derived.Test.YtgiadjbiimkbiaaGreatDoorKc
set_option linter.unusedSimpArgs false
set_option linter.unnecessarySimpa false
set_option linter.unusedVariables false
open List renaming append_assoc->K9,prefix_append->Er,prefix_refl->Ep,length_take->K4,drop_eq_getElem_cons->Vb,getD->Ko,getElem?_eq_getElem->JB,length_map->Jn,getLastD_eq_getLast?->BQ,getLast?_append->EA,getLast?_cons_cons->EB,getLast?_singleton->EC,map_eq_nil_iff->Vz,getElem_mem->Vw,getElem?_map->VA,length_nil->JD,eq_nil_of_length_eq_zero->Kg,length_append->Jb,mem_singleton->V4,foldl_cons->Et,length_singleton->JF,getElem?_cons_zero->Kz,filterMap_cons->Vx,filterMap_nil->Eo,getElem?_cons_succ->KM,map_append->JI,mem_append->JV,getD_cons_zero->VX,getD_cons_succ->Kn,drop_eq_nil_of_le->EH,length_pos_iff->Bu,range->KP,length_range->EI,mem_cons_of_mem->Jf,mem_cons_self->Je,length_cons->KX,mem_of_getElem?->JM,mem_map_of_mem->BK,append_nil->JE,getElem?_eq_none->Kr,drop_of_length_le->Bl,all_eq_true->Jz,length_drop->K5,set_cons_zero->VE,drop_zero->Vn,drop_drop->Em,mem_cons->KW,map_eq_append_iff->EZ,map_cons->Ke,map_nil->Vk,sum_nil->E5,sum_cons->E9,nil_append->Jd,replicate->JY,foldl_nil->Dc,all_append->Es,flatten_cons->Vp,mem_map->JK,length->Df,take_append_drop->Dg,replicate_zero->Dh,replicate_succ->Di,length_replicate->Dj,length_set->BH,set_getElem_self->Dk,set_append_right->BM,mem_replicate->Dm,flatten_append->Bp,map_take->Dn,map_replicate->Dr
open Nat renaming mul_one->Bi,le_trans->Ve,le_of_ble_eq_true->VY,add_zero->K6,zero_mul->K7,zero_le->Jq,le_refl->KL,mod_lt->Km,zero_add->Jp,add_assoc->Kw,le_of_succ_le_succ->E8,add_sub_cancel->Ec,add_mul->KJ,sub_self->Dl,min_eq_left->Dp,mul_comm->Dq,le_of_lt->BS
open Option renaming some_or->ED,getD_some->EE
open Go.AM.AHeap renaming set_none->Bd,ne_some->Bf,set_same->Vh,set_set->Bg,set_ne->Vg
open Go.AM.Sub renaming none->Be,refl->Vi,trans->Br,set->Vj
open Go.AM.Sep renaming lay->Eb,unfold->EF,nest->EG,fold->BX
open Go.AM.Awp renaming forget->BO
open Int renaming toNat_zero->Bv,tmod->Ew,tmod_eq_emod_of_nonneg->Ex,natCast_emod->Ey,toNat_natCast->VD,le_refl->EK,tdiv_eq_ediv_of_nonneg->EL,natCast_ediv->EM
open Go.AM.AVal renaming cells->BL
open Bool renaming true_and->VN,not_not->VH,or_assoc->EJ,and_eq_true->Ky,not_eq_true'->Jh
open Go.AM.IsL renaming own->Bz
open Go.AM.Slots renaming get->VZ
open UInt8 renaming ofNat->KD
open Go.Stm.ListR renaming stop->EN
open Go.Stm.LoopR renaming tok->EO,impl->ER,endS->ES,implBad->EU,body->EX,bodyBad->EY
open Go.Stm.BodyR renaming ok->EP,bad->EW
open Go.Stm.StR renaming ok->EQ,bad->ET
open Go.Stm.ParseR renaming sent->BZ,one->De
open Go.Stm.SentR renaming next->Da,stop->Db
open Go.Stm.StC renaming bodies->Ef,phrases->Ee,verb->Ed
open Array renaming length_toList->KN
namespace Go.Stm
open Go.Col (Str)
open Go.Tok
theorem qrN(forms:List Str)(b:BuC)(y:YC):b.text<+:(Zg forms b y).text:=by
 have:(Zg forms b y).text=b.text++[32]++(qaa (forms.getD (y.form.toNat%forms.length) []) y.short true++Yb y.ops):=by
  unfold Zg;simp only;split<;>rfl
 rw[this,K9];exact Er _ _
theorem qeY(forms:List Str):∀(l:List YC) (b:BuC),b.text<+:(l.foldl (Zg forms) b).text
 |[],b=>Ep _
 |y::l,b=>(qrN forms b y).trans (qeY forms l _)
theorem qka{α:Type}{l:List α}{n i:Nat}{d:α}(hi:i<l.length)(hn:i<n):(l.take n).drop i=l.getD i d::(l.take n).drop (i+1):=by
 have h:i<(l.take n).length:=by rw[K4];omega
 rw[Vb h,List.getElem_take,Ko,JB hi];rfl
end Go.Stm
namespace Go.Proofs.YtgiadjbiimkbiaaGreatDoor
open Go.AM
open Go.Proofs
open Go.Col (Str FaultC okF)
open Go.Tok (TokC)
open Go.Stm
open Go.RowKit (Below)
set_option maxRecDepth 100000
def yC(q:YC×AVal):List AVal:=[.int .u8 q.1.form.toNat,q.2, .int .u8 q.1.short.toNat]
def zC(q:ZC×AVal×AVal):List AVal:=[.int .u8 q.1.1.toNat,q.2.1,q.2.2, .int .u8 q.1.2.2.2.toNat]
def xC(q:XC×AVal×AVal):List AVal:=[.int .u8 q.1.verb.toNat,q.2.1,q.2.2, .bool q.1.cut]
def YsV(w0:World)(h:AHeap)(v:AVal)(l:List YC):Prop:=∃qs:List (YC×AVal),l=qs.map (·.1)/\IsL w0 h 3 v (qs.map yC)/\∀q∈qs,IsL w0 h 1 q.2 (q.1.ops.map u8C)
def ZsV(w0:World)(S:AVal->List XC->Prop)(h:AHeap)(v:AVal)(l:List ZC):Prop:=∃qs:List (ZC×AVal×AVal),l=qs.map (·.1)/\IsL w0 h 4 v (qs.map zC)/\∀q∈qs,IsL w0 h 1 q.2.1 (q.1.2.1.map u8C)/\S q.2.2 q.1.2.2.1
def XsV(w0:World):Nat->AHeap->AVal->List XC->Prop
 |0,h,v,l=>l=[]/\IsL w0 h 4 v []
 |d+1,h,v,l=>∃qs:List (XC×AVal×AVal),l=qs.map (·.1)/\IsL w0 h 4 v (qs.map xC)/\∀q∈qs,YsV w0 h q.2.1 q.1.p/\ZsV w0 (XsV w0 d h) h q.2.2 q.1.b
theorem YsV.mono{w0:World}{h h':AHeap}{v:AVal}{l:List YC}(hp:YsV w0 h v l)(hs:AM.Sub h h'):YsV w0 h' v l:=by
 obtain⟨qs,e,a,b⟩:=hp;exact⟨qs,e,a.mono hs,fun q hq=>(b q hq).mono hs⟩
theorem ZsV.mono{w0:World}{h h':AHeap}{S S':AVal->List XC->Prop}{v:AVal}{l:List ZC}(hp:ZsV w0 S h v l)(hs:AM.Sub h h')(hS:∀v l,S v l->S' v l):ZsV w0 S' h' v l:=by
 obtain⟨qs,e,a,b⟩:=hp;exact⟨qs,e,a.mono hs,fun q hq=>⟨(b q hq).1.mono hs,hS _ _ (b q hq).2⟩⟩
theorem XsV.mono{w0:World}{h h':AHeap}(hs:AM.Sub h h'):∀{d:Nat} {v:AVal} {l:List XC},XsV w0 d h v l->XsV w0 d h' v l
 |0,_,_,hp=>⟨hp.1,hp.2.mono hs⟩
 |d+1,_,_,⟨qs,e,a,b⟩=>⟨qs,e,a.mono hs,fun q hq=>⟨(b q hq).1.mono hs,(b q hq).2.mono hs fun _ _=>XsV.mono hs⟩⟩
theorem YsV.shape{w0:World}{h:AHeap}{v:AVal}{l:List YC}(hp:YsV w0 h v l):v.live=true/\v.scal=true/\v.cells=[v]:=by obtain⟨_,_,a,_⟩:=hp;exact⟨a.live,a.scal,a.cells⟩
theorem ZsV.shape{w0:World}{h:AHeap}{S:AVal->List XC->Prop}{v:AVal}{l:List ZC}(hp:ZsV w0 S h v l):v.live=true/\v.scal=true/\v.cells=[v]:=by obtain⟨_,_,a,_⟩:=hp;exact⟨a.live,a.scal,a.cells⟩
def noYq:YC×AVal:=(noY, .nilSlice)
theorem y_at{w0:World}{h:AHeap}{lc:AM.Loc}{o n:Nat}{c:Cap}{qs:List (YC×AVal)}(ht:IsL w0 h 3 (.slice lc o n c) (qs.map yC)){i:Nat}(hi:i<qs.length):
 rd w0 h lc (o+i*3)= .int .u8 (qs.getD i noYq).1.form.toNat/\rd w0 h lc (o+i*3+1)=(qs.getD i noYq).2/\rd w0 h lc (o+i*3+2)= .int .u8 (qs.getD i noYq).1.short.toNat:=by
 have he:=ht.elem (i:=i) (by rw[Jn];exact hi);rw[getD_map noYq hi]at he;simp only[and_true,cellsAt,List.cons.injEq,yC]at he;exact he
def qfV(l:List Str):Prop:=l.length<=1000/\∀f∈l,f.length<=500/\asciiB f=true
theorem frm_at{w0:World}{h:AHeap}{lc:AM.Loc}{o n:Nat}{c:Cap}{l:List Str}(hv:IsL w0 h 1 (.slice lc o n c) (l.map strC)){i:Nat}(hi:i<l.length):rd w0 h lc (o+i)= .str (l.getD i []):=by
 have:=hv.at0 (i:=i) (by rw[Jn];exact hi) (by decide);rw[Bi]at this;rw[this,getD_map ([]:Str) hi];rfl
structure StH where
 f:Str
 H:AHeap
structure PhG where
 i:Nat
 b:BuC
 pv:AVal
 pp:AHeap
 tp:AHeap
 E:AHeap
 H:AHeap
structure BuS(w0:World)(d:Nat)(B:AHeap)(kb:Nat)(b:BuC)(pv bv:AVal)(pp tp bp E:AHeap)(H:AHeap):Prop where
 sep:AM.Sep [B,one kb (buB b.text b.cur pv bv),pp,tp,bp,E] H
 cur:CurS w0 d b.cur pv bv pp tp bp E
def qrn(pp:AHeap):Prop:=∀k b,pp k=some b->isG (b.cells.getLastD .dead)=true
theorem qin{kh:Nat}{F:List AVal}{w tv:AVal}(h:isG tv=true):qrn (one kh ⟨F++[w,tv],0⟩):=fun k b hk=>by
 obtain⟨rfl,rfl⟩:=qii hk;simp only[BQ,EA,EB,EC,ED,EE];exact h
theorem lastG_of{kh:Nat}{F:List AVal}{w tv:AVal}(h:qrn (one kh ⟨F++[w,tv],0⟩)):isG tv=true:=by
 have:=h kh _ (one_at kh _);simp only[BQ,EA,EB,EC,ED,EE]at this;exact this
theorem qeD(ps:List PhrC)(w:Str)(ts l:List TokC):qeE (ps++[⟨w,ts⟩]) l=ps++[⟨w,ts++l⟩]:=by simp[qeE]
theorem lawToks_16(s:Str)(h:s.length<=16):(Qz s).length<=17:=by rw[qfe];exact Ve (fields_few s) (by omega)
set_option maxHeartbeats 16000000 in
theorem c_phrases(w0:World)(hm:MaxL w0)(ha:Asp w0)(B H₀:AHeap)(kb:Nat)(x:XC)(xp xb fv:AVal)(forms:List Str)(text verb:Str)
 (hS:AM.Sep [B,one kb (buB text ⟨verb,0,0,[],[]⟩ .nilSlice .nilSlice)] H₀) (hY:YsV w0 B xp x.p) (hxl:xb.live=true) (hxs:xb.scal=true) (hxc:xb.cells=[xb]) (hF:IsL w0 B 1 fv (forms.map strC)) (hFo:qfV forms) (hPl:x.p.length<=1000000)
 (hT:(YZ x ⟨text,⟨verb,0,0,[],[]⟩⟩ forms).text.length<=1000000000):
 ACall Tryz.prog w0 53 [.agg [.int .u8 x.verb.toNat,xp,xb, .bool x.cut], .ptr (.own kb) 0,fv] H₀ (fun _ h'=>∃pv pp tp E,BuS w0 0 B kb (YZ x ⟨text,⟨verb,0,0,[],[]⟩⟩ forms) pv .nilSlice pp tp emp E h'):=by
 obtain⟨hyl,hys,hyc⟩:=hY.shape;have hfl:=hF.live;have nf:∀H:AHeap,Zl Tryz.prog H 22 fv=⟨True, .int .i64 forms.length⟩:=fun H=>by have:=hF.len Tryz.underlying22 H;rwa [Jn]at this
 obtain⟨qs,hqe,hqL,hqo⟩:=id hY;have hpl:x.p.length=qs.length:=by rw[hqe,Jn]
 have ny:∀H:AHeap,Zl Tryz.prog H 28 xp=⟨True, .int .i64 qs.length⟩:=fun H=>by have:=hqL.len Tryz.underlying28 H;rwa [Jn]at this
 have hs_H₀:AM.Sub B H₀:=hS.in_ (i:=0) rfl;have eb_b:H₀ kb=some _:=hS.at_ (i:=1) rfl;refine qR (n:=136) (rs:=[]) Tryz.func53 rfl rfl rfl rfl (VY rfl) ?_;simp only[qU];refine awp_rseq [1,2,3] (by rfl) fun K hK=>?_;refine UU (by rfl) (by rfl) (by rfl) fun k0q0 hk0q0=>?_;have hn_0q0:H₀ k0q0=none:=by first|assumption|(simp only[Bd]at hk0q0;simp only[hk0q0])
 have hf_0q0:B k0q0=none:=Be hs_H₀ hn_0q0;have ne_0q0_b:k0q0≠kb:=Bf hn_0q0 eb_b;skip;simp+decide only[qV,Nat.reduceAdd];apply hK;clear hK K;obtain⟨X,hX⟩:∃X:Blk,X=⟨[.int .u8 x.verb.toNat,xp,xb, .bool x.cut],0⟩:=⟨_,rfl⟩
 have hS1:=Eb hS hk0q0 X;simp only[Xf]at hS1;obtain⟨H1,hH1⟩:∃H1,H1=H₀.set k0q0 X:=⟨_,rfl⟩
 rw[<-hH1]at hS1;refine BO (h':=H1) (by rw[hH1,hX];exact Vi _) ?_;have hs_H1:AM.Sub B H1:=hS1.in_ (i:=0) rfl;have eb_b:=hS1.at_ (i:=1) rfl;have eb_0q0:H1 k0q0=some ⟨[.int .u8 x.verb.toNat,xp,xb, .bool x.cut],0⟩:=by rw[<-hX];exact hS1.at_ (i:=2) rfl
 have ne_0q0_b:k0q0≠kb:=hS1.ne (i:=2) (j:=1) rfl rfl (by decide);refine awp_rseq [1,2,3,6] (by rfl) fun K hK=>?_;simp+decide only[qP,↓qa];apply hK;clear hK K;refine qi ?_;refine awp_rseq [1,2,3,6,14] (by rfl) fun K hK=>?_;simp+decide only[XP,QH,XI,Qh,YG,qdl,↓qh,↓qo,qf qok,↓Qi,↓qd,Qm eb_0q0,hyl,ny];apply hK;clear hK K;refine Wo [1,2,3,6] (fun g:StH=>[(1, .ptr (.own kb) 0),(2,fv),(3, .ptr (.own k0q0) 0),(6, .str g.f)]) (fun g:StH=>g.H) (fun g:StH=>g.f=(if x.p=[]then[]else Yb (x.p.getD 0 noY).ops)/\AM.Sep [B,one kb (buB text ⟨verb,0,0,[],[]⟩ .nilSlice .nilSlice),one k0q0 X] g.H) ?_ ?_
 ·refine qz (b:=_) rfl (fun hb1=>?_) (fun hb1=>?_)
  ·try simp only[qG]at hb1
   have hq0:0<qs.length:=by omega
   obtain⟨lc,o,cc,hpe⟩:=hqL.open (fun e=>by rw[Vz]at e;rw[e]at hq0;cases hq0);have hq2:=hqL.mono hs_H1;rw[hpe]at hq2;obtain⟨e0,e1,e2⟩:=y_at hq2 hq0;simp only[K6,K7]at e0 e1 e2;obtain⟨q,hqq⟩:∃q,q=qs.getD 0 noYq:=⟨_,rfl⟩
   rw[<-hqq]at e0 e1 e2;have hqm:q∈qs:=by rw[hqq,Ko,JB hq0];exact Vw hq0
   have hqv:=hqo q hqm;have hql:=hqv.live;have hx0:x.p.getD 0 noY=q.1:=by rw[hqe,hqq,Ko,Ko,VA,JB hq0];rfl
   have hne:x.p≠[]:=fun e=>by rw[e,JD]at hpl;omega
   refine Qv [1,2,3,6] (by rfl) ?_;simp+decide only[qV,QU,K6,Jn,K7,qdl,Bv,↓qh,↓qo,qf qok,↓qJ,qg Tryz.underlying28 qrC,qsI,qf ag32,Qm eb_0q0,hpe,e1,hql];repeat (with_reducible refine zqP ?_)
   refine qE (by rfl) (by rfl) (qkZ w0 _ q.2 q.1.ops (hqv.mono hs_H1)) fun x3q5 h3q5 hx3q5=>?_;obtain⟨rfl,hs3⟩:=hx3q5;simp+decide only[qP,K6,Jn,↓qa];try simp only[QL]
   first
   |exact⟨⟨Yb q.1.ops,_⟩,rfl,Vi _,by rw[if_neg hne,hx0],hS1.forget hs3⟩
   |exact⟨⟨[],H1⟩,rfl,Vi _,by rw[if_pos hne],hS1⟩
  ·try simp only[qG]at hb1
   have hne:x.p=[]:=Kg (by omega);refine qF ?_;try simp only[QL]
   first
   |exact⟨⟨Yb q.1.ops,_⟩,rfl,Vi _,by rw[if_neg hne,hx0],hS1.forget hs3⟩
   |exact⟨⟨[],H1⟩,rfl,Vi _,by rw[if_pos hne],hS1⟩
 ·rintro⟨f0,H2⟩ ⟨hf0,hS2⟩
  simp only at hf0 hS2|-
  have hs_H2:AM.Sub B H2:=hS2.in_ (i:=0) rfl;have eb_b:=hS2.at_ (i:=1) rfl;have eb_0q0:H2 k0q0=some ⟨[.int .u8 x.verb.toNat,xp,xb, .bool x.cut],0⟩:=by rw[<-hX];exact hS2.at_ (i:=2) rfl
  have hfE:UK x verb=if verb=IFv/\f0=[]then[32,65]else f0:=by rw[hf0];rfl
  refine qi ?_;skip;refine awp_rseq [1,2,3,6,30] (by rfl) fun K hK=>?_;simp+decide only[Xj,XF,QU,XL,Qs,QS,Xh,Xn,Zd,WE,qag,↓qc,↓Qf,↓qh,↓qo,qf ag9,↓qd,↓Qy,↓Qn,↓Qd,Qm eb_b,Nat.reduceAdd];apply hK;clear hK K;refine Wo [1,2,3,6] (fun z:Str=>[(1, .ptr (.own kb) 0),(2,fv),(3, .ptr (.own k0q0) 0),(6, .str z)]) (fun z:Str=>H2) (fun z:Str=>z=UK x verb) ?_ ?_
  ·refine qz (b:=_) rfl (fun hb2=>?_) (fun hb2=>?_)
   ·try simp only[qG]at hb2
    have hz:UK x verb=[32,65]:=by rw[hfE];exact if_pos hb2
    refine Qv [1,2,3,6] (by rfl) ?_;simp+decide only[qP,↓qa];try simp only[QL]
    first
    |exact⟨[32,65],rfl,Vi _,hz.symm⟩
    |exact⟨f0,rfl,Vi _,hz.symm⟩
   ·try simp only[qG]at hb2
    have hz:UK x verb=f0:=by rw[hfE];exact if_neg (fun e=>by rcases hb2 with q|q;exact q e.1;exact q e.2)
    refine qF ?_;try simp only[QL]
    first
    |exact⟨[32,65],rfl,Vi _,hz.symm⟩
    |exact⟨f0,rfl,Vi _,hz.symm⟩
  ·rintro z rfl
   obtain⟨f1,hf1⟩:∃f1,f1=UK x verb:=⟨_,rfl⟩
   rw[<-hf1];have hfw:=wordsE_ok (x.p.getD 0 noY).ops;have hf16:f1.length<=16/\asciiB f1=true:=by
    rw[hf1,hfE];split
    ·exact⟨by decide,by decide⟩
    ·rw[hf0]
     split
     ·exact⟨by decide,rfl⟩
     ·exact hfw
   obtain⟨b2,hb2E⟩:∃b2:BuC,b2=⟨text++[32]++f1,⟨verb,0,0,[⟨[],Qz f1⟩],[]⟩⟩:=⟨_,rfl⟩
   have hfin:YZ x ⟨text,⟨verb,0,0,[],[]⟩⟩ forms=if forms=[]then b2 else((x.p.take 5).drop 1).foldl (Zg forms) b2:=by
    unfold YZ qds;simp only;rw[hb2E,hf1]
   obtain⟨R,hRR⟩:∃R,R=YZ x ⟨text,⟨verb,0,0,[],[]⟩⟩ forms:=⟨_,rfl⟩
   rw[<-hRR]at hfin hT|-
   have hpre:b2.text<+:R.text:=by
    rw[hfin];split
    ·exact Ep _
    ·exact qeY _ _ _
   have ht2:=hpre.length_le;have htx:text.length<=1000000000:=by rw[hb2E]at ht2;simp only[Jb]at ht2;omega
   have hS2a:AM.Sep ([B,one k0q0 X]++[one kb (buB text ⟨verb,0,0,[],[]⟩ .nilSlice .nilSlice)]) H2:=hS2.perm (.cons _ (List.Perm.swap _ _ _));have hS2b:=hS2a.fold;refine awp_rseq [1,2,3,6] (by rfl) fun K hK=>?_;simp+decide only[Qe,↓qc];refine qE (by rfl) (by rfl) (qoa w0 (Wl [B,one k0q0 X]) H2 kb text f1 ⟨verb,0,0,[],[]⟩ .nilSlice .nilSlice hS2b htx (by omega)) fun x6q2 h6q2 hx6q2=>?_;have hS6:=EF hS2a.left hx6q2;simp only[Xf]at hS6;have hs_h6:AM.Sub B h6q2:=hS6.in_ (i:=0) rfl;simp+decide only[qV];apply hK;clear hK K;have eb_b:=hS6.at_ (i:=2) rfl;have eb_0q0:h6q2 k0q0=some ⟨[.int .u8 x.verb.toNat,xp,xb, .bool x.cut],0⟩:=by rw[<-hX];exact hS6.at_ (i:=1) rfl
   refine awp_rseq [1,2,3] (by rfl) fun K hK=>?_;simp+decide only[Qe,↓qc];refine qE (by rfl) (by rfl) (qdO w0 hm ha _ f1 (by omega) hf16.2) fun x7q2 h7q2 hx7q2=>?_;obtain⟨p7,hrow7,hG7,hS7⟩:=hx7q2;have hS8:=EG hS6 hS7;simp only[Xf]at hS8;have hs_7:AM.Sub h6q2 h7q2:=hS7.in_ (i:=0) rfl;have hsc:Sc x7q2=True:=by rcases hrow7 with⟨rfl,_⟩|⟨_,_,rfl,_⟩<;>exact eq_true trivial
   have hl7:=hrow7.live;have hs_h7q2:Sub B h7q2:=Br zqC hs_7;have hr_h7q2:Sub h6q2 h7q2:=Br zqC hs_7;have eb_b:=hs_7 kb _ zqA;have eb_0q0:=hs_7 k0q0 _ zqA;simp+decide only[qV,QW,Zo,↓XO,↓QN,bld84_1,hsc];refine qO (cs:=[.str [],x7q2]) (by kernel_rfl) fun k7q4 hk7q4=>?_;have hn_7q4:h7q2 k7q4=none:=by first|assumption|(simp only[Bd]at hk7q4;simp only[hk7q4])
   have hf_7q4:B k7q4=none:=Be hs_h7q2 hn_7q4;have ne_7q4_b:k7q4≠kb:=Bf hn_7q4 eb_b;have ne_7q4_0q0:k7q4≠k0q0:=Bf hn_7q4 eb_0q0;simp+decide only[qV,qY,Xh,YI,WE,↓Qf,↓qh,Nat.reduceAdd];refine qN (by rfl) (by rfl) zqA sz79 (by rfl) (by rfl) zqD (Jq _) (by first|rfl|(simp+decide only[QI,BL,Yk,VN,YW,qaA,Qt,hys,hxs,qgO])) ?_;simp only[QT];simp+decide only[qV];apply hK;clear hK K;have hS9:=Eb hS8 hn_7q4 (⟨[.str [],x7q2],0⟩:Blk);simp only[Xf]at hS9;have hS10:=hS9.put (i:=2) rfl (buB b2.text b2.cur (.slice (.own k7q4) 0 1 (.exact 1)) .nilSlice);simp only[Xo]at hS10;have hS11:AM.Sep [B,one k0q0 X,one kb (buB b2.text b2.cur (.slice (.own k7q4) 0 1 (.exact 1)) .nilSlice),one k7q4 ⟨[.str [],x7q2],0⟩,p7,emp] _:=hS10.emp.pick [0,1,2,4,3,5] (by decide) (by simp);obtain⟨H8,hH8⟩:∃H8,H8=(h7q2.set k7q4 ⟨[.str [],x7q2],0⟩).set kb (buB b2.text b2.cur (.slice (.own k7q4) 0 1 (.exact 1)) .nilSlice):=⟨_,rfl⟩
   rw[<-hH8]at hS11;refine BO (h':=H8) (by rw[hH8,hb2E];exact Vi _) ?_;have hcur:CurS w0 0 b2.cur (.slice (.own k7q4) 0 1 (.exact 1)) .nilSlice (one k7q4 ⟨[.str [],x7q2],0⟩) p7 emp emp:=by
    rw[hb2E];refine⟨⟨[],[],Qz f1,x7q2,rfl,GrowV.new rfl (.inl rfl) (xs:=[[.str [],x7q2]]) (fun y hy=>by rw[V4.1 hy];rfl) ?_ rfl,hrow7,fun q hq=>by cases hq⟩,⟨[],rfl, .nil,fun b hb=>by cases hb⟩⟩;show AM.allLive [.str [],x7q2]=true
    rw[AM.allLive,AM.allLive,hl7];rfl
   have hs_H8:AM.Sub B H8:=hS11.in_ (i:=0) rfl;have eb_b:=hS11.at_ (i:=2) rfl;have eb_0q0:H8 k0q0=some ⟨[.int .u8 x.verb.toNat,xp,xb, .bool x.cut],0⟩:=by rw[<-hX];exact hS11.at_ (i:=1) rfl
   have hfew:∀p∈b2.cur.phrases,p.toks.length<=17:=fun p hp=>by
    rw[hb2E]at hp;rw[V4.1 hp];exact lawToks_16 f1 hf16.1
   refine awp_rseq [1,2,3,7] (by rfl) fun K hK=>?_;simp+decide only[qP,↓qa];apply hK;clear hK K;refine qI ?_;refine Qj [1,2,3,7] (fun g:PhG=>[(1, .ptr (.own kb) 0),(2,fv),(3, .ptr (.own k0q0) 0),(7, .int .i64 g.i)]) (fun g:PhG=>g.H) (fun g:PhG=>AM.Sep [B,one k0q0 X,one kb (buB g.b.text g.b.cur g.pv .nilSlice),g.pp,g.tp,g.E] g.H/\CurS w0 0 g.b.cur g.pv .nilSlice g.pp g.tp emp g.E/\qrn g.pp/\1<=g.i/\g.i<=5/\(g.i<=qs.length\/g.i=1)/\R=(if forms=[]then g.b else((x.p.take 5).drop g.i).foldl (Zg forms) g.b)/\g.b.cur.phrases.length<=g.i/\(∀p∈g.b.cur.phrases,p.toks.length<=17*g.i)) (fun g:PhG=>5-g.i) ⟨1,b2,_,_,p7,emp,H8⟩ (by rfl) (Vi _) ⟨hS11,hcur,qin (F:=[]) hG7,KL _,(by simp only;omega), .inr rfl,hfin,by rw[hb2E];exact KL _,hfew⟩ ?_;rintro⟨i,b,pv,pp,tp,E,H⟩ ⟨hS,hc,hLG,hi1,hi5,hiq,hg,hph,hpt⟩;simp only at hS hc hLG hi1 hi5 hiq hg hph hpt|-
   have hs_H:AM.Sub B H:=hS.in_ (i:=0) rfl;have eb_b:=hS.at_ (i:=2) rfl;have eb_0q0:H k0q0=some ⟨[.int .u8 x.verb.toNat,xp,xb, .bool x.cut],0⟩:=by rw[<-hX];exact hS.at_ (i:=1) rfl
   refine qi ?_;refine awp_rseq [1,2,3,7,55] (by rfl) fun K hK=>?_;simp+decide only[Xk,XI,qj,ZH,Yl,QS,QY,YG,qdl,qfm,qfl,↓qc,↓qh,↓qo,qf qok,↓Qi,↓qd,↓Qy,↓Qn,↓Qd,↓qbW,Qm eb_0q0,hyl,ny,nf];apply hK;clear hK K;refine qz (b:=_) rfl (fun hb3=>?_) (fun hb3=>?_)
   ·try simp only[qG]at hb3
    obtain⟨⟨hiq1,hi51⟩,hf1⟩:(i<qs.length/\i<5)/\0<forms.length:=by omega
    have hfne:forms≠[]:=fun e=>by rw[e]at hf1;cases hf1
    rw[if_neg hfne,qka (d:=noY) (by omega) hi51,Et]at hg;obtain⟨lc,o,cc,hpe⟩:=hqL.open (fun e=>by rw[Vz]at e;rw[e]at hiq1;cases hiq1);obtain⟨lf,of,cf,hfe⟩:=hF.open (fun e=>hfne (Vz.1 e));have hq2:=hqL.mono hs_H;rw[hpe]at hq2;obtain⟨e0,e1,e2⟩:=y_at hq2 hiq1;obtain⟨q,hqq⟩:∃q,q=qs.getD i noYq:=⟨_,rfl⟩
    rw[<-hqq]at e0 e1 e2;have hqm:q∈qs:=by rw[hqq,Ko,JB hiq1];exact Vw hiq1
    have hqv:=hqo q hqm;have hql:=hqv.live;have hxi:x.p.getD i noY=q.1:=by rw[hqe,hqq,Ko,Ko,VA,JB hiq1];rfl
    rw[hxi]at hg;obtain⟨m,hm8⟩:∃m,m=q.1.form.toNat%forms.length:=⟨_,rfl⟩
    have hml:m<forms.length:=by rw[hm8];exact Km _ hf1
    have hF2:=hF.mono hs_H;rw[hfe]at hF2;have ef:=frm_at hF2 hml;obtain⟨form,hform⟩:∃form,form=forms.getD m []:=⟨_,rfl⟩
    rw[<-hform]at ef;have hfo:=hFo.2 form (by rw[hform,Ko,JB hml];exact Vw hml);have hfn:=hFo.1;have hb8:q.1.form.toNat<256:=q.1.form.toNat_lt;have hwb:IntKind.i64.wrap (q.1.form.toNat:Int)=(q.1.form.toNat:Int):=wrap_i64 (by omega) (by omega);have hrem:Ew (q.1.form.toNat:Int) (forms.length:Int)=(m:Int):=by rw[Ex (by omega),hm8];exact(Ey _ _).symm
    have hwm:IntKind.i64.wrap (m:Int)=(m:Int):=wrap_i64 (by omega) (by omega);have hib:(0<=(i:Int)/\(i:Int)<(qs.length:Int))=True:=eq_true ⟨by omega,by omega⟩;have hmb:(0<=(m:Int)/\(m:Int)<(forms.length:Int))=True:=eq_true ⟨by omega,by omega⟩;have hwi:IntKind.i64.wrap ((i:Int)+1)=((i+1:Nat):Int):=by rw[wrap_i64 (by omega) (by omega)];omega
    obtain⟨ow,how⟩:∃ow,ow=Yb q.1.ops:=⟨_,rfl⟩
    obtain⟨how16,howa⟩:=wordsE_ok q.1.ops;rw[<-how]at how16 howa;obtain⟨sw,hsw⟩:∃sw,sw=qaa form q.1.short true:=⟨_,rfl⟩
    have hstep:Zg forms b q.1=if qcS form=[]then{text:=b.text++[32]++(sw++ow),cur:={b.cur with phrases:=qeE b.cur.phrases (Qz ow)}}else{text:=b.text++[32]++(sw++ow),cur:={b.cur with phrases:=b.cur.phrases++[⟨qcS form,Qz ow⟩]}}:=by
     unfold Zg qds;simp only;rw[<-hm8,<-hform,<-hsw,<-how]
    have hpreB:b.text++[32]++(sw++ow)<+:R.text:=by
     have h1:(Zg forms b q.1).text=b.text++[32]++(sw++ow):=by rw[hstep];split<;>rfl
     rw[<-h1,hg];exact qeY _ _ _
    have hlenB:=hpreB.length_le;simp only[QF,Jb]at hlenB;refine qF ?_;change Awp _ _ _ _ _ _ _;refine qi ?_;refine qI ?_;refine awp_rseq [1,2,3,7,8] (by rfl) fun K hK=>?_;simp+decide only[QK,QU,VD,qj,K6,Qh,Jn,XM,qad,qdl,↓qc,↓qh,↓qo,qf qok,↓qJ,qg Tryz.underlying28 qrC,fa34_0,qf ag5,↓ZZ _ _ _ (Uo Tryz.underlying5 Tryz.underlying3),ZA Tryz.underlying5 Tryz.underlying3,↓Qi,QV Tryz.underlying22,↓qd,Qm eb_0q0,hpe,hfe,e0,hib,hwb,hrem];try simp+decide only[qP,QJ,Xc,Jn,Bi,qg Tryz.underlying22 sz9,↓qo,qf ag9,↓qa,ef,hmb]
    repeat (with_reducible refine zqP ?_)
    apply hK;clear hK K;refine awp_rseq [1,2,3,7,8,9] (by rfl) fun K hK=>?_;simp+decide only[Qe,QU,Xc,Jn,qdl,↓qh,↓qo,qf qok,↓qc,↓qJ,qg Tryz.underlying28 qrC,qsI,qf ag32,Qm eb_0q0,hpe,e1,hql,hib];refine qE (by rfl) (by rfl) (qkZ w0 _ q.2 q.1.ops (hqv.mono hs_H)) fun x12q6 h12q6 hx12q6=>?_;obtain⟨rfl,hs12⟩:=hx12q6;rw[<-how];have hs_h12q6:Sub B h12q6:=Br zqC hs12;have hr_h12q6:Sub H h12q6:=Br zqC hs12;have eb_b:=hs12 kb _ zqA;have eb_0q0:=hs12 k0q0 _ zqA;simp+decide only[qP,Xc,Jn,↓qa];apply hK;clear hK K;have hS12:=hS.forget hs12;have hq12:=hqL.mono (hs_H.trans hs12);rw[hpe]at hq12;have e2':=(y_at hq12 hiq1).2.2;rw[<-hqq]at e2';refine awp_rseq [1,2,3,7,8,9] (by rfl) fun K hK=>?_;simp+decide only[Qe,QU,Xc,Jn,qdl,↓qc,↓qh,↓qo,qf qok,↓qJ,qg Tryz.underlying28 qrC,fa34_2,qf ag5,Qm eb_0q0,hpe,e2',hib];refine qE (by rfl) (by rfl) (qnZ w0 ha _ form q.1.short true hfo.1 hfo.2) fun x13q8 h13q8 hx13q8=>?_;obtain⟨rfl,hs13⟩:=hx13q8;rw[<-hsw];have hS13:AM.Sep ([B,one k0q0 X,pp,tp,E]++[one kb (buB b.text b.cur pv .nilSlice)]) h13q8:=(hS12.forget hs13).pick [0,1,3,4,5,2] (by decide) (by simp);have hS13b:=hS13.fold;have hs_h13q8:Sub B h13q8:=Br zqC hs13;have hr_h13q8:Sub h12q6 h13q8:=Br zqC hs13;have eb_b:=hs13 kb _ zqA;have eb_0q0:=hs13 k0q0 _ zqA;simp+decide only[Xj,VD,qj,K6,Jn,Qs,ZO,↓qc,↓qd];repeat (with_reducible refine zqP ?_)
    refine qE (by rfl) (by rfl) (qoa w0 (Wl [B,one k0q0 X,pp,tp,E]) h13q8 kb b.text (sw++ow) b.cur pv .nilSlice hS13b (by omega) (by rw[Jb];omega)) fun x13q11 h13q11 hx13q11=>?_;have hS14:=EF hS13.left hx13q11;simp only[Xf]at hS14;have hs_14:AM.Sub B h13q11:=hS14.in_ (i:=0) rfl;simp+decide only[qV,Xc,Jn];apply hK;clear hK K;refine qi ?_;have eb_b:=hS14.at_ (i:=5) rfl;have eb_0q0:h13q11 k0q0=some ⟨[.int .u8 x.verb.toNat,xp,xb, .bool x.cut],0⟩:=by rw[<-hX];exact hS14.at_ (i:=1) rfl
    refine awp_rseq [1,2,3,7,8,9,92] (by rfl) fun K hK=>?_;simp+decide only[Qe,↓qc];refine qE (by rfl) (by rfl) (qlb w0 ha _ form hfo.1 hfo.2) fun x14q1 h14q1 hx14q1=>?_;obtain⟨rfl,hs14⟩:=hx14q1;have hS15:=hS14.forget hs14;obtain⟨b',hb'E⟩:∃b',b'=Zg forms b q.1:=⟨_,rfl⟩
    rw[<-hb'E]at hstep hg;have hgN:R=if forms=[]then b' else((x.p.take 5).drop (i+1)).foldl (Zg forms) b':=by rw[if_neg hfne];exact hg
    have how17:=lawToks_16 ow how16;have hs_h14q1:Sub B h14q1:=Br zqC hs14;have hr_h14q1:Sub h13q11 h14q1:=Br zqC hs14;have eb_b:=hs14 kb _ zqA;have eb_0q0:=hs14 k0q0 _ zqA;simp+decide only[XP,ZE,Zd,↓qd];apply hK;clear hK K;refine qz (b:=_) rfl (fun hb4=>?_) (fun hb4=>?_)
    ·try simp only[qG]at hb4
     rw[if_pos hb4]at hstep;obtain⟨qp,w,ts,tv,hph',hg',hgt,hqE⟩:=hc.ph;obtain⟨kh,ch,rfl,hch,rfl⟩:=qfL hg';have hGt:=lastG_of hLG;have eb_h:h14q1 kh=some _:=hS15.at_ (i:=2) rfl;have ne_h_b:kh≠kb:=hS15.ne (i:=2) (j:=5) rfl rfl (by decide);have nph:∀H:AHeap,Zl Tryz.prog H 79 (.slice (.own kh) 0 (qp.length+1) ch)=⟨True, .int .i64 ((qp.length+1:Nat):Int)⟩:=fun H=>by
      have:=(hg'.isL (w0:=w0) (Vi _)).len Tryz.underlying79 H
      rwa [Jb,Jn,JF]at this
     rw[hph',Jb,Jn,JF]at hph;have hwn:IntKind.i64.wrap (((qp.length+1:Nat):Int)-1)=(qp.length:Int):=by rw[wrap_i64 (by omega) (by omega)];omega
     have htl:=hgt.live;have htsl:ts.length<=17*i:=hpt ⟨w,ts⟩ (by rw[hph'];simp);refine awp_rseq [1,2,3,7,9,10] (by rfl) fun K hK=>?_;simp+decide only[XD,XI,Qh,Xh,YI,WW,WE,↓qc,↓Qf,↓qh,↓qo,qf qdr,↓Qi,QV Tryz.underlying79,↓qd,↓qa,Qm eb_b,Nat.reduceAdd,hwn];apply hK;clear hK K;obtain⟨cs,hcs⟩:∃cs,cs=(qp.map phC).flatten++[AVal.str w,tv]:=⟨_,rfl⟩
     have hcg:cs.getD (qp.length*2+1) .dead=tv:=by rw[hcs];exact qpl qp w tv
     have hcl:cs.length=qp.length*2+2:=by rw[hcs,Jb,qee];rfl
     rw[<-hcs]at eb_h hS15;have etv:rd w0 h14q1 (.own kh) (qp.length*2+1)=tv:=by rw[Yc w0 eb_h];exact hcg
     have eb_b:=hS15.at_ (i:=5) rfl;obtain⟨KB,hKB⟩:∃KB,KB=one kb (buB (b.text++[32]++(sw++ow)) b.cur (.slice (.own kh) 0 (qp.length+1) ch) .nilSlice):=⟨_,rfl⟩
     have eone:KB kb=some (buB (b.text++[32]++(sw++ow)) b.cur (.slice (.own kh) 0 (qp.length+1) ch) .nilSlice):=by rw[hKB];exact one_at _ _
     have hKS:AM.Sub KB h14q1:=by rw[hKB];exact hS15.in_ (i:=5) rfl
     refine qgG [0,1,2,3,4,5,6,7,8,9,10,11,12,13,14,15,16,17,18,19,20] [2,2,2,2,2,2,0,0,0,0,0,0,0,0,0,0,0,0,0,0,0] [none,none,none,none,none,none,none,none,none,none,none,none,none,none,none,none,none,some 16,some 17,some 18,some 19] 17 (KB) [1,2,3,7] mixed (by kernel_rfl) (by rfl) (hKS) fun K hK=>?_;simp only[Kz,Vx,Eo,KM,YB];simp+decide only[Qe,QU,Xc,Xh,YI,WE,Wi,qbm,qao,qan,Uy,UN,↓qc,↓Qf,↓qh,↓qo,qf qdr,↓qJ,qg Tryz.underlying79 qbA,qf qbK,Qm eb_b,Nat.reduceAdd,Yc w0 eone,htl,etv];repeat (with_reducible refine zqP ?_)
     refine qE (by rfl) (by rfl) (qdO w0 hm ha _ ow (by omega) howa) fun x16q16 h16q16 hx16q16=>?_;obtain⟨p16,hrow16,hG16,hSp16⟩:=hx16q16;have hS16:=EG hS15 hSp16;have hs_16:AM.Sub h14q1 h16q16:=hSp16.in_ (i:=0) rfl;simp only[Xf]at hS16;rw[QB];refine And.intro (by first|exact Vi _|assumption|exact Vj (by assumption)) ?_;simp+decide only[qV,Xc];refine Zu (es:=5) (v:=tv) (p:=tp) (xs:=ts.map Xg) (ys:=(Qz ow).map Xg) (i:=3) (by rfl) (by rfl) Tryz.underlying39 Tryz.underlying39 (fun k e=>by cases e) Yo qfY qdU (by rfl) (by decide) (by rfl) hgt hGt rfl hS16 (by rfl) (hrow16.isL (hS16.in_ (i:=6) rfl)) (qco _) (by simp only[Jn];omega) (by simp only[Jn];omega) fun tv2 tp2 h17 hg2 hG2 hS2=>?_;rw[<-JI]at hg2;have hKS17:AM.Sub KB h17:=by rw[hKB];exact hS2.in_ (i:=5) rfl
     rw[QB];refine And.intro (by first|exact Vi _|assumption|exact Vj (by assumption)) ?_;simp+decide only[qV,QU,Xc,qbm,qg Tryz.underlying79 qbA];repeat (with_reducible refine zqP ?_)
     refine qN (v:=tv2) (by rfl) (by rfl) (hS2.at_ (i:=2) rfl) sz39 hg2.live (by rw[hg2.cells];rfl) (by simp only;omega) (Jq _) (by rw[hg2.cells];simp[Qt,hg2.scal]) ?_;have ecs:(⟨setAt cs (qp.length*2+1) tv2.cells,0⟩:Blk)=⟨(qp.map phC).flatten++[AVal.str w,tv2],0⟩:=by rw[hg2.cells,hcs,qkl _ _ _ _ _ (qee qp)]
     have hS17':=hS2.put (i:=2) rfl ⟨(qp.map phC).flatten++[AVal.str w,tv2],0⟩;rw[<-ecs]at hS17';simp only[Xo]at hS17';have hKS18:AM.Sub KB (h17.set kh ⟨setAt cs (qp.length*2+1) tv2.cells,0⟩):=by rw[hKB];exact hS17'.in_ (i:=5) rfl
     have hc17:CurS w0 0 b'.cur (.slice (.own kh) 0 (qp.length+1) ch) .nilSlice (one kh ⟨(qp.map phC).flatten++[AVal.str w,tv2],0⟩) tp2 emp E:=by
      rw[hstep];exact⟨⟨qp,w,ts++Qz ow,tv2,by simp only;rw[hph',qeD],qja hg' rfl hch hg2.live,hg2,hqE⟩,hc.bd⟩
     have hS17:AM.Sep [B,one k0q0 X,one kb (buB b'.text b'.cur (.slice (.own kh) 0 (qp.length+1) ch) .nilSlice),one kh ⟨(qp.map phC).flatten++[AVal.str w,tv2],0⟩,tp2,E] (h17.set kh ⟨setAt cs (qp.length*2+1) tv2.cells,0⟩):=by
      have:=hS17'.pick [0,1,5,2,3,4] (by decide) (by simp);rw[hstep,<-ecs];exact this
     have hL17:qrn (one kh ⟨(qp.map phC).flatten++[AVal.str w,tv2],0⟩):=qin hG2;have hph17:b'.cur.phrases.length<=i+1:=by
      rw[hstep];simp only;rw[hph',qeD,Jb,Jn,JF];omega
     have hpt17:∀p∈b'.cur.phrases,p.toks.length<=17*(i+1):=fun p hp=>by
      rw[hstep]at hp;simp only at hp;rw[hph',qeD]at hp;rcases JV.1 hp with hp|hp
      ·exact Ve (hpt p (by rw[hph'];exact List.mem_append_left _ hp)) (by omega)
      ·rw[V4.1 hp]
       simp only[Jb];omega
     rw[QB];refine And.intro (by first|exact Vi _|assumption|exact Vj (by assumption)) ?_;simp+decide only[qV,Xc];skip;apply hK;clear hK K;refine Qk ?_;change Awp _ _ _ _ _ _ _;refine Qv [1,2,3,7] (by rfl) ?_;simp+decide only[XD,Xi,↓qc,↓qd,↓qa,hwi];try simp only[QL]
     exact⟨⟨i+1,b',_,_,_,_,_⟩,by first|rfl|(rw[hfe];simp only[Jn];rfl),Vi _,⟨hS17,hc17,hL17,by simp only;omega,by simp only;omega, .inl (by simp only;omega),hgN,hph17,hpt17⟩,by simp only;omega⟩
    ·try simp only[qG]at hb4
     rw[if_neg hb4]at hstep;obtain⟨cw,hcw⟩:∃cw,cw=qcS form:=⟨_,rfl⟩
     rw[<-hcw]at hstep;obtain⟨qp,w,ts,tv,hph',hg',hgt,hqE⟩:=hc.ph;have hpvl:=hg'.live;rw[hph',Jb,Jn,JF]at hph;refine qF ?_;change Awp _ _ _ _ _ _ _;refine qbo [0,1,2,3,4,5,6,8,7,9,10,11,12,13,14,15,16] [2,0,0,0,0,0,0,0,0,0,0,0,0,0,0,0,0] [none,none,none,none,none,none,none,none,none,some 8,some 9,some 10,some 11,some 12,some 13,some 14,some 15] 12 (B) mixed (by kernel_rfl) (by rfl) (hS15.in_ (i:=0) rfl) ?_;simp only[Kz,Vx,Eo,KM,YB];simp+decide only[Qe,QU,Xh,YI,WE,Wi,qao,qan,Uy,UN,↓qc,↓Qf,↓qh,↓qo,qf qdr,Qm eb_b,Nat.reduceAdd,hpvl];refine qE (by rfl) (by rfl) (qlb w0 ha _ form hfo.1 hfo.2) fun x17q7 h17q7 hx17q7=>?_;obtain⟨rfl,hs17⟩:=hx17q7;rw[<-hcw];have hs_h17q7:Sub B h17q7:=Br zqC hs17;have hr_h17q7:Sub h14q1 h17q7:=Br zqC hs17;have eb_b:=hs17 kb _ zqA;have eb_0q0:=hs17 k0q0 _ zqA;rw[QB];refine And.intro (by first|exact Vi _|assumption|exact Vj (by assumption)) ?_;simp+decide only[qV];refine qE (by rfl) (by rfl) (qdO w0 hm ha _ ow (by omega) howa) fun x17q9 h17q9 hx17q9=>?_;obtain⟨p17,hrow17,hG17,hSp17⟩:=hx17q9;have hS16:=EG (hS15.forget hs17) hSp17;have hs_17:AM.Sub h17q7 h17q9:=hSp17.in_ (i:=0) rfl;simp only[Xf]at hS16;have hsc17:Sc x17q9=True:=by rcases hrow17 with⟨rfl,_⟩|⟨_,_,rfl,_⟩<;>exact eq_true trivial
     have hl17:=hrow17.live;have hs_h17q9:Sub B h17q9:=Br zqC hs_17;have hr_h17q9:Sub h17q7 h17q9:=Br zqC hs_17;have eb_b:=hs_17 kb _ zqA;have eb_0q0:=hs_17 k0q0 _ zqA;rw[QB];refine And.intro (by first|exact Vi _|assumption|exact Vj (by assumption)) ?_;simp+decide only[qV,QW,Zo,Wi,↓XO,↓QN,bld84_0_1,hsc17];refine qO (cs:=[.str cw,x17q9]) (by kernel_rfl) fun k17q11 hk17q11=>?_;have hn_17q11:h17q9 k17q11=none:=by first|assumption|(simp only[Bd]at hk17q11;simp only[hk17q11])
     have hf_17q11:B k17q11=none:=Be hs_h17q9 hn_17q11;have ne_17q11_b:k17q11≠kb:=Bf hn_17q11 eb_b;have ne_17q11_0q0:k17q11≠k0q0:=Bf hn_17q11 eb_0q0;rw[QB];refine And.intro (by first|exact Vi _|assumption|exact Vj (by assumption)) ?_;simp+decide only[qV];refine ZM (es:=2) (v:=pv) (p:=pp) (xs:=qp.map phC++[[.str w,tv]]) (ys:=[[.str cw,x17q9]]) (i:=2) (by rfl) (by rfl) Tryz.underlying79 Tryz.underlying79 (fun k e=>by cases e) qbA by84 ze84 (by rfl) (by decide) (by rfl) hg' rfl (hS16.forget (Vj hn_17q11)) (by rfl) (Bz (Vh _ _ _) (fun x hx=>by rw[V4.1 hx];rfl) (by rfl) (by show allLive [AVal.str cw,x17q9]=true;rw[allLive,allLive,hl17];rfl) (.exact 1) (KL _)) (by show Qt [AVal.str cw,x17q9]=true;rw[Qt,Qt,hrow17.scal];rfl) (by simp) (by simp only[Jn,Jb,JF];omega) (by simp only[Jn,Jb,JF];omega) fun pv2 pp2 h18 hg2 _ hS2=>?_;have hs_18:AM.Sub B h18:=hS2.in_ (i:=0) rfl;rw[QB];refine And.intro (by first|exact Vi _|assumption|exact Vj (by assumption)) ?_;simp+decide only[qV,qY,Xh,YI,WE,Nat.reduceAdd];repeat (with_reducible refine zqP ?_)
     refine qN (v:=pv2) (by rfl) (by rfl) (hS2.at_ (i:=5) rfl) sz79 hg2.live (by rw[hg2.cells];rfl) (by simp only[QF];omega) (Jq _) (by rw[hg2.cells];simp[Qt,hg2.scal]) ?_;simp only[Xo,WB,hg2.cells];have hS18:=hS2.put (i:=5) rfl (buB b'.text b'.cur pv2 .nilSlice);simp only[Xo]at hS18;have hheap:h18.set kb (buB b'.text b'.cur pv2 .nilSlice)=h18.set kb ⟨[.str (b.text++[32]++(sw++ow)), .str b.cur.verb, .int .i64 b.cur.line, .int .i64 b.cur.col,pv2, .nilSlice],0⟩:=by rw[hstep]
     rw[hheap]at hS18;have hs_19:AM.Sub B (h18.set kb ⟨[.str (b.text++[32]++(sw++ow)), .str b.cur.verb, .int .i64 b.cur.line, .int .i64 b.cur.col,pv2, .nilSlice],0⟩):=hS18.in_ (i:=0) rfl;have hS17:=(BX (ps:=[tp,E]) (hS18.pick [3,4,0,1,5,2,6] (by decide) (by simp))).pick [1,2,3,4,5,0] (by decide) (by simp);have hsu:=Xy (ps:=[tp,E]) (hS18.pick [3,4] (by decide) (by simp)).2;simp only[VX,Kn,QW]at hS17;obtain⟨kh,ch,hpv2,hch,hpp2⟩:∃kh ch,pv2= .slice (.own kh) 0 (qp.length+1+1) ch/\(ch= .exact (qp.length+1+1)\/ch= .grow 2)/\pp2=one kh ⟨((qp++[((⟨w,ts⟩:PhrC),tv)]).map phC).flatten++[.str cw,x17q9],0⟩:=by
      have:=qfL (qs:=qp++[((⟨w,ts⟩:PhrC),tv)]) (w:=cw) (tv:=x17q9) (by rw[JI];exact hg2)
      rwa [Jb,JF]at this
     have hL17:qrn pp2:=by rw[hpp2];exact qin hG17
     have hc17:CurS w0 0 b'.cur pv2 .nilSlice pp2 p17 emp (Wl [tp,E]):=by
      rw[hstep];refine⟨⟨qp++[(⟨w,ts⟩,tv)],cw,Qz ow,x17q9,by simp only;rw[hph',JI];rfl,by rw[JI];exact hg2,hrow17,fun q hq=>?_⟩,?_⟩
      ·rcases JV.1 hq with hq|hq
       ·exact(hqE q hq).mono (hsu E (by simp))
       ·rw[V4.1 hq]
        exact hgt.isL (hsu tp (by simp))
      ·obtain⟨bs,b1,b2,b3⟩:=hc.bd
       exact⟨bs,b1,b2,fun b hb=>⟨(b3 b hb).1.mono (hsu E (by simp)),(b3 b hb).2.mono (hsu E (by simp))⟩⟩
     have hph17:b'.cur.phrases.length<=i+1:=by
      rw[hstep];simp only;rw[hph',Jb,Jb,Jn,JF,JF];omega
     have hpt17:∀p∈b'.cur.phrases,p.toks.length<=17*(i+1):=fun p hp=>by
      rw[hstep]at hp;simp only at hp;rcases JV.1 hp with hp|hp
      ·exact Ve (hpt p hp) (by omega)
      ·rw[V4.1 hp]
       simp only;omega
     rw[QB];refine And.intro (by first|exact Vi _|assumption|exact Vj (by assumption)) ?_;simp+decide only[qV];skip;change Awp _ _ _ _ _ _ _;refine Qv [1,2,3,7] (by rfl) ?_;simp+decide only[XD,Xi,↓qc,↓qd,↓qa,hwi];try simp only[QL]
     exact⟨⟨i+1,b',_,_,_,_,_⟩,by first|rfl|(rw[hfe];simp only[Jn];rfl),Vi _,⟨hS17,hc17,hL17,by simp only;omega,by simp only;omega, .inl (by simp only;omega),hgN,hph17,hpt17⟩,by simp only;omega⟩
   ·try simp only[qG]at hb3
    have hRb:R=b:=by
     rw[hg];split
     ·rfl
     ·have:(x.p.take 5).drop i=[]:=by
       apply EH;rw[K4];rename_i hfn
       have:=Bu.2 hfn;omega
      rw[this];rfl
    refine Qk ?_;try simp only[QL,qjY,qgf]
    refine qai (qC) ?_;exact⟨_,Vi _,pv,pp,tp,E,by rw[hRb];exact hS.emp.pick [0,2,3,4,6,5] (by decide) (by simp),by rw[hRb];exact hc⟩
def qdt:Nat->List XC->Prop
 |0,_=>True
 |d+1,l=>l.length<=1000000/\∀x∈l,x.p.length<=1000000/\x.b.length<=1000000/\∀z∈x.b,qdt d z.2.2.1
theorem qrI:∀d,qdt d []
 |0=>trivial
 |_+1=>⟨by decide,fun _ h=>by cases h⟩
def qeG(w0:World)(f d depth:Nat):Prop:=∀(h:AHeap) (v:AVal) (l:List XC) (last:Bool),XsV w0 d h v l->qdt f l->(XY f l depth last).1.length<=1000000000->
 ACall Tryz.prog w0 15 [v, .int .i64 depth, .bool last] h (fun r h'=>∃sv p,r= .tuple [.str (XY f l depth last).1,sv]/\StsV w0 f p sv (XY f l depth last).2/\AM.Sep [h,p] h')
theorem XsV.shape{w0:World}{h:AHeap}:∀{d:Nat} {v:AVal} {l:List XC},XsV w0 d h v l->v.live=true/\v.scal=true/\v.cells=[v]
 |0,_,_,hp=>⟨hp.2.live,hp.2.scal,hp.2.cells⟩
 |_+1,_,_,⟨_,_,a,_⟩=>⟨a.live,a.scal,a.cells⟩
theorem qrD{w0:World}{h:AHeap}:∀{d:Nat} {v:AVal} {l:List StC},StsV w0 d h v l->v.live=true/\v.scal=true/\v.cells=[v]
 |0,_,_,hp=>⟨hp.2.live,hp.2.scal,hp.2.cells⟩
 |_+1,_,_,⟨_,_,a,_⟩=>⟨a.live,a.scal,a.cells⟩
theorem qnh{w0:World}{h:AHeap}{es:Nat}{v:AVal}{xs:List (List AVal)}(hv:IsL w0 h es v xs):Sc v=True:=by cases hv<;>exact eq_true trivial
theorem stsV_Sc{w0:World}{h:AHeap}:∀{d:Nat} {v:AVal} {l:List StC},StsV w0 d h v l->Sc v=True
 |0,_,_,hp=>qnh hp.2
 |_+1,_,_,⟨_,_,a,_⟩=>qnh a
set_option maxHeartbeats 16000000 in
theorem c_body(w0:World)(hm:MaxL w0)(ha:Asp w0)(B H₀:AHeap)(kb f dx depth:Nat)(b:BuC)(pv bv lv:AVal)(pp tp bp E:AHeap)(l:List XC)(name ops:Str)(last:Bool)
 (hBu:BuS w0 f B kb b pv bv pp tp bp E H₀) (hl:XsV w0 dx B lv l) (hsm:qdt f l) (hb:qeG w0 f dx (depth+1)) (hd:depth<=10) (ho:ops.length<=16) (hoa:asciiB ops=true) (hn:b.cur.bodies.length<=10) (hT:(qhF (XY f) b name ops l depth last).text.length<=1000000000):
 ACall Tryz.prog w0 85 [.ptr (.own kb) 0, .str name, .str ops,lv, .int .i64 depth, .bool last] H₀ (fun _ h'=>∃bv' bp' E',BuS w0 f B kb (qhF (XY f) b name ops l depth last) pv bv' pp tp bp' E' h'):=by
 obtain⟨hS,hc⟩:=hBu;have hs_H₀:AM.Sub B H₀:=hS.in_ (i:=0) rfl;have eb_b:H₀ kb=some _:=hS.at_ (i:=1) rfl;obtain⟨hlvl,hlvs,hlvc⟩:=hl.shape;have hwd:IntKind.i64.wrap ((depth:Int)+1)=((depth+1:Nat):Int):=by rw[wrap_i64 (by omega) (by omega)];omega
 obtain⟨T,hTT⟩:∃T,T=XY f l (depth+1) last:=⟨_,rfl⟩
 have hbE:qhF (XY f) b name ops l depth last={text:=b.text++ops++T.1,cur:={b.cur with bodies:=b.cur.bodies++[(name,Qz ops,T.2)]}}:=by rw[hTT];rfl
 rw[hbE]at hT|-
 simp only[Jb]at hT;refine qR (n:=49) (rs:=[]) Tryz.func85 rfl rfl rfl rfl (VY rfl) ?_;simp only[qU];refine awp_rseq [0,1,2,12,13] (by rfl) fun K hK=>?_;simp+decide only[QK,Xi,↓qc,↓qd,Nat.reduceAdd,hwd];refine qE (by rfl) (by rfl) (hb _ lv l last (hl.mono hs_H₀) hsm (by rw[<-hTT];omega)) fun x0q4 h0q4 hx0q4=>?_;rw[<-hTT]at hx0q4;obtain⟨sv,p0,rfl,hsv,hS0⟩:=hx0q4;have hs_0:AM.Sub H₀ h0q4:=hS0.in_ (i:=0) rfl;have hS1:=EG hS hS0;simp only[Xf]at hS1;obtain⟨hsvl,hsvs,hsvc⟩:=qrD hsv;have hs_h0q4:Sub B h0q4:=Br zqC hs_0;have hr_h0q4:Sub H₀ h0q4:=Br zqC hs_0;have eb_b:=hs_0 kb _ zqA;simp+decide only[Xp,QF,QR,Xe,↓qc,↓Xa,↓qa,Nat.reduceAdd];apply hK;clear hK K;refine awp_rseq [0,1,2,13] (by rfl) fun K hK=>?_;simp+decide only[Xj,QU,qj,Jb,Qs,Xh,ZO,↓qc,↓Qf,↓qh,qnK,↓qo,qf ag9,↓qd,Qm eb_b];repeat (with_reducible refine zqP ?_)
 refine qN (by rfl) (by rfl) zqA sz9 (by rfl) (by rfl) zqD (Jq _) (by rfl) ?_;simp only[QT];simp+decide only[qV,Jb];apply hK;clear hK K;have hS2:=hS1.put (i:=1) rfl (buB (b.text++ops++T.1) b.cur pv bv);simp only[Xo]at hS2;obtain⟨H2,hH2⟩:∃H2,H2=h0q4.set kb (buB (b.text++ops++T.1) b.cur pv bv):=⟨_,rfl⟩
 rw[<-hH2]at hS2;refine BO (h':=H2) (by rw[hH2];exact Vi _) ?_;have hs_H2:AM.Sub B H2:=hS2.in_ (i:=0) rfl;have eb_b:=hS2.at_ (i:=1) rfl;obtain⟨hbl,hbs,hbc,nb⟩:=hc.bv_len;obtain⟨bs,hbse,hbg,hbq⟩:=hc.bd;have hbn:bs.length<=10:=by rw[hbse,Jn]at hn;exact hn
 refine qbo [0,1,2,3,4,5,6,7,9,8,10,11,12,13,14,15,16] [2,0,0,0,0,0,0,0,0,0,0,0,0,0,0,0,0] [none,none,none,none,none,none,none,none,none,none,some 9,some 10,some 11,some 12,some 13,some 14,some 15] 12 (B) mixed (by kernel_rfl) (by rfl) (hs_H2) ?_;simp only[Kz,Vx,Eo,KM,YB];simp+decide only[Qe,QU,Xh,YR,WE,Wi,qao,qan,Uy,UN,↓qc,↓Qf,↓qh,↓qo,qf qdp,Qm eb_b,Nat.reduceAdd,hbl];refine qE (by rfl) (by rfl) (qdO w0 hm ha _ ops (by omega) hoa) fun x2q8 h2q8 hx2q8=>?_;obtain⟨p2,hrow2,hG2,hSp2⟩:=hx2q8;have hS3:=EG hS2 hSp2;simp only[Xf]at hS3;have hs_2:AM.Sub H2 h2q8:=hSp2.in_ (i:=0) rfl;have hsc2:Sc x2q8=True:=by rcases hrow2 with⟨rfl,_⟩|⟨_,_,rfl,_⟩<;>exact eq_true trivial
 have hl2:=hrow2.live;have hs_h2q8:Sub B h2q8:=Br zqC hs_2;have hr_h2q8:Sub H2 h2q8:=Br zqC hs_2;have eb_b:=hs_2 kb _ zqA;rw[QB];refine And.intro (by first|exact Vi _|assumption|exact Vj (by assumption)) ?_;simp+decide only[qV,QW,Zo,Wi,↓XO,↓QN,qpV,hsc2,stsV_Sc hsv];refine qO (cs:=[.str name,x2q8,sv]) (by kernel_rfl) fun k2q11 hk2q11=>?_;have hn_2q11:h2q8 k2q11=none:=by first|assumption|(simp only[Bd]at hk2q11;simp only[hk2q11])
 have hf_2q11:B k2q11=none:=Be hs_h2q8 hn_2q11;have ne_2q11_b:k2q11≠kb:=Bf hn_2q11 eb_b;rw[QB];refine And.intro (by first|exact Vi _|assumption|exact Vj (by assumption)) ?_;simp+decide only[qV];refine ZM (es:=3) (v:=bv) (p:=bp) (xs:=bs.map bdC) (ys:=[[.str name,x2q8,sv]]) (i:=4) (by rfl) (by rfl) Tryz.underlying80 Tryz.underlying80 (fun k e=>by cases e) qav by86 qlH (by rfl) (by decide) (by rfl) hbg rfl (hS3.forget (Vj hn_2q11)) (by rfl) (Bz (Vh _ _ _) (fun x hx=>by rw[V4.1 hx];rfl) (by rfl) (by show(true && (x2q8.live && (sv.live && true)))=true;rw[hl2,hsvl];rfl) (.exact 1) (KL _)) (by show(true && (x2q8.scal && (sv.scal && true)))=true;rw[hrow2.scal,hsvs];rfl) (by simp) (by simp only[Zn];omega) (by simp only[Zn];omega) fun bv2 bp2 h3 hg2 _ hS4=>?_;have hs_3:AM.Sub B h3:=hS4.in_ (i:=0) rfl;rw[QB];refine And.intro (by first|exact Vi _|assumption|exact Vj (by assumption)) ?_;simp+decide only[qV,qY,Xh,YR,WE,Nat.reduceAdd];repeat (with_reducible refine zqP ?_)
 refine qN (v:=bv2) (by rfl) (by rfl) (hS4.at_ (i:=1) rfl) sz80 hg2.live (by rw[hg2.cells];rfl) (by simp only[QF];omega) (Jq _) (by rw[hg2.cells];simp[Qt,hg2.scal]) ?_;simp only[Xo,WB,hg2.cells];have hS5:=hS4.put (i:=1) rfl (buB (b.text++ops++T.1) b.cur pv bv2);simp only[Xo]at hS5;have hs_4:=hS5.in_ (i:=0) (p:=B) rfl;rw[QB];refine And.intro (by first|exact Vi _|assumption|exact Vj (by assumption)) ?_;simp+decide only[qV];refine qai (qC) ?_;have hS6:=(BX (ps:=[E,p0,p2]) (hS5.pick [5,6,7,0,1,2,3,4] (by decide) (by simp))).pick [1,2,3,4,5,0] (by decide) (by simp);have hsu:=Xy (ps:=[E,p0,p2]) (hS5.pick [5,6,7] (by decide) (by simp)).2;refine⟨_,Vi _,bv2,bp2,Wl [E,p0,p2],hS6,?_,bs++[((name,Qz ops,T.2),x2q8,sv)],by simp only;rw[hbse,JI];rfl,by rw[JI];exact hg2,fun q hq=>?_⟩
 ·obtain⟨qs,w,ts,tv,a1,a2,a3,a4⟩:=hc.ph
  exact⟨qs,w,ts,tv,a1,a2,a3,fun q hq=>(a4 q hq).mono (hsu E (by simp))⟩
 ·rcases JV.1 hq with hq|hq
  ·exact⟨(hbq q hq).1.mono (hsu E (by simp)),(hbq q hq).2.mono (hsu E (by simp))⟩
  ·rw[V4.1 hq]
   exact⟨hrow2.isL (hsu p2 (by simp)),hsv.mono (hsu p0 (by simp))⟩
end Go.Proofs.YtgiadjbiimkbiaaGreatDoor
namespace Go.Stm
open Go.Col (Str)
open Go.Tok
open Go.Proofs.YtgiadjbiimkbiaaGreatDoor (asciiB)
theorem qku(B:List XC->Nat->Bool->Str×List StC)(b:BuC)(name ops:Str)(l:List XC)(depth:Nat)(last:Bool):b.text<+:(qhF B b name ops l depth last).text:=by
 show b.text<+:b.text++ops++_
 rw[K9];exact Er _ _
theorem pre_step(B:List XC->Nat->Bool->Str×List StC)(x:XC)(forms:List Str)(depth:Nat)(last:Bool)(s:BuC×Str)(i:Nat):s.1.text<+:(ZY B x forms depth last s i).1.text:=by
 unfold ZY;simp only;split
 ·exact Ep _
 ·refine List.IsPrefix.trans ?_ (qku B _ _ _ _ _ _)
  show s.1.text<+:s.1.text++[32]++_
  rw[K9];exact Er _ _
theorem qib(B:List XC->Nat->Bool->Str×List StC)(x:XC)(forms:List Str)(depth:Nat)(last:Bool):∀(l:List Nat) (s:BuC×Str),s.1.text<+:(l.foldl (ZY B x forms depth last) s).1.text
 |[],s=>Ep _
 |i::l,s=>(pre_step B x forms depth last s i).trans (qib B x forms depth last l _)
theorem qrL{N i:Nat}(hi:i<N):(KP N).drop i=i::(KP N).drop (i+1):=by
 have h:i<(KP N).length:=by rw[EI];exact hi
 rw[Vb h,List.getElem_range]
def bodN(x:XC)(verb:Str):Nat:=min 4 (max x.b.length (if qmz verb=true then 1 else 0))
theorem qoe(B:List XC->Nat->Bool->Str×List StC)(x:XC)(b:BuC)(forms:List Str)(depth:Nat)(last:Bool)(h:b.cur.verb≠Zh):WP B x b forms depth last=((KP (bodN x b.cur.verb)).foldl (ZY B x forms depth last) (b,[])).1:=by
 unfold WP bodN;simp only;rw[if_neg h]
theorem qiO(bits:UInt8)(all:Bool):∀(ws:List Str) (i:Nat) (out:Str),(∀w∈ws,w.length<=500)->(qaz bits all i ws out).length<=out.length+501*ws.length
 |[],_,_,_=>by unfold qaz;omega
 |w::ws,i,out,hw=>by
  unfold qaz;refine Ve (qiO bits all ws _ _ fun w' h=>hw w' (Jf _ h)) ?_;have h1:=hw w (Je ..);have h2:(Lib.trimS w qfa).length<=w.length:=Go.Proofs.YtgiadjbiimkbiaaGreatDoor.trimS_le w qfa;rw[KX];split
  ·omega
  ·simp only[QF,Jb]
   omega
theorem qkj{form:Str}(hf:form.length<=500)(bits:UInt8)(all:Bool):(qaa form bits all).length<=251001:=by
 unfold qaa;refine Ve (space_len _) (Ve (qiO bits all _ _ _ fun w hw=>Ve (Go.Proofs.YtgiadjbiimkbiaaGreatDoor.fields_small w hw) hf) ?_);have:=Go.Proofs.YtgiadjbiimkbiaaGreatDoor.fields_few form;simp only[JD];omega
theorem qsS{form:Str}(hf:form.length<=500):(qcS form).length<=251001:=by
 unfold qcS;split
 ·decide
 ·split
  ·decide
  ·split
   ·decide
   ·exact qkj hf _ _
theorem opsB_ok(name:Str)(z:ZC):(qoZ name z).length<=16/\asciiB (qoZ name z)=true:=by
 unfold qoZ;split
 ·split
  ·exact⟨by decide,by decide⟩
  ·exact wordsE_ok _
 ·exact⟨by decide,rfl⟩
theorem textB_len{form:Str}(hf:form.length<=500)(name:Str)(z:ZC):(qjZ form name z).length<=251001:=by
 unfold qjZ;split
 ·decide
 ·exact qkj hf _ _
end Go.Stm
namespace Go.Proofs.YtgiadjbiimkbiaaGreatDoor
open Go.AM
open Go.Proofs
open Go.Col (Str FaultC okF)
open Go.Tok (TokC)
open Go.Stm
open Go.RowKit (Below)
set_option maxRecDepth 100000
def qpb:ZC×AVal×AVal:=(noZ, .nilSlice, .nilSlice)
theorem z_at{w0:World}{h:AHeap}{lc:AM.Loc}{o n:Nat}{c:Cap}{qs:List (ZC×AVal×AVal)}(ht:IsL w0 h 4 (.slice lc o n c) (qs.map zC)){i:Nat}(hi:i<qs.length):
 rd w0 h lc (o+i*4)= .int .u8 (qs.getD i qpb).1.1.toNat/\rd w0 h lc (o+i*4+1)=(qs.getD i qpb).2.1/\rd w0 h lc (o+i*4+2)=(qs.getD i qpb).2.2/\rd w0 h lc (o+i*4+3)= .int .u8 (qs.getD i qpb).1.2.2.2.toNat:=by
 have he:=ht.elem (i:=i) (by rw[Jn];exact hi);rw[getD_map qpb hi]at he;simp only[and_true,cellsAt,List.cons.injEq,zC]at he;exact he
theorem CurS.phs{w0:World}{d:Nat}{c:Cur}{pv bv:AVal}{pp tp bp E:AHeap}(hc:CurS w0 d c pv bv pp tp bp E):
 ∃qs:List (PhrC×AVal),c.phrases=qs.map (·.1)/\qs≠[]/\∀h,AM.Sub pp h->AM.Sub tp h->AM.Sub E h->IsL w0 h 2 pv (qs.map phC)/\∀q∈qs,IsL w0 h 5 q.2 (q.1.toks.map Xg):=by
 obtain⟨qs,w,ts,tv,e,g,gt,hq⟩:=hc.ph;refine⟨qs++[((⟨w,ts⟩:PhrC),tv)],by rw[e,JI];rfl,by simp,fun h h1 h2 h3=>⟨by rw[JI];exact g.isL h1,fun q hm=>?_⟩⟩;rcases JV.1 hm with hm|hm
 ·exact(hq q hm).mono h3
 ·rw[V4.1 hm]
  exact gt.isL h2
theorem qjB{w0:World}{h:AHeap}:∀{d:Nat},XsV w0 d h .nilSlice []
 |0=>⟨rfl, .nil⟩
 |_+1=>⟨[],rfl, .nil,fun q hq=>by cases hq⟩
structure BdG where
 i:Nat
 b:BuC
 seen:Str
 bv:AVal
 bp:AHeap
 E:AHeap
 H:AHeap
structure ZG where
 z:ZC
 zo:AVal
 zl:AVal
set_option maxHeartbeats 16000000 in
theorem c_bodies(w0:World)(hm:MaxL w0)(ha:Asp w0)(B H₀:AHeap)(kb f dx depth:Nat)(x:XC)(b:BuC)(xp xb fv pv:AVal)(pp tp E₀:AHeap)(forms:List Str)(last:Bool)
 (hBu:BuS w0 f B kb b pv .nilSlice pp tp emp E₀ H₀) (hb0:b.cur.bodies=[]) (hxl:xp.live=true) (hxs:xp.scal=true) (hxc:xp.cells=[xp]) (hZ:ZsV w0 (XsV w0 dx B) B xb x.b) (hsm:∀z∈x.b,qdt f z.2.2.1) (hF:IsL w0 B 1 fv (forms.map strC)) (hFo:qfV forms)
 (hb:b.cur.verb=Zh\/qmz b.cur.verb=true\/forms≠[]->qeG w0 f dx (depth+1)) (hd:depth<=10) (hBl:x.b.length<=1000000) (hpn:b.cur.phrases.length<=1000) (hpt:∀p∈b.cur.phrases,p.toks.length<=1000)
 (hT:(WP (XY f) x b forms depth last).text.length<=1000000000):
 ACall Tryz.prog w0 55 [.agg [.int .u8 x.verb.toNat,xp,xb, .bool x.cut], .ptr (.own kb) 0,fv, .int .i64 depth, .bool last] H₀ (fun _ h'=>∃bv' bp' E',BuS w0 f B kb (WP (XY f) x b forms depth last) pv bv' pp tp bp' E' h'):=by
 obtain⟨hS,hc⟩:=hBu;have hsmG:∀i,qdt f (x.b.getD i noZ).2.2.1:=fun i=>by
  rw[Ko];cases hx:x.b[i]? with
  |none=>exact qrI f
  |some z=>exact hsm z (JM hx)
 obtain⟨hzl,hzs,hzc⟩:=hZ.shape;have hfl:=hF.live;have nf:∀H:AHeap,Zl Tryz.prog H 22 fv=⟨True, .int .i64 forms.length⟩:=fun H=>by have:=hF.len Tryz.underlying22 H;rwa [Jn]at this
 obtain⟨qs,hqe,hqL,hqo⟩:=id hZ;have hpl:x.b.length=qs.length:=by rw[hqe,Jn]
 have nz:∀H:AHeap,Zl Tryz.prog H 29 xb=⟨True, .int .i64 qs.length⟩:=fun H=>by have:=hqL.len Tryz.underlying29 H;rwa [Jn]at this
 have hs_H₀:AM.Sub B H₀:=hS.in_ (i:=0) rfl;have eb_b:H₀ kb=some _:=hS.at_ (i:=1) rfl;obtain⟨pq,hpe,hpne,hpA⟩:=hc.phs;obtain⟨hpL,hpo⟩:=hpA _ (hS.in_ (i:=2) rfl) (hS.in_ (i:=3) rfl) (hS.in_ (i:=5) rfl);have hp0:0<pq.length:=Bu.2 hpne;obtain⟨lp,op,cp,hpve⟩:=qcc hpL hp0;have hpL2:=hpL;rw[hpve]at hpL2;have e1:=(qeJ hpL2 hp0).2;simp only[K6,K7]at e1;obtain⟨q0,hq0⟩:∃q0,q0=pq.getD 0 qej:=⟨_,rfl⟩
 rw[<-hq0]at e1;have hq0m:q0∈pq:=by rw[hq0,Ko,JB hp0];exact Vw hp0
 have hv0:=hpo q0 hq0m;have hv0l:=hv0.live;have n0:∀H:AHeap,Zl Tryz.prog H 39 q0.2=⟨True, .int .i64 q0.1.toks.length⟩:=fun H=>by have:=hv0.len Tryz.underlying39 H;rwa [Jn]at this
 have hft:firstT b.cur.phrases=q0.1.toks:=by
  unfold firstT;rw[hpe,hq0,Ko,Ko,VA,JB hp0];rfl
 have hfn:q0.1.toks.length<=1000:=by
  refine hpt q0.1 ?_;rw[hpe];exact BK hq0m
 have hpvl:=hpL.live;have hpqn:pq.length<=1000:=by rw[hpe,Jn]at hpn;exact hpn
 refine qR (n:=202) (rs:=[]) Tryz.func55 rfl rfl rfl rfl (VY rfl) ?_;simp only[qU];refine awp_rseq [1,2,3,4,5] (by rfl) fun K hK=>?_;refine UU (by rfl) (by rfl) (by rfl) fun k0q0 hk0q0=>?_;have hn_0q0:H₀ k0q0=none:=by first|assumption|(simp only[Bd]at hk0q0;simp only[hk0q0])
 have hf_0q0:B k0q0=none:=Be hs_H₀ hn_0q0;have ne_0q0_b:k0q0≠kb:=Bf hn_0q0 eb_b;skip;simp+decide only[qV,Nat.reduceAdd];apply hK;clear hK K;obtain⟨X,hX⟩:∃X:Blk,X=⟨[.int .u8 x.verb.toNat,xp,xb, .bool x.cut],0⟩:=⟨_,rfl⟩
 have hS1:=Eb hS hk0q0 X;simp only[Xf]at hS1;obtain⟨H1,hH1⟩:∃H1,H1=H₀.set k0q0 X:=⟨_,rfl⟩
 rw[<-hH1]at hS1;refine BO (h':=H1) (by rw[hH1,hX];exact Vi _) ?_;have hs_1:AM.Sub H₀ H1:=by rw[hH1];exact Vj hk0q0
 have hs_H1:AM.Sub B H1:=hS1.in_ (i:=0) rfl;have eb_b:=hS1.at_ (i:=1) rfl;have eb_0q0:H1 k0q0=some ⟨[.int .u8 x.verb.toNat,xp,xb, .bool x.cut],0⟩:=by rw[<-hX];exact hS1.at_ (i:=6) rfl
 have ne_0q0_b:k0q0≠kb:=hS1.ne (i:=6) (j:=1) rfl rfl (by decide);have hpL3:=hpL2.mono hs_1;have e1':=(qeJ hpL3 hp0).2;simp only[K6,K7]at e1';rw[<-hq0]at e1';refine awp_rseq [1,2,3,4,5,10] (by rfl) fun K hK=>?_;simp+decide only[Xp,QU,K6,Qh,Xh,YI,WE,K7,qbm,Bv,↓qc,↓Qf,↓qh,↓qo,qf qdr,↓qJ,qg Tryz.underlying79 qbA,qf qbK,↓Qi,↓qa,Qm eb_b,Nat.reduceAdd,hpve,e1',hv0l,n0];repeat (with_reducible refine zqP ?_)
 apply hK;clear hK K;refine qi ?_;refine awp_rseq [1,2,3,4,5,10,34] (by rfl) fun K hK=>?_;simp+decide only[Xj,QU,Qs,Xh,Xn,Zd,WE,qag,↓qc,↓Qf,↓qh,↓qo,qf ag9,↓qd,Qm eb_b,Nat.reduceAdd];apply hK;clear hK K;refine qz (b:=_) rfl (fun hb1=>?_) (fun hb1=>?_)
 ·try simp only[qG]at hb1
  have hverb:b.cur.verb=Zh:=hb1;have hbE:WP (XY f) x b forms depth last=if q0.1.toks.length=0\/(q0.1.toks.length=1/\qjv b qft=true/\qjv b qeP=false)then qhF (XY f) b [] [] (x.b.getD 0 noZ).2.2.1 depth false else b:=by
   unfold WP;simp only;rw[if_pos hverb,hft]
  rw[hbE]at hT|-
  have hSa:AM.Sep ([B,pp,tp,E₀,one k0q0 X]++[one kb (buB b.text b.cur pv .nilSlice)]) H1:=hS1.pick [0,2,3,5,6,1] (by decide) (by simp);have hSb:=hSa.fold;have hsu:=Xy (ps:=[B,pp,tp,E₀,one k0q0 X]) (hS1.pick [0,2,3,5,6] (by decide) (by simp)).2;have hhas:∀w,ACall Tryz.prog w0 84 [.ptr (.own kb) 0, .str w] H1 (fun r h'=>r= .bool (qjv b w)/\h'=H1):=fun w=>by
   have:=c_has w0 _ H1 kb b.text w b.cur pv .nilSlice pq hSb (fun h hh=>(hpA h ((hsu pp (by simp)).trans hh) ((hsu tp (by simp)).trans hh) ((hsu E₀ (by simp)).trans hh)).1) (by omega);unfold qjv;rw[hpe];exact this
  refine qi ?_;refine awp_rseq [1,3,5,49] (by rfl) fun K hK=>?_;simp+decide only[Xk,qK,Xt,YJ,Yy,QS,XA,↓qc,↓qd,↓Qy,↓Qn]
  (refine We (V:= .bool (qjv b qft)) (f:=_) (cap:=_) (xs:=_) (by first|rfl|(simp+decide only[QI,VZ,gv,nthDst,Zy,Zw])) (fun hg=>⟨rfl,?_⟩) (fun hg=>hhas _) ?_;· (simp+decide only[QI,qaT,Xt,VH]at hg;simp+decide only[QI,Zr,absS,absV,XH,QW,evs,JE,hg]<;>try rfl))
  simp+decide only[Qe,XF,XL,qbz,qby,↓UE,↓Qy]
  (refine We (V:= .bool (qjv b qeP)) (f:=_) (cap:=_) (xs:=_) (by first|rfl|(simp+decide only[QI,VZ,gv,nthDst,Zy,Zw])) (fun hg=>⟨rfl,?_⟩) (fun hg=>hhas _) ?_;· (simp+decide only[QI,qaT,Xt,VH]at hg;simp+decide only[QI,Zr,absS,absV,XH,QW,evs,JE,hg]<;>try rfl))
  simp+decide only[qV,XF,XL,YF,Zf,qbz,qby,qjk,qjj,↓Uc,↓UE,↓Qd];apply hK;clear hK K;refine qz (b:=_) rfl (fun hb2=>?_) (fun hb2=>?_)
  ·try simp only[qG]at hb2
   have hcond:q0.1.toks.length=0\/(q0.1.toks.length=1/\qjv b qft=true/\qjv b qeP=false):=by
    rcases hb2 with h|h
    ·exact .inl (by omega)
    ·exact .inr ⟨by have:=h.1.1;omega,h.1.2,h.2⟩
   rw[if_pos hcond]at hT|-
   refine awp_rseq [1,3,5,11] (by rfl) fun K hK=>?_;simp+decide only[qP,↓qa];apply hK;clear hK K;refine qi ?_;refine awp_rseq [1,3,5,11,53] (by rfl) fun K hK=>?_;simp+decide only[XP,QH,XI,Qh,YG,qcO,↓qh,↓qo,qf qlT,↓Qi,↓qd,Qm eb_0q0,hzl,nz];apply hK;clear hK K;refine Wo [1,3,11] (fun z:AVal=>[(1, .ptr (.own kb) 0),(3, .int .i64 depth),(11,z)]) (fun z:AVal=>H1) (fun z:AVal=>XsV w0 dx B z (x.b.getD 0 noZ).2.2.1) ?_ ?_
   ·refine qz (b:=_) rfl (fun hb3=>?_) (fun hb3=>?_)
    ·try simp only[qG]at hb3
     have hq1:0<qs.length:=by omega
     obtain⟨lc,o,cc,hpe3⟩:=hqL.open (fun e=>by rw[Vz]at e;rw[e]at hq1;cases hq1);have hq2:=hqL.mono hs_H1;rw[hpe3]at hq2;obtain⟨g0,g1,g2,g3⟩:=z_at hq2 hq1;simp only[K6,K7]at g0 g1 g2 g3;obtain⟨q,hqq⟩:∃q,q=qs.getD 0 qpb:=⟨_,rfl⟩
     rw[<-hqq]at g0 g1 g2 g3;have hqm:q∈qs:=by rw[hqq,Ko,JB hq1];exact Vw hq1
     have hqv:=(hqo q hqm).2;have hql:=hqv.shape.1;have hx0:x.b.getD 0 noZ=q.1:=by rw[hqe,hqq,Ko,Ko,VA,JB hq1];rfl
     refine Qv [1,3,11] (by rfl) ?_;simp+decide only[qP,QU,K6,Jn,K7,qcO,Bv,↓qh,↓qo,qf qlT,↓qJ,qg Tryz.underlying29 qoz,qkT,qf ag35,↓qa,Qm eb_0q0,hpe3,g2,hql];repeat (with_reducible refine zqP ?_)
     try simp only[QL]
     first
     |exact⟨q.2.2,rfl,Vi _,by rw[hx0];exact hqv⟩
     |exact⟨.nilSlice,rfl,Vi _,by rw[hxn];exact qjB⟩
    ·try simp only[qG]at hb3
     have hxn:x.b=[]:=Kg (by omega);refine qF ?_;try simp only[QL]
     first
     |exact⟨q.2.2,rfl,Vi _,by rw[hx0];exact hqv⟩
     |exact⟨.nilSlice,rfl,Vi _,by rw[hxn];exact qjB⟩
   ·rintro z hz
    obtain⟨hzl2,-,-⟩:=hz.shape;refine Qv [] (by rfl) ?_;simp+decide only[Qe,↓qc];refine qE (by rfl) (by rfl) (c_body w0 hm ha B H1 kb f dx depth b pv .nilSlice z pp tp emp E₀ _ [] [] false ⟨hS1.pick [0,1,2,3,4,5] (by decide) (by simp),hc⟩ hz (hsmG 0) (hb (.inl hverb)) hd (by decide) (by rfl) (by rw[hb0];decide) hT) fun x7q3 h7q3 hx7q3=>?_;simp+decide only[qV];change Awp _ _ _ _ _ _ _;refine qW ?_;try simp only[XB]
    refine Qb (qC) ?_;exact⟨_,Vi _,hx7q3⟩
  ·try simp only[qG]at hb2
   have hcond:¬(q0.1.toks.length=0\/(q0.1.toks.length=1/\qjv b qft=true/\qjv b qeP=false)):=by
    intro h;obtain⟨a,c⟩:=hb2;rcases h with h|⟨h1,h2,h3⟩
    ·exact a (by omega)
    ·rcases c with(c|c)|c
     ·exact c (by omega)
     ·rw[h2]at c;cases c
     ·rw[h3]at c;cases c
   rw[if_neg hcond]at hT|-
   refine qF ?_;change Awp _ _ _ _ _ _ _;refine qW ?_;try simp only[XB]
   refine Qb (qC) ?_;exact⟨_,Vi _, .nilSlice,emp,E₀,hS1.pick [0,1,2,3,4,5] (by decide) (by simp),hc⟩
 ·try simp only[qG]at hb1
  have hverb:b.cur.verb≠Zh:=hb1;rw[qoe _ _ _ _ _ _ hverb]at hT|-
  obtain⟨nb,hnb⟩:∃nb,nb=qmz b.cur.verb:=⟨_,rfl⟩
  have hnb':((decide (b.cur.verb=[73,70])||decide (b.cur.verb=[69,86,65,76,85,65,84,69]))||decide (b.cur.verb=[83,69,65,82,67,72]))=nb:=by rw[hnb,EJ];rfl
  obtain⟨N,hN⟩:∃N,N=bodN x b.cur.verb:=⟨_,rfl⟩
  have hN4:N<=4:=by rw[hN];exact Nat.min_le_left _ _
  have hNi:∀i:Nat,i<N↔(i<4/\(i<qs.length\/(nb=true/\i=0))):=fun i=>by
   rw[hN,bodN,<-hnb,hpl];split<;>rename_i hq<;>simp only[hq]<;>simp<;>omega
  rw[<-hN]at hT|-
  obtain⟨R,hR⟩:∃R,R=((KP N).foldl (ZY (XY f) x forms depth last) (b,[])).1:=⟨_,rfl⟩
  rw[<-hR]at hT|-
  have hbl0:=hc.bv_len;refine qF ?_;change Awp _ _ _ _ _ _ _;refine awp_rseq [1,2,3,4,5,12] (by rfl) fun K hK=>?_;simp+decide only[qP,↓qa];apply hK;clear hK K;refine awp_rseq [1,2,3,4,5,12,13] (by rfl) fun K hK=>?_;simp+decide only[ZR,XF,QU,XL,Qs,QS,Xh,Xn,Ze,Zd,Zt,ZF,WE,qag,↓qc,↓Qf,↓qh,↓qo,qf ag9,↓qd,↓Qy,↓qdg,cv_nil,cp_nil,↓QM,↓Xv,↓Qn,↓Qd,↓qa,Qm eb_b,Nat.reduceAdd,hnb'];apply hK;clear hK K;refine awp_rseq [1,2,3,4,5,12,13,14] (by rfl) fun K hK=>?_;simp+decide only[qP,↓qa];apply hK;clear hK K;refine qI ?_;refine Qj [1,2,3,4,5,12,13,14] (fun g:BdG=>[(1, .ptr (.own kb) 0),(2,fv),(3, .int .i64 depth),(4, .bool last),(5, .ptr (.own k0q0) 0),(12, .str g.seen),(13, .bool nb),(14, .int .i64 g.i)]) (fun g:BdG=>g.H) (fun g:BdG=>AM.Sep [B,one kb (buB g.b.text g.b.cur pv g.bv),pp,tp,g.bp,g.E,one k0q0 X] g.H/\CurS w0 f g.b.cur pv g.bv pp tp g.bp g.E/\g.i<=N/\R=(((KP N).drop g.i).foldl (ZY (XY f) x forms depth last) (g.b,g.seen)).1/\g.b.cur.bodies.length<=g.i/\g.seen.length<=300000*g.i/\g.b.cur.verb=b.cur.verb) (fun g:BdG=>N-g.i) ⟨0,b,[], .nilSlice,emp,E₀,H1⟩ (by rfl) (Vi _) ⟨hS1,hc,Jq _,hR,by rw[hb0];exact KL _,KL _,rfl⟩ ?_;rintro⟨i,b,seen,bv,bp,E,H⟩ ⟨hS,hc,hiN,hg,hbn,hsn,hvb⟩;simp only at hS hc hiN hg hbn hsn hvb|-
  have hs_H:AM.Sub B H:=hS.in_ (i:=0) rfl;have eb_b:=hS.at_ (i:=1) rfl;have eb_0q0:H k0q0=some ⟨[.int .u8 x.verb.toNat,xp,xb, .bool x.cut],0⟩:=by rw[<-hX];exact hS.at_ (i:=6) rfl
  refine qi ?_;refine awp_rseq [1,2,3,4,5,12,13,14,100] (by rfl) fun K hK=>?_;simp+decide only[Xk,XI,qj,ZH,Yl,QS,QY,XA,Ze,Zt,ZF,qcO,qbz,qby,qfm,qfl,↓qc,↓qd,↓Qy,↓QM,↓Xv,qf qlT,↓qbW,↓Qn,↓UE,↓Qd,Qm eb_0q0,hzl,nz];apply hK;clear hK K;refine qz (b:=_) rfl (fun hb4=>?_) (fun hb4=>?_)
  ·try simp only[qG]at hb4
   have hiN1:i<N:=(hNi i).2 ⟨by omega,by
    rcases hb4.2 with h|⟨h,h2⟩
    ·exact .inl (by omega)
    ·exact .inr ⟨h,by omega⟩⟩
   rw[qrL hiN1,Et]at hg;refine qF ?_;change Awp _ _ _ _ _ _ _;refine qi ?_;refine qI ?_;refine awp_rseq [1,2,3,4,5,12,13,14,15] (by rfl) fun K hK=>?_;refine Qp ze37 (cs:=[.int .u8 0, .nilSlice, .nilSlice, .int .u8 0]) (by rfl) fun k13q0 hk13q0=>?_;have hn_13q0:H k13q0=none:=by first|assumption|(simp only[Bd]at hk13q0;simp only[hk13q0])
   have hf_13q0:B k13q0=none:=Be hs_H hn_13q0;have ne_13q0_b:k13q0≠kb:=Bf hn_13q0 eb_b;have ne_13q0_0q0:k13q0≠k0q0:=Bf hn_13q0 eb_0q0;simp+decide only[qV];apply hK;clear hK K;refine qi ?_;have ne_13q0_b:k13q0≠kb:=Bf hn_13q0 eb_b;have ne_13q0_0q0:k13q0≠k0q0:=Bf hn_13q0 eb_0q0;refine awp_rseq [1,2,3,4,5,12,13,14,15,107] (by rfl) fun K hK=>?_;simp+decide only[QK,QU,qj,Qh,QY,qcO,↓qc,↓qh,↓qo,qf qlT,↓Qi,↓qd,ne_13q0_0q0.symm,Qm eb_0q0,hzl,nz];apply hK;clear hK K;refine Wo [1,2,3,4,5,12,13,14,15] (fun g:ZG=>[(1, .ptr (.own kb) 0),(2,fv),(3, .int .i64 depth),(4, .bool last),(5, .ptr (.own k0q0) 0),(12, .str seen),(13, .bool nb),(14, .int .i64 i),(15, .ptr (.own k13q0) 0)]) (fun g:ZG=>H.set k13q0 ⟨[.int .u8 g.z.1.toNat,g.zo,g.zl, .int .u8 g.z.2.2.2.toNat],0⟩) (fun g:ZG=>g.z=x.b.getD i noZ/\IsL w0 B 1 g.zo (g.z.2.1.map u8C)/\XsV w0 dx B g.zl g.z.2.2.1) ?_ ?_
   ·refine qz (b:=_) rfl (fun hb5=>?_) (fun hb5=>?_)
    ·try simp only[qG]at hb5
     have hi1:i<qs.length:=by omega
     obtain⟨lc,o,cc,hpe3⟩:=hqL.open (fun e=>by rw[Vz]at e;rw[e]at hi1;cases hi1);have hq2:=(hqL.mono hs_H).mono (Vj (b:=⟨[.int .u8 0, .nilSlice, .nilSlice, .int .u8 0],0⟩) hn_13q0);rw[hpe3]at hq2;obtain⟨g0,g1,g2,g3⟩:=z_at hq2 hi1;obtain⟨q,hqq⟩:∃q,q=qs.getD i qpb:=⟨_,rfl⟩
     rw[<-hqq]at g0 g1 g2 g3;have hqm:q∈qs:=by rw[hqq,Ko,JB hi1];exact Vw hi1
     obtain⟨hqo1,hqv⟩:=hqo q hqm;have hqol:=hqo1.live;have hqos:=hqo1.scal;have hqoc:=hqo1.cells;obtain⟨hqvl,hqvs,hqvc⟩:=hqv.shape;have hib:(0<=(i:Int)/\(i:Int)<(qs.length:Int))=True:=eq_true ⟨by omega,by omega⟩;have hx0:x.b.getD i noZ=q.1:=by rw[hqe,hqq,Ko,Ko,VA,JB hi1];rfl
     refine Qv [1,2,3,4,5,12,13,14,15] (by rfl) ?_;simp+decide only[Qe,QU,Xc,Jn,qcO,↓qh,↓qo,qf qlT,↓qc,↓qJ,qg Tryz.underlying29 qoz,Qa ag37 qoz,ne_13q0_0q0.symm,Qm eb_0q0,hpe3,g0,g1,g2,g3,hqol,hqvl,hib];refine qN (by rfl) (by rfl) zqA qoz (by rfl) (by rfl) zqD (Jq _) (by first|rfl|(simp+decide only[QI,BL,Yk,VN,qaA,Qt,hqos,hqvs])) ?_;simp only[QT,Bg];simp+decide only[qV,Xc,Jn,Nat.reduceAdd];try simp only[QL]
     first
     |exact⟨⟨q.1,q.2.1,q.2.2⟩,by first|rfl|(rw[hpe3];rfl),Vi _,hx0.symm,hqo1,hqv⟩
     |exact⟨⟨noZ, .nilSlice, .nilSlice⟩,rfl,Vi _,hxn.symm, .nil,qjB⟩
    ·try simp only[qG]at hb5
     have hxn:x.b.getD i noZ=noZ:=by rw[Ko,Kr (by omega)];rfl
     refine qF ?_;try simp only[QL]
     first
     |exact⟨⟨q.1,q.2.1,q.2.2⟩,by first|rfl|(rw[hpe3];rfl),Vi _,hx0.symm,hqo1,hqv⟩
     |exact⟨⟨noZ, .nilSlice, .nilSlice⟩,rfl,Vi _,hxn.symm, .nil,qjB⟩
   ·rintro⟨z,zo,zl⟩ ⟨hz,hzo,hzl⟩
    simp only at hz hzo hzl|-
    obtain⟨ZB,hZB⟩:∃ZB:Blk,ZB=⟨[.int .u8 z.1.toNat,zo,zl, .int .u8 z.2.2.2.toNat],0⟩:=⟨_,rfl⟩
    have hS5:=Eb hS hn_13q0 ZB;simp only[Xf]at hS5;obtain⟨H5,hH5⟩:∃H5,H5=H.set k13q0 ZB:=⟨_,rfl⟩
    rw[<-hH5]at hS5;refine BO (h':=H5) (by rw[hH5,hZB];exact Vi _) ?_;have hs_H5:AM.Sub B H5:=hS5.in_ (i:=0) rfl;have eb_b:=hS5.at_ (i:=1) rfl;have eb_0q0:H5 k0q0=some ⟨[.int .u8 x.verb.toNat,xp,xb, .bool x.cut],0⟩:=by rw[<-hX];exact hS5.at_ (i:=6) rfl
    have eb_13q0:H5 k13q0=some ⟨[.int .u8 z.1.toNat,zo,zl, .int .u8 z.2.2.2.toNat],0⟩:=by rw[<-hZB];exact hS5.at_ (i:=7) rfl
    have hb8:z.1.toNat<256:=z.1.toNat_lt;skip;refine awp_rseq [1,2,3,4,5,12,13,14,15,16] (by rfl) fun K hK=>?_;simp+decide only[qP,↓qa];apply hK;clear hK K;refine qi ?_;refine awp_rseq [1,2,3,4,5,12,13,14,15,16,115] (by rfl) fun K hK=>?_;simp+decide only[QK,qK,Qh,YG,↓qc,↓Qi,↓qd,nf];apply hK;clear hK K;refine Wo [1,2,3,4,5,12,13,14,15,16] (fun z2:Str=>[(1, .ptr (.own kb) 0),(2,fv),(3, .int .i64 depth),(4, .bool last),(5, .ptr (.own k0q0) 0),(12, .str seen),(13, .bool nb),(14, .int .i64 i),(15, .ptr (.own k13q0) 0),(16, .str z2)]) (fun z2:Str=>H5) (fun z2:Str=>z2=(if forms=[]then[]else forms.getD (z.1.toNat%forms.length) [])) ?_ ?_
    ·refine qz (b:=_) rfl (fun hb6=>?_) (fun hb6=>?_)
     ·try simp only[qG]at hb6
      have hf1:0<forms.length:=by omega
      have hfne:forms≠[]:=Bu.1 hf1;have hfn:=hFo.1;obtain⟨lf,of,cf,hfe⟩:=hF.open (fun e=>hfne (Vz.1 e));obtain⟨m,hm8⟩:∃m,m=z.1.toNat%forms.length:=⟨_,rfl⟩
      have hml:m<forms.length:=by rw[hm8];exact Km _ hf1
      have hF2:=hF.mono hs_H5;rw[hfe]at hF2;have ef:=frm_at hF2 hml;have hwb:IntKind.i64.wrap (z.1.toNat:Int)=(z.1.toNat:Int):=wrap_i64 (by omega) (by omega);have hrem:Ew (z.1.toNat:Int) (forms.length:Int)=(m:Int):=by rw[Ex (by omega),hm8];exact(Ey _ _).symm
      have hwm:IntKind.i64.wrap (m:Int)=(m:Int):=wrap_i64 (by omega) (by omega);have hmb:(0<=(m:Int)/\(m:Int)<(forms.length:Int))=True:=eq_true ⟨by omega,by omega⟩;refine Qv [1,2,3,4,5,12,13,14,15,16] (by rfl) ?_;simp+decide only[QK,QU,VD,qj,K6,Qh,Jn,XM,qad,↓qc,↓qh,fa37_0,↓qo,qf ag5,↓ZZ _ _ _ (Uo Tryz.underlying5 Tryz.underlying3),ZA Tryz.underlying5 Tryz.underlying3,↓Qi,QV Tryz.underlying22,↓qd,Qm eb_13q0,hfe,hwb,hrem];try simp+decide only[qP,QJ,Xc,Jn,Bi,↓qJ,qg Tryz.underlying22 sz9,↓qo,qf ag9,↓qa,ef,hmb]
      repeat (with_reducible refine zqP ?_)
      try simp only[QL]
      first
      |exact⟨[],rfl,Vi _,by rw[if_pos hfe0]⟩
      |exact⟨forms.getD m [],by first|rfl|(rw[hfe];simp only[Jn];rfl),Vi _,by rw[if_neg hfne,hm8]⟩
     ·try simp only[qG]at hb6
      have hfe0:forms=[]:=Kg (by omega);refine qF ?_;try simp only[QL]
      first
      |exact⟨[],rfl,Vi _,by rw[if_pos hfe0]⟩
      |exact⟨forms.getD m [],by first|rfl|(rw[hfe];simp only[Jn];rfl),Vi _,by rw[if_neg hfne,hm8]⟩
    ·rintro z2 hz2
     refine qi ?_;skip;refine awp_rseq [1,2,3,4,5,12,13,14,15,16,129] (by rfl) fun K hK=>?_;simp+decide only[Xk,qK,XL,QS,XA,↓qc,↓Qy,↓Qn,↓Qd];apply hK;clear hK K;refine Wo [1,2,3,4,5,12,13,14,15,16] (fun form:Str=>[(1, .ptr (.own kb) 0),(2,fv),(3, .int .i64 depth),(4, .bool last),(5, .ptr (.own k0q0) 0),(12, .str seen),(13, .bool nb),(14, .int .i64 i),(15, .ptr (.own k13q0) 0),(16, .str form)]) (fun form:Str=>H5) (fun form:Str=>form=qjc b.cur.verb forms z i) ?_ ?_
     ·refine qz (b:=_) rfl (fun hb7=>?_) (fun hb7=>?_)
      ·try simp only[qG]at hb7
       have hfB:∀w,(if b.cur.verb=IFv then Yh else XT)=w->qjc b.cur.verb forms z i=w:=fun w hw=>by
        unfold qjc;rw[if_pos ⟨by rw[hvb,<-hnb];exact hb7.1,by omega⟩];exact hw
       refine awp_rseq [1,2,3,4,5,12,13,14,15,16] (by rfl) fun K hK=>?_;simp+decide only[qP,↓qa];apply hK;clear hK K;refine awp_rseq [1,2,3,4,5,12,13,14,15,16,135] (by rfl) fun K hK=>?_;simp+decide only[Xj,QU,Qs,Xh,Xn,Zd,WE,qag,↓qc,↓Qf,↓qh,↓qo,qf ag9,↓qd,Qm eb_b,Nat.reduceAdd];apply hK;clear hK K;refine qz (b:=_) rfl (fun hb8=>?_) (fun hb8=>?_)
       ·try simp only[qG]at hb8
        refine Qv [1,2,3,4,5,12,13,14,15,16] (by rfl) ?_;simp+decide only[qP,↓qa];try simp only[QL]
        first
        |exact⟨z2,rfl,Vi _,hfB.symm⟩
        |exact⟨Yh,rfl,Vi _,(hfB _ (if_pos hb8)).symm⟩
        |exact⟨XT,rfl,Vi _,(hfB _ (if_neg hb8)).symm⟩
       ·try simp only[qG]at hb8
        refine qF ?_;try simp only[QL]
        first
        |exact⟨z2,rfl,Vi _,hfB.symm⟩
        |exact⟨Yh,rfl,Vi _,(hfB _ (if_pos hb8)).symm⟩
        |exact⟨XT,rfl,Vi _,(hfB _ (if_neg hb8)).symm⟩
      ·try simp only[qG]at hb7
       have hfB:qjc b.cur.verb forms z i=z2:=by
        unfold qjc;rw[if_neg (by rw[hvb,<-hnb];rintro⟨h1,h2⟩;rcases hb7 with c|c;rw[h1]at c;cases c;omega),hz2]
       refine qF ?_;try simp only[QL]
       first
       |exact⟨z2,rfl,Vi _,hfB.symm⟩
       |exact⟨Yh,rfl,Vi _,(hfB _ (if_pos hb8)).symm⟩
       |exact⟨XT,rfl,Vi _,(hfB _ (if_neg hb8)).symm⟩
     ·rintro form hform
      have hfo:form.length<=500/\asciiB form=true:=by
       rw[hform];unfold qjc;split
       ·split
        ·exact⟨by decide,by decide⟩
        ·exact⟨by decide,by decide⟩
       ·split
        ·exact⟨by decide,rfl⟩
        ·rename_i hfne
         refine hFo.2 _ ?_;have hml:z.1.toNat%forms.length<forms.length:=Km _ (Bu.2 hfne);rw[Ko,JB hml];exact Vw hml
      obtain⟨name,hname⟩:∃name,name=qcS form:=⟨_,rfl⟩
      have hnl:name.length<=251001:=by rw[hname];exact qsS hfo.1
      have hstep:ZY (XY f) x forms depth last (b,seen) i=if qmk seen form name=true then(b,seen)else(qhF (XY f) (qds b (qjZ form name z)) name (qoZ name z) z.2.2.1 depth (last && (decide (i=3)||decide (x.b.length<=i+1))),seen++[59]++name++[59]):=by
       unfold ZY;simp only;rw[<-hz,<-hform,<-hname]
      rw[hstep]at hg;refine awp_rseq [1,2,3,4,5,12,13,14,15,16,17] (by rfl) fun K hK=>?_;simp+decide only[Qe,↓qc];refine qE (by rfl) (by rfl) (qlb w0 ha _ form hfo.1 hfo.2) fun x23q1 h23q1 hx23q1=>?_;obtain⟨rfl,hs23⟩:=hx23q1;rw[<-hname];have hs_h23q1:Sub B h23q1:=Br zqC hs23;have hr_h23q1:Sub H5 h23q1:=Br zqC hs23;have eb_b:=hs23 kb _ zqA;have eb_0q0:=hs23 k0q0 _ zqA;have eb_13q0:=hs23 k13q0 _ zqA;simp+decide only[qP,↓qa];apply hK;clear hK K;refine qi ?_;have hS6:=hS5.forget hs23;have hs_H6:AM.Sub B h23q1:=hS6.in_ (i:=0) rfl;have eb_b:=hS6.at_ (i:=1) rfl;have eb_0q0:h23q1 k0q0=some ⟨[.int .u8 x.verb.toNat,xp,xb, .bool x.cut],0⟩:=by rw[<-hX];exact hS6.at_ (i:=6) rfl
      have eb_13q0:h23q1 k13q0=some ⟨[.int .u8 z.1.toNat,zo,zl, .int .u8 z.2.2.2.toNat],0⟩:=by rw[<-hZB];exact hS6.at_ (i:=7) rfl
      have hwi:IntKind.i64.wrap ((i:Int)+1)=((i+1:Nat):Int):=by rw[wrap_i64 (by omega) (by omega)];omega
      refine awp_rseq [1,2,3,4,5,12,13,14,15,16,17,154] (by rfl) fun K hK=>?_;simp+decide only[Xj,XF,qj,JD,Xt,KX,YJ,Jb,Yy,Qs,QS,Xn,Zd,ZO,qac,↓qc,↓qd,↓Qy,↓Qn];repeat (with_reducible refine zqP ?_)
      (refine We (V:= .bool (Lib.contains seen (semiW name))) (f:=_) (cap:=_) (xs:=_) (by first|rfl|(simp+decide only[QI,VZ,gv,nthDst,Zy,Zw])) (fun hg=>⟨rfl,?_⟩) (fun hg=>WA w0 hm _ seen _ (by omega)) ?_;· (simp+decide only[QI,qaT,Xt,VH]at hg;simp+decide only[QI,Zr,absS,absV,XH,QW,evs,JE,hg]<;>try rfl))
      simp+decide only[Qe,XF,JD,Xt,KX,qew,Jb,Yy,qbz,qby,↓UE,↓Qd,↓qc,↓Qy]
      (refine We (V:= .bool (Lib.contains seen (semiW qgI))) (f:=_) (cap:=_) (xs:=_) (by first|rfl|(simp+decide only[QI,VZ,gv,nthDst,Zy,Zw])) (fun hg=>⟨rfl,?_⟩) (fun hg=>WA w0 hm _ seen _ (by omega)) ?_;· (simp+decide only[QI,qaT,Xt,VH]at hg;simp+decide only[QI,Zr,absS,absV,XH,QW,evs,JE,hg]<;>try rfl))
      simp+decide only[qV,JD,Xt,KX,YS,Jb,↓Qd];apply hK;clear hK K;refine qz (b:=_) rfl (fun hb9=>?_) (fun hb9=>?_)
      ·try simp only[qG]at hb9
       have hsk:qmk seen form name=true:=by
        unfold qmk;simp only[Ky,decide_eq_true_eq,Jh,Bool.or_eq_true,decide_eq_false_iff_not];rcases hb9 with(h|h)|h
        ·exact .inl h
        ·exact .inr (.inl h)
        ·exact .inr (.inr h)
       rw[if_pos hsk]at hg;refine Qk ?_;change Awp _ _ _ _ _ _ _;refine Qv [1,2,3,4,5,12,13,14] (by rfl) ?_;simp+decide only[XD,Xi,↓qc,↓qd,↓qa,hwi];try simp only[QL]
       first
       |exact⟨⟨i+1,b,seen,bv,bp,E,_⟩,rfl,Vi _,⟨hS6.pick [0,1,2,3,4,5,6] (by decide) (by simp),hc,hiN1,hg,by simp only;omega,by simp only;omega,hvb⟩,by simp only;omega⟩
       |exact⟨⟨i+1,b',seen++[59]++name++[59],bv2,bp2,E2,_⟩,rfl,Vi _,⟨hS11.pick [0,2,3,4,5,6,1] (by decide) (by simp),hc10,hiN1,hg,hbn2,by simp only[QF,Jb];omega,hvb2.trans hvb⟩,by simp only;omega⟩
      ·try simp only[qG]at hb9
       have hsk:qmk seen form name=false:=by
        unfold qmk;simp only[decide_eq_true_eq,decide_eq_false_iff_not,Bool.or_eq_false_iff,Bool.not_eq_false',Bool.and_eq_false_iff];exact⟨hb9.1.1,hb9.1.2,hb9.2⟩
       rw[if_neg (by rw[hsk];decide)]at hg;have hbq:nb=true\/forms≠[]:=by
        by_cases hfq:forms=[]
        ·refine .inl ?_
         cases hnq:nb with
         |true=>rfl
         |false=>
          refine absurd ?_ hb9.1.1;rw[hform,qjc,if_neg (by rw[hvb,<-hnb,hnq];exact fun e=>Bool.false_ne_true e.1),if_pos hfq]
        ·exact .inr hfq
       obtain⟨ops,hops⟩:∃ops,ops=qoZ name z:=⟨_,rfl⟩
       obtain⟨hopl,hopa⟩:=opsB_ok name z;rw[<-hops]at hopl hopa;obtain⟨tx,htx⟩:∃tx,tx=qjZ form name z:=⟨_,rfl⟩
       have htxl:=textB_len hfo.1 name z;rw[<-htx]at htxl;rw[<-hops,<-htx]at hg;refine qF ?_;change Awp _ _ _ _ _ _ _;refine awp_rseq [1,2,3,4,5,12,13,14,15,16,17] (by rfl) fun K hK=>?_;simp+decide only[ZR,qj,QF,Jb,ZE,ZO,↓qc,↓qd,↓qa];repeat (with_reducible refine zqP ?_)
       apply hK;clear hK K;refine awp_rseq [1,2,3,4,5,12,13,14,15,16,17,18] (by rfl) fun K hK=>?_;simp+decide only[qP,↓qa];apply hK;clear hK K;refine qi ?_;refine awp_rseq [1,2,3,4,5,12,13,14,15,16,17,18,161] (by rfl) fun K hK=>?_;simp+decide only[Xj,ZE,Zd,↓qc,↓qd];apply hK;clear hK K;refine Wo [1,2,3,4,5,12,13,14,15,16,17,18] (fun g:StH=>[(1, .ptr (.own kb) 0),(2,fv),(3, .int .i64 depth),(4, .bool last),(5, .ptr (.own k0q0) 0),(12, .str (seen++[59]++name++[59])),(13, .bool nb),(14, .int .i64 i),(15, .ptr (.own k13q0) 0),(16, .str form),(17, .str name),(18, .str g.f)]) (fun g:StH=>g.H) (fun g:StH=>g.f=ops/\AM.Sub h23q1 g.H) ?_ ?_
       ·refine qz (b:=_) rfl (fun hb10=>?_) (fun hb10=>?_)
        ·try simp only[qG]at hb10
         have hzol:=hzo.live;have hwE:∀w,(if Yb z.2.1=[]then[32,49]else Yb z.2.1)=w->w=ops:=fun w hw=>by rw[hops,qoZ,if_pos (show name=XT from hb10),hw]
         refine awp_rseq [1,2,3,4,5,12,13,14,15,16,17,18] (by rfl) fun K hK=>?_;simp+decide only[qV,QU,↓qh,fa37_1,↓qo,qf ag32,Qm eb_13q0,hzol];refine qE (by rfl) (by rfl) (qkZ w0 _ zo z.2.1 (hzo.mono hs_H6)) fun x28q2 h28q2 hx28q2=>?_;obtain⟨rfl,hs28⟩:=hx28q2;have hs_h28q2:Sub B h28q2:=Br zqC hs28;have hr_h28q2:Sub h23q1 h28q2:=Br zqC hs28;have eb_b:=hs28 kb _ zqA;have eb_0q0:=hs28 k0q0 _ zqA;have eb_13q0:=hs28 k13q0 _ zqA;simp+decide only[qP,↓qa];apply hK;clear hK K;refine awp_rseq [1,2,3,4,5,12,13,14,15,16,17,18,166] (by rfl) fun K hK=>?_;simp+decide only[Xj,ZE,Zd,↓qc,↓qd];apply hK;clear hK K;refine qz (b:=_) rfl (fun hb11=>?_) (fun hb11=>?_)
         ·try simp only[qG]at hb11
          refine Qv [1,2,3,4,5,12,13,14,15,16,17,18] (by rfl) ?_;simp+decide only[qP,↓qa];try simp only[QL]
          first
          |exact⟨⟨[32,49],_⟩,rfl,Vi _,hwE _ (if_pos hb11),hs28⟩
          |exact⟨⟨Yb z.2.1,_⟩,rfl,Vi _,hwE _ (if_neg hb11),hs28⟩
          |exact⟨⟨[],_⟩,rfl,Vi _,ho0,Vi _⟩
         ·try simp only[qG]at hb11
          refine qF ?_;try simp only[QL]
          first
          |exact⟨⟨[32,49],_⟩,rfl,Vi _,hwE _ (if_pos hb11),hs28⟩
          |exact⟨⟨Yb z.2.1,_⟩,rfl,Vi _,hwE _ (if_neg hb11),hs28⟩
          |exact⟨⟨[],_⟩,rfl,Vi _,ho0,Vi _⟩
        ·try simp only[qG]at hb10
         have ho0:([]:Str)=ops:=by rw[hops,qoZ,if_neg (show ¬name=XT from fun e=>hb10 e)]
         refine qF ?_;try simp only[QL]
         first
         |exact⟨⟨[32,49],_⟩,rfl,Vi _,hwE _ (if_pos hb11),hs28⟩
         |exact⟨⟨Yb z.2.1,_⟩,rfl,Vi _,hwE _ (if_neg hb11),hs28⟩
         |exact⟨⟨[],_⟩,rfl,Vi _,ho0,Vi _⟩
       ·rintro⟨o,H10⟩ ⟨ho,hs10⟩
        simp only at ho hs10|-
        subst ho;have hS7:=hS6.forget hs10;have hs_H10:AM.Sub B H10:=hS7.in_ (i:=0) rfl;have eb_b:=hS7.at_ (i:=1) rfl;have eb_0q0:H10 k0q0=some ⟨[.int .u8 x.verb.toNat,xp,xb, .bool x.cut],0⟩:=by rw[<-hX];exact hS7.at_ (i:=6) rfl
        have eb_13q0:H10 k13q0=some ⟨[.int .u8 z.1.toNat,zo,zl, .int .u8 z.2.2.2.toNat],0⟩:=by rw[<-hZB];exact hS7.at_ (i:=7) rfl
        skip;refine awp_rseq [1,2,3,4,5,12,13,14,15,17,18,19] (by rfl) fun K hK=>?_;simp+decide only[Qe,QU,↓qc,↓qh,fa37_3,↓qo,qf ag5,Qm eb_13q0];refine qE (by rfl) (by rfl) (qnZ w0 ha _ form z.2.2.2 true hfo.1 hfo.2) fun x31q3 h31q3 hx31q3=>?_;obtain⟨rfl,hs31⟩:=hx31q3;have hs_h31q3:Sub B h31q3:=Br zqC hs31;have hr_h31q3:Sub H10 h31q3:=Br zqC hs31;have eb_b:=hs31 kb _ zqA;have eb_0q0:=hs31 k0q0 _ zqA;have eb_13q0:=hs31 k13q0 _ zqA;simp+decide only[qP,↓qa];apply hK;clear hK K;refine qi ?_;have hS8:=hS7.forget hs31;have hs_H11:AM.Sub B h31q3:=hS8.in_ (i:=0) rfl;have eb_b:=hS8.at_ (i:=1) rfl;have eb_0q0:h31q3 k0q0=some ⟨[.int .u8 x.verb.toNat,xp,xb, .bool x.cut],0⟩:=by rw[<-hX];exact hS8.at_ (i:=6) rfl
        have eb_13q0:h31q3 k13q0=some ⟨[.int .u8 z.1.toNat,zo,zl, .int .u8 z.2.2.2.toNat],0⟩:=by rw[<-hZB];exact hS8.at_ (i:=7) rfl
        have hz8:z.2.2.2.toNat<256:=z.2.2.2.toNat_lt;obtain⟨k2,hk2⟩:∃k2,k2=z.2.2.2.toNat%2:=⟨_,rfl⟩
        have hrem2:Ew (z.2.2.2.toNat:Int) 2=(k2:Int):=by rw[Ex (by omega),hk2];exact(Ey _ 2).symm
        have hwu2:IntKind.u8.wrap (k2:Int)=(k2:Int):=wrap_u8 (by omega) (by omega);refine awp_rseq [1,2,3,4,5,12,13,14,15,17,18,19,178] (by rfl) fun K hK=>?_;simp+decide only[Xk,XI,XL,Qs,QS,Xn,XA,Ze,Zd,Zt,ZF,qad,↓qc,↓qd,↓QM,fa37_3,↓Xv,qf ag5,↓Qn,↓Qd,Qm eb_13q0,hrem2];apply hK;clear hK K;refine Wo [1,2,3,4,5,12,13,14,15,17,18,19] (fun t:Str=>[(1, .ptr (.own kb) 0),(2,fv),(3, .int .i64 depth),(4, .bool last),(5, .ptr (.own k0q0) 0),(12, .str (seen++[59]++name++[59])),(13, .bool nb),(14, .int .i64 i),(15, .ptr (.own k13q0) 0),(17, .str name),(18, .str o),(19, .str t)]) (fun t:Str=>h31q3) (fun t:Str=>t=tx) ?_ ?_
        ·refine qz (b:=_) rfl (fun hb12=>?_) (fun hb12=>?_)
         ·try simp only[qG]at hb12
          have htE:([]:Str)=tx:=by rw[htx,qjZ,if_pos (show name=Yh/\z.2.2.2.toNat%2=1 from⟨hb12.1,by omega⟩)]
          refine Qv [1,2,3,4,5,12,13,14,15,17,18,19] (by rfl) ?_;simp+decide only[qP,↓qa];try simp only[QL]
          exact⟨_,rfl,Vi _,htE⟩
         ·try simp only[qG]at hb12
          have htE:qaa form z.2.2.2 true=tx:=by
           rw[htx,qjZ,if_neg];rintro⟨h1,h2⟩;rcases hb12 with c|c
           ·exact c h1
           ·omega
          refine qF ?_;try simp only[QL]
          exact⟨_,rfl,Vi _,htE⟩
        ·rintro t rfl
         obtain⟨lb,hlb⟩:∃lb,lb=(last && (decide (i=3)||decide (x.b.length<=i+1))):=⟨_,rfl⟩
         rw[<-hlb]at hg;obtain⟨b',hb'⟩:∃b',b'=qhF (XY f) (qds b t) name o z.2.2.1 depth lb:=⟨_,rfl⟩
         rw[<-hb']at hg;have hpre:b'.text<+:R.text:=by rw[hg];exact qib _ _ _ _ _ _ (b',_)
         have hlen:=hpre.length_le;have hpre2:b.text++[32]++t<+:b'.text:=by rw[hb'];exact qku _ (qds b t) _ _ _ _ _
         have hlen2:=hpre2.length_le;simp only[QF,Jb]at hlen2;have hS8a:AM.Sep ([B,pp,tp,bp,E,one k0q0 X,one k13q0 ZB]++[one kb (buB b.text b.cur pv bv)]) h31q3:=hS8.pick [0,2,3,4,5,6,7,1] (by decide) (by simp);have hS8b:=hS8a.fold;refine awp_rseq [1,2,3,4,5,12,13,14,15,17,18] (by rfl) fun K hK=>?_;simp+decide only[Qe,↓qc];refine qE (by rfl) (by rfl) (qoa w0 (Wl [B,pp,tp,bp,E,one k0q0 X,one k13q0 ZB]) h31q3 kb b.text t b.cur pv bv hS8b (by omega) (by omega)) fun x34q2 h34q2 hx34q2=>?_;have hS9:=EF hS8a.left hx34q2;simp only[Xf]at hS9;have hs_H12:AM.Sub B h34q2:=hS9.in_ (i:=0) rfl;simp+decide only[qV];apply hK;clear hK K;have eb_b:=hS9.at_ (i:=7) rfl;have eb_0q0:h34q2 k0q0=some ⟨[.int .u8 x.verb.toNat,xp,xb, .bool x.cut],0⟩:=by rw[<-hX];exact hS9.at_ (i:=5) rfl
         have eb_13q0:h34q2 k13q0=some ⟨[.int .u8 z.1.toNat,zo,zl, .int .u8 z.2.2.2.toNat],0⟩:=by rw[<-hZB];exact hS9.at_ (i:=6) rfl
         have hzll:=hzl.shape.1;have hwl:IntKind.i64.wrap ((qs.length:Int)-1)=(qs.length:Int)-1:=wrap_i64 (by omega) (by omega);have hS9c:AM.Sep ([B,one k0q0 X]++[one kb (buB (b.text++[32]++t) b.cur pv bv),pp,tp,bp,E]) h34q2:=hS9.pick [0,5,7,1,2,3,4] (by decide) (by simp);have hS9d:=hS9c.fold;have hBu2:=Xy (ps:=[B,one k0q0 X]) (hS9.pick [0,5] (by decide) (by simp)).2;have hlbI:(last && (decide ((i:Int)=3)||decide ((qs.length:Int)-1<=(i:Int))))=lb:=by
          have h1:decide ((i:Int)=3)=decide (i=3):=by rw[decide_eq_decide];omega
          have h2:decide ((qs.length:Int)-1<=(i:Int))=decide (qs.length<=i+1):=by rw[decide_eq_decide];omega
          rw[hlb,hpl,h1,h2]
         refine Qv [1,2,3,4,5,12,13,14] (by rfl) ?_;simp+decide only[Xk,XI,qj,ZH,Yl,QS,XA,Ze,Zt,ZF,WW,qcO,qbz,qby,qfm,qfl,↓qc,↓qh,qkT,↓qo,qf ag35,↓Qy,↓Qn,↓QM,↓Xv,qf qlT,↓qbW,qrY,↓UE,↓Qd,Qm eb_0q0,Qm eb_13q0,nz,hzll,hwl,hlbI];repeat (with_reducible refine zqP ?_)
         refine qE (by rfl) (by rfl) (c_body w0 hm ha (Wl [B,one k0q0 X]) h34q2 kb f dx depth (qds b t) pv bv zl pp tp bp E z.2.2.1 name o lb ⟨hS9d,hc⟩ (hzl.mono (hBu2 B (by simp))) (by rw[hz];exact hsmG i) (hb (.inr (by rw[<-hnb];exact hbq))) hd hopl hopa (by show b.cur.bodies.length<=10;omega) (by rw[<-hb'];omega)) fun x35q19 h35q19 hx35q19=>?_;rw[<-hb']at hx35q19;obtain⟨bv2,bp2,E2,hS10,hc10⟩:=hx35q19;have hS11:=EF hS9c.left hS10;simp only[Xf]at hS11;have hs_35:AM.Sub B h35q19:=hS11.in_ (i:=0) rfl;have hbn2:b'.cur.bodies.length<=i+1:=by rw[hb'];show(b.cur.bodies++[_]).length<=i+1;rw[Jb,JF];omega
         have hvb2:b'.cur.verb=(b).cur.verb:=by rw[hb'];rfl
         simp+decide only[qV];change Awp _ _ _ _ _ _ _;refine Qv [1,2,3,4,5,12,13,14] (by rfl) ?_;simp+decide only[XD,Xi,↓qc,↓qd,↓qa,hwi];try simp only[QL]
         first
         |exact⟨⟨i+1,b,seen,bv,bp,E,_⟩,rfl,Vi _,⟨hS6.pick [0,1,2,3,4,5,6] (by decide) (by simp),hc,hiN1,hg,by simp only;omega,by simp only;omega,hvb⟩,by simp only;omega⟩
         |exact⟨⟨i+1,b',seen++[59]++name++[59],bv2,bp2,E2,_⟩,rfl,Vi _,⟨hS11.pick [0,2,3,4,5,6,1] (by decide) (by simp),hc10,hiN1,hg,hbn2,by simp only[QF,Jb];omega,hvb2.trans hvb⟩,by simp only;omega⟩
  ·try simp only[qG]at hb4
   have hiNe:i=N:=by
    have:¬i<N:=by
     rw[hNi];rintro⟨h1,h2⟩;rcases hb4 with z|⟨z1,z2⟩
     ·omega
     ·rcases h2 with h2|⟨h2,h3⟩
      ·omega
      ·rcases z2 with z2|z2
       ·rw[h2]at z2;cases z2
       ·omega
    omega
   have hRb:R=b:=by
    rw[hg,hiNe,Bl (by rw[EI];exact KL _)];rfl
   refine Qk ?_;try simp only[QL,qjY,qgf]
   refine qai (qC) ?_;exact⟨_,Vi _,bv,bp,E,by rw[hRb];exact⟨hS.pick [0,1,2,3,4,5] (by decide) (by simp),hc⟩⟩
end Go.Proofs.YtgiadjbiimkbiaaGreatDoor
namespace Go.Stm
open Go.Col (Str)
open Go.Tok
open Go.Proofs.YtgiadjbiimkbiaaGreatDoor (asciiB qfV)
set_option maxRecDepth 100000
def qnG(s:Str):Bool:=decide ((qam s).length<=1000) && (qam s).all fun f=>decide (f.length<=500) && asciiB f
def rowB(k:Nat):Bool:=let r:=Xr 58 [] (rowsT.getD k []);decide (r.length=3) && (decide ((r.getD 0 []).length<=20) && (decide ((r.getD 1 []).length<=500) && (decide ((r.getD 2 []).length<=500) && (qnG (r.getD 1 []) && (qnG (r.getD 2 []) && (asciiB (r.getD 0 []) && decide ((rowsT.getD k []).length<=500)))))))
theorem rows_B:((KP 39).all rowB)=true:=by decide+kernel
theorem qpo{s:Str}(h:qnG s=true):qfV (qam s):=by
 simp only[Us,Jz,qnG]at h;exact⟨h.1,fun f hf=>h.2 f hf⟩
theorem row_facts{k:Nat}(hk:k<39):∃a b c,Xr 58 [] (rowsT.getD k [])=[a,b,c]/\a.length<=20/\b.length<=500/\c.length<=500/\qfV (qam b)/\qfV (qam c)/\asciiB a=true/\(rowsT.getD k []).length<=500:=by
 have h:=Jz.1 rows_B k (List.mem_range.2 hk);unfold rowB at h;generalize Xr 58 [] (rowsT.getD k [])=r at h|-
 simp only[Us]at h;obtain⟨h1,h2,h3,h4,h5,h6,h7,h8⟩:=h;match r,h1 with
 |[a,b,c],_=>exact⟨a,b,c,rfl,h2,h3,h4,qpo h5,qpo h6,h7,h8⟩
def MOVEv:Str:=[77,79,86,69]
theorem row_21:Xr 58 [] (rowsT.getD 21 [])=[MOVEv,TOw,[]]:=by decide+kernel
theorem qnt(forms:List Str)(b:BuC)(y:YC):(Zg forms b y).cur.verb=b.cur.verb/\(Zg forms b y).cur.bodies=b.cur.bodies/\(Zg forms b y).cur.line=b.cur.line/\(Zg forms b y).cur.col=b.cur.col:=by
 unfold Zg;simp only;split<;>exact⟨rfl,rfl,rfl,rfl⟩
theorem qgW(forms:List Str):∀(l:List YC) (b:BuC),(l.foldl (Zg forms) b).cur.verb=b.cur.verb/\(l.foldl (Zg forms) b).cur.bodies=b.cur.bodies/\(l.foldl (Zg forms) b).cur.line=b.cur.line/\(l.foldl (Zg forms) b).cur.col=b.cur.col
 |[],b=>⟨rfl,rfl,rfl,rfl⟩
 |y::l,b=>by
  obtain⟨a1,a2,a3,a4⟩:=qnt forms b y;obtain⟨b1,b2,b3,b4⟩:=qgW forms l (Zg forms b y);exact⟨b1.trans a1,b2.trans a2,b3.trans a3,b4.trans a4⟩
theorem qlI(x:XC)(b:BuC)(forms:List Str):(YZ x b forms).cur.verb=b.cur.verb/\(YZ x b forms).cur.bodies=b.cur.bodies/\(YZ x b forms).cur.line=b.cur.line/\(YZ x b forms).cur.col=b.cur.col:=by
 unfold YZ;simp only;split
 ·exact⟨rfl,rfl,rfl,rfl⟩
 ·obtain⟨b1,b2,b3,b4⟩:=qgW forms ((x.p.take 5).drop 1) {qds b (UK x b.cur.verb)with cur:={(qds b (UK x b.cur.verb)).cur with phrases:=[⟨[],Qz (UK x b.cur.verb)⟩]}}
  exact⟨b1,b2,b3,b4⟩
theorem pre_addW(b:BuC)(w:Str):b.text<+:(qds b w).text:=by
 show b.text<+:b.text++[32]++w
 rw[K9];exact Er _ _
theorem qrO(B:List XC->Nat->Bool->Str×List StC)(x:XC)(b:BuC)(forms:List Str)(depth:Nat)(last:Bool):b.text<+:(WP B x b forms depth last).text:=by
 unfold WP;simp only;split
 ·split
  ·exact qku _ _ _ _ _ _ _
  ·exact Ep _
 ·exact qib B x forms depth last _ (b,[])
theorem qlR(B:List XC->Nat->Bool->Str×List StC)(x:XC)(forms:List Str)(depth:Nat)(last:Bool)(s:BuC×Str)(i:Nat):(ZY B x forms depth last s i).1.cur.verb=s.1.cur.verb/\(ZY B x forms depth last s i).1.cur.phrases=s.1.cur.phrases/\(ZY B x forms depth last s i).1.cur.line=s.1.cur.line/\(ZY B x forms depth last s i).1.cur.col=s.1.cur.col:=by
 unfold ZY;simp only;split<;>exact⟨rfl,rfl,rfl,rfl⟩
theorem qkh(B:List XC->Nat->Bool->Str×List StC)(x:XC)(forms:List Str)(depth:Nat)(last:Bool):∀(l:List Nat) (s:BuC×Str),(l.foldl (ZY B x forms depth last) s).1.cur.verb=s.1.cur.verb/\(l.foldl (ZY B x forms depth last) s).1.cur.phrases=s.1.cur.phrases/\(l.foldl (ZY B x forms depth last) s).1.cur.line=s.1.cur.line/\(l.foldl (ZY B x forms depth last) s).1.cur.col=s.1.cur.col
 |[],s=>⟨rfl,rfl,rfl,rfl⟩
 |i::l,s=>by
  obtain⟨a1,a2,a3,a4⟩:=qlR B x forms depth last s i;obtain⟨b1,b2,b3,b4⟩:=qkh B x forms depth last l (ZY B x forms depth last s i);exact⟨b1.trans a1,b2.trans a2,b3.trans a3,b4.trans a4⟩
theorem qod(B:List XC->Nat->Bool->Str×List StC)(x:XC)(b:BuC)(forms:List Str)(depth:Nat)(last:Bool):(WP B x b forms depth last).cur.verb=b.cur.verb/\(WP B x b forms depth last).cur.phrases=b.cur.phrases/\(WP B x b forms depth last).cur.line=b.cur.line/\(WP B x b forms depth last).cur.col=b.cur.col:=by
 unfold WP;simp only;split
 ·split<;>exact⟨rfl,rfl,rfl,rfl⟩
 ·exact qkh _ _ _ _ _ _ _
theorem qrs(ops:List UInt8):(Qz (Yb ops)).length<=17:=by
 have:=(Go.Proofs.YtgiadjbiimkbiaaGreatDoor.lawToks_16 (Yb ops) (Go.Stm.wordsE_ok ops).1)
 exact this
theorem qiS(forms:List Str):∀(l:List YC) (b:BuC) (n m:Nat),b.cur.phrases.length<=n->(∀p∈b.cur.phrases,p.toks.length<=m)->b.cur.phrases≠[]->(l.foldl (Zg forms) b).cur.phrases.length<=n+l.length/\∀p∈(l.foldl (Zg forms) b).cur.phrases,p.toks.length<=m+17*l.length
 |[],b,n,m,h1,h2,_=>⟨h1,h2⟩
 |y::l,b,n,m,h1,h2,h3=>by
  have ht:=qrs y.ops;have hs:(Zg forms b y).cur.phrases.length<=n+1/\(∀p∈(Zg forms b y).cur.phrases,p.toks.length<=m+17)/\(Zg forms b y).cur.phrases≠[]:=by
   have hp:=Bu.2 h3;unfold Zg;simp only;split
   ·refine⟨?_,fun p hp=>?_,?_⟩
    ·simp only[Jb,JF,qeE,List.length_dropLast]
     have e:(qds b (qaa (forms.getD (y.form.toNat%forms.length) []) y.short true++Yb y.ops)).cur.phrases=b.cur.phrases:=rfl;rw[e];omega
    ·have e:(qds b (qaa (forms.getD (y.form.toNat%forms.length) []) y.short true++Yb y.ops)).cur.phrases=b.cur.phrases:=rfl
     rw[e]at hp;simp only[qeE]at hp;rcases JV.1 hp with z|z
     ·have:=h2 p (List.dropLast_subset _ z);omega
     ·rw[V4.1 z]
      have:=h2 (b.cur.phrases.getLastD ⟨[],[]⟩) (by
       rw[BQ,List.getLast?_eq_some_getLast h3];exact List.getLast_mem h3)
      simp only[Jb];omega
    ·simp[qeE]
   ·have e:(qds b (qaa (forms.getD (y.form.toNat%forms.length) []) y.short true++Yb y.ops)).cur.phrases=b.cur.phrases:=rfl
    refine⟨by rw[e,Jb,JF];omega,fun p hp=>?_,by rw[e];simp⟩;rw[e]at hp;rcases JV.1 hp with z|z
    ·have:=h2 p z;omega
    ·rw[V4.1 z];simp only;omega
  obtain⟨a,c⟩:=qiS forms l (Zg forms b y) (n+1) (m+17) hs.1 hs.2.1 hs.2.2;rw[KX];exact⟨by rw[Et];omega,fun p hp=>by have:=c p hp;omega⟩
theorem firstE_16(x:XC)(verb:Str):(UK x verb).length<=16:=by
 have h:(if x.p=[]then[]else Yb (x.p.getD 0 noY).ops).length<=16:=by
  split
  ·exact Jq _
  ·exact(wordsE_ok _).1
 unfold UK;simp only;by_cases hc:verb=IFv/\(if x.p=[]then[]else Yb (x.p.getD 0 noY).ops)=[]
 ·rw[if_pos hc];exact(by decide:2<=16)
 ·rw[if_neg hc];exact h
theorem qns(x:XC)(b:BuC)(forms:List Str):(YZ x b forms).cur.phrases.length<=10/\∀p∈(YZ x b forms).cur.phrases,p.toks.length<=100:=by
 have h0:(Qz (UK x b.cur.verb)).length<=17:=Go.Proofs.YtgiadjbiimkbiaaGreatDoor.lawToks_16 _ (firstE_16 x _);unfold YZ;simp only;split
 ·exact⟨by simp,fun p hp=>by rw[V4.1 hp];simp only;omega⟩
 ·have hl:((x.p.take 5).drop 1).length<=4:=by rw[K5,K4];omega
  obtain⟨a,c⟩:=qiS forms ((x.p.take 5).drop 1) {qds b (UK x b.cur.verb)with cur:={(qds b (UK x b.cur.verb)).cur with phrases:=[⟨[],Qz (UK x b.cur.verb)⟩]}} 1 17 (by simp) (fun p hp=>by rw[V4.1 hp];exact h0) (by simp);exact⟨Ve a (by omega),fun p hp=>Ve (c p hp) (by omega)⟩
end Go.Stm
namespace Go.Proofs.YtgiadjbiimkbiaaGreatDoor
open Go.AM
open Go.Proofs
open Go.Col (Str FaultC okF)
open Go.Tok (TokC)
open Go.Stm
open Go.RowKit (Below)
set_option maxRecDepth 100000
theorem qfw{B h:AHeap}{k:Nat}{X:Blk}(hs:AM.Sub B h)(hk:h k=some X):AM.Sub (B.set k X) h:=fun j c hj=>by
 by_cases e:j=k
 ·subst e
  rw[Vh]at hj;cases hj;exact hk
 ·rw[Vg _ _ e]at hj
  exact hs j c hj
theorem CurS.upN{w0:World}{f:Nat}{c:Cur}{pv:AVal}{pp tp E:AHeap}(hc:CurS w0 0 c pv .nilSlice pp tp emp E)(hb:c.bodies=[]):CurS w0 f c pv .nilSlice pp tp emp E:=
 ⟨hc.ph,⟨[],by rw[hb];rfl, .nil,fun b hb=>by cases hb⟩⟩
set_option maxHeartbeats 16000000 in
theorem c_xbuild(w0:World)(hm:MaxL w0)(ha:Asp w0)(h:AHeap)(f dx depth:Nat)(x:XC)(xp xb:AVal)(end_ last:Bool)
 (hY:YsV w0 h xp x.p) (hZ:ZsV w0 (XsV w0 dx h) h xb x.b) (hPl:x.p.length<=1000000) (hBl:x.b.length<=1000000) (hsm:∀z∈x.b,qdt f z.2.2.1)
 (hb:depth<=4->qeG w0 f dx (depth+1)) (hd:depth<=10) (hT:(UV (XY f) x depth end_ last).text.length<=1000000000):
 ACall Tryz.prog w0 33 [.agg [.int .u8 x.verb.toNat,xp,xb, .bool x.cut], .int .i64 depth, .bool end_, .bool last] h
  (fun r h'=>∃pv bv pp tp bp E,r= .agg [.str (UV (XY f) x depth end_ last).text, .str (UV (XY f) x depth end_ last).cur.verb, .int .i64 (UV (XY f) x depth end_ last).cur.line, .int .i64 (UV (XY f) x depth end_ last).cur.col,pv,bv]/\CurS w0 f (UV (XY f) x depth end_ last).cur pv bv pp tp bp E/\AM.Sep [h,pp,tp,bp,E] h'):=by
 obtain⟨hyl,hys,hyc⟩:=hY.shape;obtain⟨hzl,hzs,hzc⟩:=hZ.shape;obtain⟨kx,hkx⟩:∃kx,kx=if 4<depth then 21 else x.verb.toNat%39:=⟨_,rfl⟩
 have hk39:kx<39:=by rw[hkx];split<;>omega
 obtain⟨r0,r1,r2,hrow,hr0,hr1,hr2,hF1,hF2,hr0a,hrl⟩:=row_facts hk39;obtain⟨b1,hb1E⟩:∃b1,b1=YZ x ⟨32::r0,⟨r0,0,0,[],[]⟩⟩ (qam r1):=⟨_,rfl⟩
 obtain⟨b2,hb2E⟩:∃b2,b2=WP (XY f) x b1 (qam r2) depth last:=⟨_,rfl⟩
 have hxE:UV (XY f) x depth end_ last=if qfO b2 r0 x.cut end_ last=true then qds b2 (ENDw++r0)else b2:=by
  unfold UV rowOf;rw[<-hkx,hrow,hb2E,hb1E];rfl
 rw[hxE]at hT|-
 have hT2:b2.text.length<=1000000000:=by
  refine Ve ?_ hT;split
  ·exact(pre_addW _ _).length_le
  ·exact KL _
 have hpb:b1.text<+:b2.text:=by rw[hb2E];exact qrO _ _ _ _ _ _
 have hT1:b1.text.length<=1000000000:=Ve hpb.length_le hT2;obtain⟨v1,v2,v3,v4⟩:=qlI x ⟨32::r0,⟨r0,0,0,[],[]⟩⟩ (qam r1);rw[<-hb1E]at v1 v2 v3 v4;simp only at v1 v2 v3 v4;obtain⟨f1,f2⟩:=qns x ⟨32::r0,⟨r0,0,0,[],[]⟩⟩ (qam r1);rw[<-hb1E]at f1 f2;obtain⟨u1,u2,u3,u4⟩:=qod (XY f) x b1 (qam r2) depth last;rw[<-hb2E]at u1 u2 u3 u4;have hbO:b1.cur.verb=Zh\/qmz b1.cur.verb=true\/qam r2≠[]->qeG w0 f dx (depth+1):=fun hz=>by
  by_cases h4:depth<=4
  ·exact hb h4
  ·exfalso
   rw[if_pos (by omega)]at hkx;rw[hkx,row_21]at hrow;simp only[and_true,List.cons.injEq]at hrow;rw[v1,<-hrow.1,<-hrow.2.2]at hz;rcases hz with hz|hz|hz
   ·exact absurd hz (by decide)
   ·exact absurd hz (by decide)
   ·exact hz rfl
 have hx8:x.verb.toNat<256:=x.verb.toNat_lt;have hwx:IntKind.i64.wrap (x.verb.toNat:Int)=(x.verb.toNat:Int):=wrap_i64 (by omega) (by omega);have hrem:Ew (x.verb.toNat:Int) 39=((x.verb.toNat%39:Nat):Int):=by rw[Ex (by omega)];exact(Ey _ 39).symm
 have hwm:IntKind.i64.wrap ((x.verb.toNat%39:Nat):Int)=((x.verb.toNat%39:Nat):Int):=wrap_i64 (by omega) (by omega);refine qR (n:=98) (rs:=[.cell 8 103]) Tryz.func33 rfl rfl rfl rfl (VY rfl) ?_;simp only[qU];refine awp_rseq [1,2,3,4,8] (by rfl) fun K hK=>?_;refine UU (by rfl) (by rfl) (by rfl) fun k0q0 hk0q0=>?_;try have hf_0q0:h k0q0=none:=by first|assumption|(simp only[Bd]at hk0q0;simp only[hk0q0])
 skip;refine Qp ze103 (cs:=[.str [], .str [], .int .i64 0, .int .i64 0, .nilSlice, .nilSlice]) (by rfl) fun k0q1 hk0q1=>?_;have ne_0q1_0q0:k0q1≠k0q0:=by simp only[Bd]at hk0q1;simp only[Yv,hk0q1]
 try have hf_0q1:h k0q1=none:=by first|assumption|(simp only[Bd]at hk0q1;simp only[hk0q1])
 simp+decide only[qV,Nat.reduceAdd];apply hK;clear hK K;obtain⟨X,hX⟩:∃X:Blk,X=⟨[.int .u8 x.verb.toNat,xp,xb, .bool x.cut],0⟩:=⟨_,rfl⟩
 obtain⟨Z,hZ0⟩:∃Z:Blk,Z=⟨[.str [], .str [], .int .i64 0, .int .i64 0, .nilSlice, .nilSlice],0⟩:=⟨_,rfl⟩
 have hS1:=Eb (Eb (ps:=[h]) ⟨fun p hp=>by rw[V4.1 hp];exact Vi _,by simp⟩ hk0q0 X) (by rw[hX];exact hk0q1) Z;simp only[Xf]at hS1;obtain⟨H1,hH1⟩:∃H1,H1=(h.set k0q0 X).set k0q1 Z:=⟨_,rfl⟩
 rw[<-hH1]at hS1;refine BO (h':=H1) (by rw[hH1,hX,hZ0];exact Vi _) ?_;have hs_H1:AM.Sub h H1:=hS1.in_ (i:=0) rfl;have eb_0q0:H1 k0q0=some ⟨[.int .u8 x.verb.toNat,xp,xb, .bool x.cut],0⟩:=by rw[<-hX];exact hS1.at_ (i:=1) rfl
 refine awp_rseq [1,2,3,4,8,9] (by rfl) fun K hK=>?_;refine qE (by rfl) (by rfl) (qsW w0 _) fun x1q0 h1q0 hx1q0=>?_;obtain⟨kr,hkr,rfl,e1⟩:=hx1q0;have hS2:=Eb hS1 hkr ⟨rowsT.map AVal.str,0⟩;rw[<-e1]at hS2;simp only[Xf]at hS2;have hs_1:AM.Sub H1 h1q0:=by rw[e1];exact Vj hkr
 have hs_h1q0:Sub h h1q0:=Br zqC hs_1;have hr_h1q0:Sub H1 h1q0:=Br zqC hs_1;have eb_0q0:=hs_1 k0q0 _ zqA;simp+decide only[qP,↓qa];apply hK;clear hK K;have eb_0q0:h1q0 k0q0=some ⟨[.int .u8 x.verb.toNat,xp,xb, .bool x.cut],0⟩:=by rw[<-hX];exact hS2.at_ (i:=1) rfl
 have eb_r:=hS2.at_ (i:=3) rfl;have hs_H2:AM.Sub h h1q0:=hS2.in_ (i:=0) rfl;refine awp_rseq [1,2,3,4,8,9,10] (by rfl) fun K hK=>?_;simp+decide only[XD,QU,qj,Qh,XM,qad,↓qh,fa31_0,↓qo,qf ag5,↓ZZ _ _ _ (Uo Tryz.underlying5 Tryz.underlying3),ZA Tryz.underlying5 Tryz.underlying3,↓qc,↓Qi,QV Tryz.underlying22,↓qd,↓qa,Qm eb_0q0,hwx];apply hK;clear hK K;refine qi ?_;refine awp_rseq [1,2,3,4,8,9,10,23] (by rfl) fun K hK=>?_;simp+decide only[QK,qK,YG,↓qc,↓qd];apply hK;clear hK K;refine Wo [1,2,3,4,8,9,10] (fun k:Nat=>[(1, .int .i64 depth),(2, .bool end_),(3, .bool last),(4, .ptr (.own k0q0) 0),(8, .ptr (.own k0q1) 0),(9, .slice (.own kr) 0 39 (.exact 39)),(10, .int .i64 k)]) (fun k:Nat=>h1q0) (fun k:Nat=>k=kx) ?_ ?_
 ·refine qz (b:=_) rfl (fun hb1=>?_) (fun hb1=>?_)
  ·try simp only[qG]at hb1
   refine Qv [1,2,3,4,8,9,10] (by rfl) ?_;simp+decide only[qP,↓qa];try simp only[QL]
   first
   |exact⟨21,rfl,Vi _,by rw[hkx,if_pos (by omega)]⟩
   |exact⟨x.verb.toNat%39,rfl,Vi _,by rw[hkx,if_neg (by omega)]⟩
  ·try simp only[qG]at hb1
   refine qF ?_;try simp only[QL]
   first
   |exact⟨21,rfl,Vi _,by rw[hkx,if_pos (by omega)]⟩
   |exact⟨x.verb.toNat%39,rfl,Vi _,by rw[hkx,if_neg (by omega)]⟩
 ·rintro k rfl
  have hib:(0<=(k:Int)/\(k:Int)<((39:Nat):Int))=True:=eq_true ⟨by omega,by omega⟩;have hib2:(0<=(k:Int)/\(k:Int)<39)=True:=eq_true ⟨by omega,by omega⟩;have e5:rd w0 h1q0 (.own kr) k= .str (rowsT.getD k []):=by
   rw[Yc w0 eb_r,Ko,Ko,VA,JB (show k<rowsT.length by rw[qfC];exact hk39)];rfl
  refine awp_rseq [1,2,3,4,8,11] (by rfl) fun K hK=>?_;simp+decide only[Qe,QJ,VD,Bi,↓qc,↓qJ,qg Tryz.underlying22 sz9,↓qo,qf ag9,hib,e5];refine qE (by rfl) (by rfl) (qpN w0 hm _ (rowsT.getD k []) 58 (by omega)) fun x5q4 h5q4 hx5q4=>?_;obtain⟨ks,hks,rfl,e6⟩:=hx5q4;rw[hrow]at e6|-
  have hS3:=Eb hS2 hks ⟨[r0,r1,r2].map AVal.str,0⟩;rw[<-e6]at hS3;simp only[QW,Xf]at hS3;have hs_2:AM.Sub h1q0 h5q4:=by rw[e6];exact Vj hks
  simp only[Jp,QF,Nat.reduceAdd];have hs_h5q4:Sub h h5q4:=Br zqC hs_2;have hr_h5q4:Sub h1q0 h5q4:=Br zqC hs_2;have eb_0q0:=hs_2 k0q0 _ zqA;simp+decide only[qP,VD,↓qa];apply hK;clear hK K;have eb_0q0:h5q4 k0q0=some ⟨[.int .u8 x.verb.toNat,xp,xb, .bool x.cut],0⟩:=by rw[<-hX];exact hS3.at_ (i:=1) rfl
  have eb_s:=hS3.at_ (i:=4) rfl;have hs_H3:AM.Sub h h5q4:=hS3.in_ (i:=0) rfl;refine awp_rseq [1,2,3,4,8,11,12] (by rfl) fun K hK=>?_;simp+decide only[Xp,QJ,K7,Bv,↓qc,↓qJ,qg Tryz.underlying22 sz9,↓qo,qf ag9,↓qa,Qm eb_s];apply hK;clear hK K;refine awp_rseq [1,2,3,4,8,11,12,13] (by rfl) fun K hK=>?_;simp+decide only[Xj,qj,QF,Qs,QW,Zo,ZO,↓qc,↓qd,↓XO,↓QN,bld82_0,qtb];repeat (with_reducible refine zqP ?_)
  refine Qp ze103 (cs:=[.str [], .str [], .int .i64 0, .int .i64 0, .nilSlice, .nilSlice]) (by rfl) fun k7q5 hk7q5=>?_;have hn_7q5:h5q4 k7q5=none:=by first|assumption|(simp only[Bd]at hk7q5;simp only[hk7q5])
  have hf_7q5:h k7q5=none:=Be hs_h5q4 hn_7q5;have ne_7q5_0q0:k7q5≠k0q0:=Bf hn_7q5 eb_0q0;have ne_7q5_s:k7q5≠ks:=Bf hn_7q5 eb_s;refine qN (by rfl) (by rfl) zqA qmf (by rfl) (by rfl) zqD (Jq _) (by first|rfl|(simp+decide only[QI,BL,Yk,VN,YW,qaA,Qt,hys,hzs,qgO])) ?_;simp only[QT,Bg];simp+decide only[qV,QF,Nat.reduceAdd];apply hK;clear hK K;have hS4:=Eb hS3 hn_7q5 (buB (32::r0) ⟨r0,0,0,[],[]⟩ .nilSlice .nilSlice);simp only[Xf]at hS4;obtain⟨H4,hH4⟩:∃H4,H4=h5q4.set k7q5 (buB (32::r0) ⟨r0,0,0,[],[]⟩ .nilSlice .nilSlice):=⟨_,rfl⟩
  rw[<-hH4]at hS4;refine BO (h':=H4) (by rw[hH4];exact Vi _) ?_;have hs_H4:AM.Sub h H4:=hS4.in_ (i:=0) rfl;have eb_0q0:H4 k0q0=some ⟨[.int .u8 x.verb.toNat,xp,xb, .bool x.cut],0⟩:=by rw[<-hX];exact hS4.at_ (i:=1) rfl
  have eb_s:=hS4.at_ (i:=4) rfl;have tn1:Int.toNat 1=1:=rfl;have tn2:Int.toNat 2=2:=rfl;refine qgG [0,1,2,3,4,5] [2,0,0,0,0,0] [none,none,none,none,none,some 4] 5 ((h.set k0q0 ⟨[.int .u8 x.verb.toNat,xp,xb, .bool x.cut],0⟩)) [1,2,3,4,8,11,12,13] mixed (by kernel_rfl) (by rfl) (qfw hs_H4 eb_0q0) fun K hK=>?_;simp only[Kz,Vx,Eo,KM,YB];simp+decide only[Qe,QJ,Wi,qao,qan,Uy,UN,↓qo,Qa ag31 qng,↓qc,↓qJ,qg Tryz.underlying22 sz9,qf ag9,Qm eb_s,Nat.reduceAdd,hyl,hzl,tn1,Nat.one_mul];refine qE (by rfl) (by rfl) (c_listL w0 hm _ r1 (by omega)) fun x8q4 h8q4 hx8q4=>?_;obtain⟨p8,hg8,hSp8⟩:=hx8q4;have hS5:=EG hS4 hSp8;simp only[Xf]at hS5;have hs_8:AM.Sub H4 h8q4:=hSp8.in_ (i:=0) rfl;have hS5a:AM.Sep ([h,one k0q0 X,one k0q1 Z,one kr ⟨rowsT.map AVal.str,0⟩,one ks ⟨[.str r0, .str r1, .str r2],0⟩,p8]++[one k7q5 (buB (32::r0) ⟨r0,0,0,[],[]⟩ .nilSlice .nilSlice)]) h8q4:=hS5.pick [0,1,2,3,4,6,5] (by decide) (by simp);have hS5b:=hS5a.fold;have hsu:=Xy hS5a.left;have hs_h8q4:Sub h h8q4:=Br zqC hs_8;have hr_h8q4:Sub H4 h8q4:=Br zqC hs_8;have eb_0q0:=hs_8 k0q0 _ zqA;have eb_s:=hs_8 ks _ zqA;rw[QB];refine And.intro (by first|exact Vi _|assumption|exact Vj (by assumption)) ?_;simp+decide only[qV];refine qE (by rfl) (by rfl) (c_phrases w0 hm ha _ h8q4 k7q5 x xp xb _ (qam r1) (32::r0) r0 hS5b (hY.mono (hsu h (by simp))) hzl hzs hzc (hg8.isL (hsu p8 (by simp))) hF1 hPl (by rw[<-hb1E];exact hT1)) fun x8q5 h8q5 hx8q5=>?_;obtain⟨pv,pp,tp,E,hBu⟩:=hx8q5;rw[<-hb1E]at hBu;have hS6:=EF hS5a.left hBu.sep;simp only[Xf]at hS6;have hs_8b:AM.Sub (h.set k0q0 ⟨[.int .u8 x.verb.toNat,xp,xb, .bool x.cut],0⟩) h8q5:=qfw (hS6.in_ (i:=0) rfl) (by rw[<-hX];exact hS6.at_ (i:=1) rfl);rw[QB];refine And.intro (by first|exact Vi _|assumption|exact Vj (by assumption)) ?_;simp+decide only[qV];apply hK;clear hK K;have hs_H6:AM.Sub h h8q5:=hS6.in_ (i:=0) rfl;have eb_0q0:h8q5 k0q0=some ⟨[.int .u8 x.verb.toNat,xp,xb, .bool x.cut],0⟩:=by rw[<-hX];exact hS6.at_ (i:=1) rfl
  have eb_s:=hS6.at_ (i:=4) rfl;refine qgG [0,1,2,3,5,6,4,7] [2,0,0,0,0,0,0,0] [none,none,none,none,none,none,none,some 6] 7 ((h.set k0q0 ⟨[.int .u8 x.verb.toNat,xp,xb, .bool x.cut],0⟩)) [2,3,4,8,12,13] mixed (by kernel_rfl) (by rfl) (qfw hs_H6 eb_0q0) fun K hK=>?_;simp only[Kz,Vx,Eo,KM,YB];simp+decide only[Qe,QJ,Wi,qao,qan,Uy,UN,↓qo,Qa ag31 qng,↓qc,↓qJ,qg Tryz.underlying22 sz9,qf ag9,Qm eb_s,Nat.reduceAdd,hyl,hzl,tn2];refine qE (by rfl) (by rfl) (c_listL w0 hm _ r2 (by omega)) fun x9q4 h9q4 hx9q4=>?_;obtain⟨p9,hg9,hSp9⟩:=hx9q4;have hS7:=EG hS6 hSp9;simp only[Xf]at hS7;have hs_9:AM.Sub h8q5 h9q4:=hSp9.in_ (i:=0) rfl;have hS7a:AM.Sep ([h,one k0q0 X,one k0q1 Z,one kr ⟨rowsT.map AVal.str,0⟩,one ks ⟨[.str r0, .str r1, .str r2],0⟩,p8,p9]++[one k7q5 (buB b1.text b1.cur pv .nilSlice),pp,tp,emp,E]) h9q4:=hS7.pick [0,1,2,3,4,5,11,6,7,8,9,10] (by decide) (by simp);have hS7b:=hS7a.fold;have hsu9:=Xy hS7a.left;have hbe:b1.cur.bodies=[]:=v2;have hs_h9q4:Sub h h9q4:=Br zqC hs_9;have hr_h9q4:Sub h8q5 h9q4:=Br zqC hs_9;have eb_0q0:=hs_9 k0q0 _ zqA;have eb_s:=hs_9 ks _ zqA;rw[QB];refine And.intro (by first|exact Vi _|assumption|exact Vj (by assumption)) ?_;simp+decide only[qV];refine qE (by rfl) (by rfl) (c_bodies w0 hm ha _ h9q4 k7q5 f dx depth x b1 xp xb _ pv pp tp E (qam r2) last ⟨hS7b,hBu.cur.upN hbe⟩ hbe hyl hys hyc (hZ.mono (hsu9 h (by simp)) fun _ _ hz=>hz.mono (hsu9 h (by simp))) hsm (hg9.isL (hsu9 p9 (by simp))) hF2 hbO hd hBl (Ve f1 (by decide)) (fun p hp=>Ve (f2 p hp) (by decide)) (by rw[<-hb2E];exact hT2)) fun x9q7 h9q7 hx9q7=>?_;obtain⟨bv,bp,E2,hBu2⟩:=hx9q7;rw[<-hb2E]at hBu2;have hS8:=EF hS7a.left hBu2.sep;simp only[Xf]at hS8;have hs_9b:AM.Sub (h.set k0q0 ⟨[.int .u8 x.verb.toNat,xp,xb, .bool x.cut],0⟩) h9q7:=qfw (hS8.in_ (i:=0) rfl) (by rw[<-hX];exact hS8.at_ (i:=1) rfl);rw[QB];refine And.intro (by first|exact Vi _|assumption|exact Vj (by assumption)) ?_;simp+decide only[qV];apply hK;clear hK K;have hs_H8:AM.Sub h h9q7:=hS8.in_ (i:=0) rfl;have eb_0q0:h9q7 k0q0=some ⟨[.int .u8 x.verb.toNat,xp,xb, .bool x.cut],0⟩:=by rw[<-hX];exact hS8.at_ (i:=1) rfl
  have eb_7q5:=hS8.at_ (i:=7) rfl;obtain⟨hbvl,hbvs,hbvc,nb⟩:=hBu2.cur.bv_len;refine awp_rseq [2,3,4,8,12,13,14] (by rfl) fun K hK=>?_;simp+decide only[Xj,qj,QF,Jb,ZE,ZO,↓qc,↓qd];repeat (with_reducible refine zqP ?_)
  refine QC (V:= .bool (Lib.contains qdK ([32]++r0++[32]))) (by rfl) (by rfl) (WA w0 hm _ qdK _ (by decide)) ?_;simp+decide only[qP,QF,Jb,↓qa];apply hK;clear hK K;refine qi ?_;have hEN:(Lib.contains qdK (32::(r0++[32])) && (decide (0<(b2.cur.bodies.length:Int)) && (!last|| !x.cut||decide (r0=[80,69,82,70,79,82,77]))||decide ((b2.cur.bodies.length:Int)=0) && (!last && end_||x.cut)))=qfO b2 r0 x.cut end_ last:=by
   have z1:decide ((b2.cur.bodies.length:Int)=0)=decide (b2.cur.bodies=[]):=by rw[decide_eq_decide,<-List.length_eq_zero_iff];omega
   have z2:decide (0<(b2.cur.bodies.length:Int))= !decide (b2.cur.bodies=[]):=by
    rw[<-z1];by_cases hq:(b2.cur.bodies.length:Int)=0
    ·rw[decide_eq_true hq,decide_eq_false (by omega)];rfl
    ·rw[decide_eq_false hq,decide_eq_true (by omega)];rfl
   unfold qfO;rw[z1,z2,EJ];rfl
  have hcE:(if qfO b2 r0 x.cut end_ last=true then qds b2 (ENDw++r0)else b2).cur=b2.cur:=by split<;>rfl
  have hS8a:AM.Sep ([h,one k0q0 X,one k0q1 Z,one kr ⟨rowsT.map AVal.str,0⟩,one ks ⟨[.str r0, .str r1, .str r2],0⟩,p8,p9,pp,tp,bp,E2]++[one k7q5 (buB b2.text b2.cur pv bv)]) h9q7:=hS8.pick [0,1,2,3,4,5,6,8,9,10,11,7] (by decide) (by simp);have hS8b:=hS8a.fold;refine awp_rseq [8,12,13,93] (by kernel_rfl) fun K hK=>?_;try simp only[Xf]
  simp+decide only[Xk,XI,ZH,Yl,Qs,QS,Xn,XA,Ze,Zd,Zt,ZF,YG,YF,YR,Zf,WE,qbz,qby,qfm,qjk,qfl,qjj,↓qc,↓QM,↓Xv,qf qdp,↓qbW,↓Qn,↓Qy,↓Uc,fa31_3,qf ag4,↓UE,↓Qd,Qm eb_0q0,Qm eb_7q5,Nat.reduceAdd,hbvl,nb];apply hK;clear hK K;refine Wo [8,13] (fun g:StH=>[(8, .ptr (.own k0q1) 0),(13, .ptr (.own k7q5) 0)]) (fun g:StH=>g.H) (fun g:StH=>g.f=(if qfO b2 r0 x.cut end_ last=true then qds b2 (ENDw++r0)else b2).text/\AM.Sep [h,pp,tp,bp,E2,one k0q1 Z,one k7q5 (buB g.f b2.cur pv bv)] g.H) ?_ ?_
  ·refine qz (b:=_) rfl (fun hb2=>?_) (fun hb2=>?_)
   ·rw[hEN]at hb2
    all_goals
     refine Qv [8,13] (by rfl) ?_;simp+decide only[Xj,qj,QF,Jb,Qs,ZO,↓qc,↓qd,Nat.reduceAdd];repeat (with_reducible refine zqP ?_)
     refine qE (by rfl) (by rfl) (qoa w0 _ h9q7 k7q5 b2.text (ENDw++r0) b2.cur pv bv hS8b hT2 (by rw[Jb,show ENDw.length=4 from rfl];omega)) fun x12q2 h12q2 hx12q2=>?_;have hS9:=EF hS8a.left hx12q2;simp only[Xf]at hS9;have hs_12:AM.Sub h h12q2:=hS9.in_ (i:=0) rfl;simp+decide only[qV,QF,Jb];try simp only[QL]
     first
     |exact⟨⟨b2.text++[32]++(ENDw++r0),_⟩,rfl,Vi _,by rw[if_pos hb2];rfl,hS9.pick [0,7,8,9,10,2,11] (by decide) (by simp)⟩
     |exact⟨⟨b2.text,_⟩,rfl,Vi _,by rw[if_neg (by rw[hb2];decide)],hS8.pick [0,8,9,10,11,2,7] (by decide) (by simp)⟩
   ·rw[hEN]at hb2
    all_goals
     refine qF ?_;try simp only[QL]
     first
     |exact⟨⟨b2.text++[32]++(ENDw++r0),_⟩,rfl,Vi _,by rw[if_pos hb2];rfl,hS9.pick [0,7,8,9,10,2,11] (by decide) (by simp)⟩
     |exact⟨⟨b2.text,_⟩,rfl,Vi _,by rw[if_neg (by rw[hb2];decide)],hS8.pick [0,8,9,10,11,2,7] (by decide) (by simp)⟩
  ·rintro⟨t,H9⟩ ⟨ht,hS10⟩
   simp only at ht hS10|-
   have hs_H9:AM.Sub h H9:=hS10.in_ (i:=0) rfl;have eb_7q5:=hS10.at_ (i:=6) rfl;have eb_0q1:H9 k0q1=some ⟨[.str [], .str [], .int .i64 0, .int .i64 0, .nilSlice, .nilSlice],0⟩:=by rw[<-hZ0];exact hS10.at_ (i:=5) rfl
   have ne_7q5_0q1:k7q5≠k0q1:=hS10.ne (i:=6) (j:=5) rfl rfl (by decide);obtain⟨hpvl,hpvs,hpvc⟩:=hBu2.cur.pv_ok;skip;refine awp_rseq [8] (by rfl) fun K hK=>?_;simp+decide only[qV,QJ,↓qo,Qa ag103 qmf,Qm eb_7q5,Nat.reduceAdd,hpvl,hbvl];refine qN (by rfl) (by rfl) zqA qmf (by rfl) (by rfl) zqD (Jq _) (by first|rfl|(simp+decide only[QI,BL,Yk,VN,YW,qaA,Qt,hpvs,hbvs])) ?_;simp only[QT];simp+decide only[qV,Nat.reduceAdd];apply hK;clear hK K;refine qW ?_;refine Qb (?_) ?_
   ·simp+decide only[List.set_cons_succ,VE,Ka,BL,Jp,setAt,VZ,ev,Bool.and_true,and_true,Yv,true_and,QB,cellsAt,VX,allLive,Kn,qdk,qem,Wt,qfc,qel,qek,qcK,qgy,qaf,Ul,qbk,qbj,qgw,qcJ,qcI,qgs,qgr,VN,qaj,WV,Qa ag103 qmf,qgp,Nat.reduceAdd,Nat.reduceAdd,hpvl,hbvl]
   simp+decide only[Zi,qaj,qkr,Qa ag103 qmf,qgp,Nat.reduceAdd,Nat.reduceAdd,hpvl,hbvl];have hS11:=hS10.put (i:=5) rfl (buB t b2.cur pv bv);simp only[Xo]at hS11;rw[hcE,<-ht];exact⟨_,Vi _,pv,bv,pp,tp,bp,E2,rfl,hBu2.cur,hS11.pick [0,1,2,3,4] (by decide) (by simp)⟩
end Go.Proofs.YtgiadjbiimkbiaaGreatDoor
namespace Go.Stm
open Go.Col (Str)
open Go.Tok
set_option maxRecDepth 100000
def noX:XC:= .mk 0 [] [] false
theorem qhD(B:List XC->Nat->Bool->Str×List StC)(l:List XC)(depth:Nat)(last:Bool)(n:Nat)(T:Str)(S:List StC)(h:S.length<l.length)(h4:S.length<4):
 Ub B l depth last (n+1) (T,S)=Ub B l depth last n (T++(UV B (l.getD S.length noX) depth (decide (S.length+1=l.length)||decide (S.length=3)) (last && (decide (S.length+1=l.length)||decide (S.length=3)))).text,
  S++[(UV B (l.getD S.length noX) depth (decide (S.length+1=l.length)||decide (S.length=3)) (last && (decide (S.length+1=l.length)||decide (S.length=3)))).cur.done]):=by
 rw[Ub];simp only;rw[if_pos ⟨h,h4⟩];rfl
theorem qhC(B:List XC->Nat->Bool->Str×List StC)(l:List XC)(depth:Nat)(last:Bool):∀(n:Nat) (T:Str) (S:List StC),¬(S.length<l.length/\S.length<4)->Ub B l depth last n (T,S)=(T,S)
 |0,_,_,_=>rfl
 |n+1,T,S,h=>by rw[Ub];exact if_neg h
theorem qjn(B:List XC->Nat->Bool->Str×List StC)(l:List XC)(depth:Nat)(last:Bool):∀(n:Nat) (r:Str×List StC),r.1<+:(Ub B l depth last n r).1
 |0,r=>Ep _
 |n+1,r=>by
  rw[Ub];simp only;split
  ·refine List.IsPrefix.trans ?_ (qjn B l depth last n _)
   exact Er _ _
  ·exact Ep _
end Go.Stm
namespace Go.Proofs.YtgiadjbiimkbiaaGreatDoor
open Go.AM
open Go.Proofs
open Go.Col (Str FaultC okF)
open Go.Tok (TokC)
open Go.Stm
open Go.RowKit (Below)
set_option maxRecDepth 100000
def qse:XC×AVal×AVal:=(noX, .nilSlice, .nilSlice)
theorem x_at{w0:World}{h:AHeap}{lc:AM.Loc}{o n:Nat}{c:Cap}{qs:List (XC×AVal×AVal)}(ht:IsL w0 h 4 (.slice lc o n c) (qs.map xC)){i:Nat}(hi:i<qs.length):
 rd w0 h lc (o+i*4)= .int .u8 (qs.getD i qse).1.verb.toNat/\rd w0 h lc (o+i*4+1)=(qs.getD i qse).2.1/\rd w0 h lc (o+i*4+2)=(qs.getD i qse).2.2/\rd w0 h lc (o+i*4+3)= .bool (qs.getD i qse).1.cut:=by
 have he:=ht.elem (i:=i) (by rw[Jn];exact hi);rw[getD_map qse hi]at he;simp only[and_true,cellsAt,List.cons.injEq,xC]at he;exact he
structure BgG where
 T:Str
 qs:List (StC×AVal×AVal)
 ov:AVal
 op:AHeap
 E:AHeap
 H:AHeap
theorem contV{w0:World}{f k1 k2:Nat}{H:AHeap}(h1:H k1=some ⟨[.str [], .nilSlice],0⟩)(h2:H k2=some ⟨[.str contC.verb, .int .i64 0, .int .i64 0, .slice (.own k1) 0 1 (.exact 1), .nilSlice],0⟩):StsV w0 (f+1) H (.slice (.own k2) 0 1 (.exact 1)) [contC]:=
 ⟨[(contC, .slice (.own k1) 0 1 (.exact 1), .nilSlice)],rfl,Bz (xs:=[[.str contC.verb, .int .i64 0, .int .i64 0, .slice (.own k1) 0 1 (.exact 1), .nilSlice]]) h2 (fun x hx=>by rw[V4.1 hx];rfl) rfl rfl (.exact 1) (KL _),fun q hq=>by
  rw[V4.1 hq];exact⟨⟨[(⟨[],[]⟩, .nilSlice)],rfl,Bz (xs:=[[.str [], .nilSlice]]) h1 (fun x hx=>by rw[V4.1 hx];rfl) rfl rfl (.exact 1) (KL _),fun p hp=>by rw[V4.1 hp];exact .nil⟩,⟨[],rfl, .nil,fun p hp=>by cases hp⟩⟩⟩
set_option maxHeartbeats 16000000 in
theorem c_build1(w0:World)(hm:MaxL w0)(ha:Asp w0)(f dx depth:Nat)(hb:depth<=4->∀dx',qeG w0 f dx' (depth+1))(hd:depth<=10):qeG w0 (f+1) dx depth:=by
 intro h v l last hX hsm hT;obtain⟨hvl,hvs,hvc⟩:=hX.shape;obtain⟨qs,hqe,hqL,hqo⟩:∃qs:List (XC×AVal×AVal),l=qs.map (·.1)/\IsL w0 h 4 v (qs.map xC)/\∀q∈qs,YsV w0 h q.2.1 q.1.p/\∃dx',ZsV w0 (XsV w0 dx' h) h q.2.2 q.1.b:=by
  cases dx with
  |zero=>exact⟨[],hX.1,hX.2,fun q hq=>by cases hq⟩
  |succ dx=>
   obtain⟨qs,a,b,c⟩:=hX;exact⟨qs,a,b,fun q hq=>⟨(c q hq).1,dx,(c q hq).2⟩⟩
 have nv:∀H:AHeap,Zl Tryz.prog H 35 v=⟨True, .int .i64 qs.length⟩:=fun H=>by have:=hqL.len Tryz.underlying35 H;rwa [Jn]at this
 have hln:l.length=qs.length:=by rw[hqe,Jn]
 have hl6:=hsm.1;obtain⟨R,hR⟩:∃R,R=Ub (XY f) l depth last 4 ([],[]):=⟨_,rfl⟩
 have hBE:XY (f+1) l depth last=if R.2=[]then([32,67,79,78,84,73,78,85,69],[contC])else R:=by rw[hR];rfl
 rw[hBE]at hT|-
 have hRT:R.1.length<=1000000000:=by
  by_cases hz:R.2=[]
  ·have hR0:R=([],[]):=by
    rw[hR];by_cases hl:l.length=0
    ·exact qhC _ _ _ _ _ _ _ (by simp[hl])
    ·exfalso
     rw[hR,qhD _ _ _ _ _ _ _ (by simp only[JD];omega) (by decide)]at hz;have hp:∀(n:Nat) (r:Str×List StC),r.2≠[]->(Ub (XY f) l depth last n r).2≠[]:=by
      intro n;induction n with
      |zero=>intro r h;exact h
      |succ n ih=>
       intro r h;rw[Ub];simp only;split
       ·exact ih _ (by simp)
       ·exact h
     exact hp _ _ (by simp) hz
   rw[hR0];exact Jq _
  ·rw[if_neg hz]at hT;exact hT
 refine qR (n:=61) (rs:=[.tmp 6, .tmp 7]) Tryz.func15 rfl rfl rfl rfl (VY rfl) ?_;simp only[qU];refine awp_rseq [0,1,2] (by rfl) fun K hK=>?_;simp+decide only[qP,↓qa,Nat.reduceAdd];apply hK;clear hK K;refine awp_rseq [0,1,2,8] (by rfl) fun K hK=>?_;simp+decide only[qP,↓qa];apply hK;clear hK K;refine awp_rseq [0,1,2,8,9] (by rfl) fun K hK=>?_;simp+decide only[qP,↓qa];apply hK;clear hK K;refine qi ?_;refine awp_rseq [0,1,2,8,9,10] (by rfl) fun K hK=>?_;simp+decide only[qP,↓qa];apply hK;clear hK K;refine qI ?_;refine Qj [0,1,2,8,9,10] (fun g:BgG=>[(0,v),(1, .int .i64 depth),(2, .bool last),(8, .str g.T),(9,g.ov),(10, .int .i64 g.qs.length)]) (fun g:BgG=>g.H) (fun g:BgG=>AM.Sep [h,g.op,g.E] g.H/\GrowV 5 g.ov g.op (g.qs.map qcy)/\(∀q∈g.qs,PhV w0 g.E q.2.1 q.1.phrases/\BdV w0 (StsV w0 f g.E) g.E q.2.2 q.1.bodies)/\g.qs.length<=4/\R=Ub (XY f) l depth last (4-g.qs.length) (g.T,g.qs.map (·.1))) (fun g:BgG=>4-g.qs.length) ⟨[],[], .nilSlice,emp,emp,h⟩ (by rfl) (Vi _) ⟨(Sep.emp (Sep.emp (ps:=[h]) ⟨fun p hp=>by rw[V4.1 hp];exact Vi _,by simp⟩)),GrowV.nil,(fun q hq=>by cases hq),Jq _,hR⟩ ?_;rintro⟨T,ps,ov,op,E,H⟩ ⟨hS,hg,hpq,hp4,hgo⟩;simp only at hS hg hpq hp4 hgo|-
 have hs_H:AM.Sub h H:=hS.in_ (i:=0) rfl;have hovl:=hg.live;have hovs:=hg.scal;have nov:∀H':AHeap,Zl Tryz.prog H' 45 ov=⟨True, .int .i64 ps.length⟩:=fun H'=>by have:=(hg.isL (w0:=w0) (Vi _)).len Tryz.underlying45 H';rwa [Jn]at this
 refine qi ?_;refine awp_rseq [0,1,2,8,9,10,20] (by rfl) fun K hK=>?_;simp+decide only[Xk,qK,qj,ZH,Yl,QS,QY,↓qc,↓Qi,↓qd,↓Qy,↓Qn,↓Qd,nv];apply hK;clear hK K;refine qz (b:=_) rfl (fun hb1=>?_) (fun hb1=>?_)
 ·try simp only[qG]at hb1
  have hi:ps.length<qs.length:=by omega
  have hi4:ps.length<4:=by omega
  obtain⟨lc,o,cc,hpe⟩:=hqL.open (fun e=>by rw[Vz]at e;rw[e]at hi;cases hi);have hq2:=hqL.mono hs_H;rw[hpe]at hq2;obtain⟨e0,e1,e2,e3⟩:=x_at hq2 hi;obtain⟨q,hqq⟩:∃q,q=qs.getD ps.length qse:=⟨_,rfl⟩
  rw[<-hqq]at e0 e1 e2 e3;have hqm:q∈qs:=by rw[hqq,Ko,JB hi];exact Vw hi
  obtain⟨hqY,dx',hqZ⟩:=hqo q hqm;obtain⟨hyl,hys,hyc⟩:=hqY.shape;obtain⟨hzl,hzs,hzc⟩:=hqZ.shape;have hxi:l.getD ps.length noX=q.1:=by rw[hqe,hqq,Ko,Ko,VA,JB hi];rfl
  have hxm:q.1∈l:=by rw[hqe];exact BK hqm
  obtain⟨hx1,hx2,hx3⟩:=hsm.2 q.1 hxm;obtain⟨e,he⟩:∃e,e=(decide (ps.length+1=l.length)||decide (ps.length=3)):=⟨_,rfl⟩
  obtain⟨b,hbE⟩:∃b,b=UV (XY f) q.1 depth e (last && e):=⟨_,rfl⟩
  have hgo2:R=Ub (XY f) l depth last (3-ps.length) (T++b.text,ps.map (·.1)++[b.cur.done]):=by
   rw[hgo,show 4-ps.length=3-ps.length+1 by omega,qhD _ _ _ _ _ _ _ (by rw[Jn];omega) (by rw[Jn];omega),Jn,hxi,<-he,<-hbE]
  have hpre:T++b.text<+:R.1:=by rw[hgo2];exact qjn _ _ _ _ _ (T++b.text,_)
  have hlen:=hpre.length_le;rw[Jb]at hlen;have heI:(decide ((ps.length:Int)=(qs.length:Int)-1)||decide ((ps.length:Int)=3))=e:=by
   have h1:decide ((ps.length:Int)=(qs.length:Int)-1)=decide (ps.length+1=l.length):=by rw[decide_eq_decide,hln];omega
   have h2:decide ((ps.length:Int)=3)=decide (ps.length=3):=by rw[decide_eq_decide];omega
   rw[he,h1,h2]
  have hwl:IntKind.i64.wrap ((qs.length:Int)-1)=(qs.length:Int)-1:=wrap_i64 (by omega) (by omega);have hwi:IntKind.i64.wrap ((ps.length:Int)+1)=((ps.length+1:Nat):Int):=by rw[wrap_i64 (by omega) (by omega)];omega
  have hib:(0<=(ps.length:Int)/\(ps.length:Int)<(qs.length:Int))=True:=eq_true ⟨by omega,by omega⟩;refine qF ?_;change Awp _ _ _ _ _ _ _;refine qi ?_;refine qI ?_;refine awp_rseq [0,1,2,8,9,10,11] (by rfl) fun K hK=>?_;simp+decide only[ZR,Yw,qK,qj,ZH,Yl,QS,XA,WW,↓qc,↓Qi,↓qd,↓Qy,↓Qn,↓Qd,↓qa,nv,hwl,heI];apply hK;clear hK K;refine awp_rseq [0,1,2,8,9,10,12] (by rfl) fun K hK=>?_;simp+decide only[Qe,XF,QJ,VD,Xt,qew,Jn,Yy,↓qc,↓qJ,qg Tryz.underlying35 qng,↓qo,Qa ag31 qng,↓Qy,↓Qd,hpe,e0,e1,e2,e3,hib,hyl,hzl];refine qE (by rfl) (by rfl) (c_xbuild w0 hm ha _ f dx' depth q.1 q.2.1 q.2.2 e (last && e) (hqY.mono hs_H) (hqZ.mono hs_H fun _ _ hz=>hz.mono hs_H) hx1 hx2 hx3 (fun h4=>hb h4 dx') hd (by rw[<-hbE];omega)) fun x7q10 h7q10 hx7q10=>?_;rw[<-hbE]at hx7q10;obtain⟨pv,bv,pp,tp,bp,E2,rfl,hcur,hS2⟩:=hx7q10;have hS3:=EG hS hS2;simp only[Xf]at hS3;have hs_7:AM.Sub H h7q10:=hS2.in_ (i:=0) rfl;obtain⟨hpvl,hpvs,hpvc⟩:=hcur.pv_ok;obtain⟨hbvl,hbvs,hbvc,-⟩:=hcur.bv_len;have hs_h7q10:Sub h h7q10:=Br zqC hs_7;have hr_h7q10:Sub H h7q10:=Br zqC hs_7;refine Qp ze103 (cs:=[.str [], .str [], .int .i64 0, .int .i64 0, .nilSlice, .nilSlice]) (by rfl) fun k7q11 hk7q11=>?_;have hn_7q11:h7q10 k7q11=none:=by first|assumption|(simp only[Bd]at hk7q11;simp only[hk7q11])
  have hf_7q11:h k7q11=none:=Be hs_h7q10 hn_7q11;refine qN (by rfl) (by rfl) zqA qmf (by rfl) (by rfl) zqD (Jq _) (by first|rfl|(simp+decide only[QI,BL,Yk,VN,YW,qaA,Qt,hpvs,hbvs])) ?_;simp only[QT,Bg];simp+decide only[qV,VD,Jn,Nat.reduceAdd];apply hK;clear hK K;have hS4:=Eb hS3 hn_7q11 (buB b.text b.cur pv bv);simp only[Xf]at hS4;obtain⟨H4,hH4⟩:∃H4,H4=h7q10.set k7q11 (buB b.text b.cur pv bv):=⟨_,rfl⟩
  rw[<-hH4]at hS4;refine BO (h':=H4) (by rw[hH4];exact Vi _) ?_;have hs_H4:AM.Sub h H4:=hS4.in_ (i:=0) rfl;have eb_7q11:=hS4.at_ (i:=7) rfl;refine awp_rseq [0,1,2,8,9,10,12] (by rfl) fun K hK=>?_;simp+decide only[ZR,QU,qj,Jb,Qs,ZO,↓qc,↓qh,qnK,↓qo,qf ag9,↓qd,↓qa,Qm eb_7q11];repeat (with_reducible refine zqP ?_)
  apply hK;clear hK K;refine Qv [0,1,2,8,9,10] (by rfl) ?_;simp+decide only[Qe,QU,WE,↓qc,↓qh,↓qo,Qa qgH WF,Qm eb_7q11,Nat.reduceAdd,hpvl,hbvl];refine qO (cs:=[.str b.cur.verb, .int .i64 b.cur.line, .int .i64 b.cur.col,pv,bv]) (by kernel_rfl) fun k9q3 hk9q3=>?_;have hn_9q3:H4 k9q3=none:=by first|assumption|(simp only[Bd]at hk9q3;simp only[hk9q3])
  have hf_9q3:h k9q3=none:=Be hs_H4 hn_9q3;have ne_9q3_7q11:k9q3≠k7q11:=Bf hn_9q3 eb_7q11;refine ZM (es:=5) (v:=ov) (p:=op) (xs:=ps.map qcy) (ys:=[[.str b.cur.verb, .int .i64 b.cur.line, .int .i64 b.cur.col,pv,bv]]) (i:=1) (by rfl) (by rfl) Tryz.underlying45 Tryz.underlying45 (fun k e=>by cases e) WF by82 qjs (by rfl) (by decide) (by rfl) hg rfl (hS4.forget (Vj hn_9q3)) (by rfl) (Bz (Vh _ _ _) (fun x hx=>by rw[V4.1 hx];rfl) (by rfl) (by show(true && (true && (true && (pv.live && (bv.live && true)))))=true;rw[hpvl,hbvl];rfl) (.exact 1) (KL _)) (by show(true && (true && (true && (pv.scal && (bv.scal && true)))))=true;rw[hpvs,hbvs];rfl) (by simp) (by simp only[Zn];omega) (by simp only[Zn];omega) fun ov2 op2 h5 hg2 _ hS5=>?_;have hov2l:=hg2.live;simp+decide only[qP,↓qa];change Awp _ _ _ _ _ _ _;refine Qv [0,1,2,8,9,10] (by rfl) ?_;simp+decide only[XD,Xi,↓qc,↓qd,↓qa,hwi];try simp only[QL]
  refine⟨⟨T++b.text,ps++[(b.cur.done,pv,bv)],ov2,op2,Wl [E,pp,tp,bp,E2],h5⟩,by simp only[Jn,Jb,JF,hpe];rfl,Vi _,⟨?_,by rw[JI];exact hg2,?_,by simp only[Jb,JF];omega,?_⟩,by simp only[Jb,JF];omega⟩
  ·have hS6:=(BX (ps:=[E,pp,tp,bp,E2]) (hS5.pick [2,3,4,5,6,0,1] (by decide) (by simp))).pick [1,2,0] (by decide) (by simp)
   exact hS6
  ·have hsu:=Xy (ps:=[E,pp,tp,bp,E2]) (hS5.pick [2,3,4,5,6] (by decide) (by simp)).2
   intro q hq;rcases JV.1 hq with hq|hq
   ·exact⟨(hpq q hq).1.mono (hsu E (by simp)),(hpq q hq).2.mono (hsu E (by simp)) fun _ _ hz=>hz.mono (hsu E (by simp))⟩
   ·rw[V4.1 hq]
    exact⟨qnS hcur (hsu pp (by simp)) (hsu tp (by simp)) (hsu E2 (by simp)),qnT hcur (hsu bp (by simp)) (hsu E2 (by simp))⟩
  ·rw[hgo2,JI]
   simp only[Jb,JF];rw[show 4-(ps.length+1)=3-ps.length by omega];rfl
 ·try simp only[qG]at hb1
  have hgoS:R=(T,ps.map (·.1)):=by
   rw[hgo];exact qhC _ _ _ _ _ _ _ (by rw[Jn];omega)
  refine Qk ?_;change Awp _ _ _ _ _ _ _;refine qi ?_;refine awp_rseq [8,9,54] (by rfl) fun K hK=>?_;simp+decide only[QK,qK,Qh,XA,↓qc,↓Qi,↓qd,nov];apply hK;clear hK K;refine qz (b:=_) rfl (fun hb2=>?_) (fun hb2=>?_)
  ·try simp only[qG]at hb2
   have hp0:ps=[]:=Kg (by omega);refine awp_rseq [6,7] (by rfl) fun K hK=>?_;simp+decide only[qV,QW,Zo,↓XO,↓QN,qta];refine qO (cs:=[.str [], .nilSlice]) (by kernel_rfl) fun k11q1 hk11q1=>?_;have hn_11q1:H k11q1=none:=by first|assumption|(simp only[Bd]at hk11q1;simp only[hk11q1])
   have hf_11q1:h k11q1=none:=Be hs_H hn_11q1;simp+decide only[qV,QW,Zo,↓XO,↓QN,qmT];refine qO (cs:=[.str contC.verb, .int .i64 0, .int .i64 0, .slice (.own k11q1) 0 1 (.exact 1), .nilSlice]) (by kernel_rfl) fun k11q3 hk11q3=>?_;have ne_11q3_11q1:k11q3≠k11q1:=by simp only[Bd]at hk11q3;simp only[Yv,hk11q3]
   have hn_11q3:H k11q3=none:=by first|assumption|(simp only[Bd]at hk11q3;simp only[hk11q3])
   have hf_11q3:h k11q3=none:=Be hs_H hn_11q3;simp+decide only[qP,↓qa];apply hK;clear hK K;refine qW ?_;try simp only[XB]
   refine Qb (qA (qA (qC))) ?_;simp+decide only[qV,Zz];have hR2:R.2=[]:=by rw[hgoS,hp0];rfl
   rw[if_pos hR2];obtain⟨B1,hB1⟩:∃B1:Blk,B1=⟨[.str [], .nilSlice],0⟩:=⟨_,rfl⟩
   obtain⟨B2,hB2⟩:∃B2:Blk,B2=⟨[.str contC.verb, .int .i64 0, .int .i64 0, .slice (.own k11q1) 0 1 (.exact 1), .nilSlice],0⟩:=⟨_,rfl⟩
   have hA:=Eb (Eb (hS.pick [0] (by decide) (by simp)) hk11q1 B1) (by rw[hB1];exact hk11q3) B2;simp only[VX,QW,Xf]at hA;have hsu:=Xy (ps:=[one k11q1 B1,one k11q3 B2]) (hA.pick [1,2] (by decide) (by simp)).2;refine⟨_,Vi _,_,Wl [one k11q1 B1,one k11q3 B2],rfl,contV ((hsu (one k11q1 B1) (by simp) k11q1 _ (one_at _ _)).trans (by rw[hB1])) ((hsu (one k11q3 B2) (by simp) k11q3 _ (one_at _ _)).trans (by rw[hB2])),?_⟩;have hB:=(BX (ps:=[one k11q1 B1,one k11q3 B2]) (hA.pick [1,2,0] (by decide) (by simp))).pick [1,0] (by decide) (by simp);rw[hB1,hB2]at hB|-
   exact hB
  ·try simp only[qG]at hb2
   have hp0:ps≠[]:=fun e=>hb2 (by rw[e];rfl);refine qF ?_;change Awp _ _ _ _ _ _ _;refine awp_rseq [6,7] (by rfl) fun K hK=>?_;simp+decide only[Xp,↓qc,↓qa];apply hK;clear hK K;refine qW ?_;refine Qb (qA (qA (qC))) ?_;simp+decide only[qV,Zz];have hR2:R.2≠[]:=by
    rw[hgoS];exact fun e=>hp0 (Vz.1 e)
   rw[if_neg hR2,hgoS];have hsu:=Xy (ps:=[op,E]) (hS.pick [1,2] (by decide) (by simp)).2;exact⟨_,Vi _,ov,Wl [op,E],rfl,⟨ps,rfl,hg.isL (hsu op (by simp)),fun q hq=>⟨(hpq q hq).1.mono (hsu E (by simp)),(hpq q hq).2.mono (hsu E (by simp)) fun _ _ hz=>hz.mono (hsu E (by simp))⟩⟩,(BX (ps:=[op,E]) (hS.pick [1,2,0] (by decide) (by simp))).pick [1,0] (by decide) (by simp)⟩
theorem qob(w0:World)(hm:MaxL w0)(ha:Asp w0):∀(f dx depth:Nat),depth<=5->6<=f+depth->qeG w0 f dx depth
 |0,_,_,h5,h6=>by omega
 |f+1,dx,depth,h5,h6=>c_build1 w0 hm ha f dx depth (fun h4 dx'=>qob w0 hm ha f dx' (depth+1) (by omega) (by omega)) (by omega)
end Go.Proofs.YtgiadjbiimkbiaaGreatDoor
namespace Go.Stm
open Go.Col (Str)
open Go.Tok
open Go.Proofs.YtgiadjbiimkbiaaGreatDoor (qdt)
set_option maxRecDepth 100000
section
variable (W:List XC->Int->Int) (most:Int)
def qdY:List ZC->Int->Int
 |[],n=>n
 |z::zs,n=>if n<=most then qdY zs (n+W z.2.2.1 (most-n))else n
def qmh(deep:Bool)(x:XC)(n:Int):Int:=
 let n1:=n+((x.p.length / 2:Nat):Int)+((x.b.length / 2:Nat):Int)
 if deep=true then qdY W most x.b n1 else n1
def qbd(deep:Bool):List XC->Int->Int
 |[],n=>n
 |x::xs,n=>if n<=most then qbd deep xs (qmh W most deep x n)else n
end
def qbe:Nat->List XC->Int->Int
 |0,l,most=>qbd (fun _ _=>0) most false l l.length
 |f+1,l,most=>qbd (qbe f) most true l l.length
def LenX(m:Nat):Nat->List XC->Prop
 |0,l=>l.length<=m/\∀x∈l,x.p.length<=m/\x.b.length<=m
 |f+1,l=>l.length<=m/\∀x∈l,x.p.length<=m/\x.b.length<=m/\∀z∈x.b,LenX m f z.2.2.1
theorem LenX.len{m:Nat}:∀{f:Nat} {l:List XC},LenX m f l->l.length<=m
 |0,_,h=>h.1
 |_+1,_,h=>h.1
theorem LenX.xs{m:Nat}:∀{f:Nat} {l:List XC},LenX m f l->∀x∈l,x.p.length<=m/\x.b.length<=m
 |0,_,h,x,hx=>h.2 x hx
 |_+1,_,h,x,hx=>⟨(h.2 x hx).1,(h.2 x hx).2.1⟩
theorem qlZ{W:List XC->Int->Int}{most:Int}{m:Nat}:∀{zs:List ZC} {n:Int},(∀z∈zs,∀k:Int,0<=k->k<=most->0<=W z.2.2.1 k/\W z.2.2.1 k<=k+m)->0<=n->n<=most+m->n<=qdY W most zs n/\qdY W most zs n<=most+m
 |[],n,_,_,h=>⟨EK _,h⟩
 |z::zs,n,hW,h0,h=>by
  rw[qdY];split
  ·rename_i hn
   obtain⟨a,b⟩:=hW z Je (most-n) (by omega) (by omega);obtain⟨c,d⟩:=qlZ (zs:=zs) (n:=n+W z.2.2.1 (most-n)) (fun z hz=>hW z (Jf _ hz)) (by omega) (by omega);exact⟨by omega,d⟩
  ·exact⟨EK _,h⟩
theorem qoB{W:List XC->Int->Int}{most:Int}{m:Nat}{deep:Bool}{x:XC}{n:Int}(hW:deep=true->∀z∈x.b,∀k:Int,0<=k->k<=most->0<=W z.2.2.1 k/\W z.2.2.1 k<=k+m)(hp:x.p.length<=m)(hb:x.b.length<=m)(h0:0<=n)(h:n<=most):
 n+((x.p.length / 2:Nat):Int)+((x.b.length / 2:Nat):Int)<=qmh W most deep x n/\qmh W most deep x n<=most+m:=by
 unfold qmh;simp only;split
 ·rename_i hd
  exact qlZ (hW hd) (by omega) (by omega)
 ·exact⟨EK _,by omega⟩
theorem qhN{W:List XC->Int->Int}{most:Int}{m:Nat}{deep:Bool}:∀{l:List XC} {n:Int},(∀x∈l,x.p.length<=m/\x.b.length<=m/\(deep=true->∀z∈x.b,∀k:Int,0<=k->k<=most->0<=W z.2.2.1 k/\W z.2.2.1 k<=k+m))->0<=n->n<=most+m->n<=qbd W most deep l n/\qbd W most deep l n<=most+m
 |[],n,_,_,h=>⟨EK _,h⟩
 |x::l,n,hl,h0,h=>by
  rw[qbd];split
  ·rename_i hn
   obtain⟨a,b,c⟩:=hl x Je;obtain⟨d,e⟩:=qoB (deep:=deep) (n:=n) c a b h0 hn;obtain⟨f,g⟩:=qhN (l:=l) (fun x hx=>hl x (Jf _ hx)) (by omega:0<=qmh W most deep x n) e;exact⟨by omega,g⟩
  ·exact⟨EK _,h⟩
theorem qlY{m:Nat}:∀{f:Nat} {l:List XC} {most:Int},LenX m f l->0<=most->0<=qbe f l most/\qbe f l most<=most+m
 |0,l,most,h,h0=>by
  have:=h.len;obtain⟨a,b⟩:=qhN (W:=fun _ _=>0) (most:=most) (m:=m) (deep:=false) (l:=l) (n:=l.length) (fun x hx=>⟨(h.2 x hx).1,(h.2 x hx).2,fun z=>by cases z⟩) (by omega) (by omega);exact⟨by show 0<=qbd _ _ _ _ _;omega,b⟩
 |f+1,l,most,h,h0=>by
  have:=h.len;obtain⟨a,b⟩:=qhN (W:=qbe f) (most:=most) (m:=m) (deep:=true) (l:=l) (n:=l.length) (fun x hx=>⟨(h.2 x hx).1,(h.2 x hx).2.1,fun _ z hz k hk _=>qlY ((h.2 x hx).2.2 z hz) hk⟩) (by omega) (by omega);exact⟨by show 0<=qbd _ _ _ _ _;omega,b⟩
end Go.Stm
namespace Go.Stm
def qdW:Nat->List XC->Int->Int
 |0=>fun _ _=>0
 |f+1=>qbe f
def qde(f:Nat):Bool:=decide (0<f)
theorem weighE_eq(f:Nat)(l:List XC)(most:Int):qbe f l most=qbd (qdW f) most (qde f) l l.length:=by cases f<;>rfl
theorem LenX.at_{m f:Nat}{l:List XC}(h:LenX m f l){x:XC}(hx:x∈l)(hf:qde f=true):∃g,f=g+1/\∀z∈x.b,LenX m g z.2.2.1:=by
 cases f with
 |zero=>cases hf
 |succ g=>exact⟨g,rfl,(h.2 x hx).2.2⟩
end Go.Stm
namespace Go.Proofs.YtgiadjbiimkbiaaGreatDoor
open Go.AM
open Go.Proofs
open Go.Col (Str FaultC okF)
open Go.Tok (TokC)
open Go.Stm
open Go.RowKit (Below)
set_option maxRecDepth 100000
theorem XsV.els{w0:World}{h:AHeap}{d:Nat}{v:AVal}{l:List XC}(hX:XsV w0 d h v l):∃qs:List (XC×AVal×AVal),l=qs.map (·.1)/\IsL w0 h 4 v (qs.map xC)/\∀q∈qs,YsV w0 h q.2.1 q.1.p/\∃d',ZsV w0 (XsV w0 d' h) h q.2.2 q.1.b:=by
 cases d with
 |zero=>exact⟨[],hX.1,hX.2,fun q hq=>by cases hq⟩
 |succ d=>
  obtain⟨qs,a,b,c⟩:=hX;exact⟨qs,a,b,fun q hq=>⟨(c q hq).1,d,(c q hq).2⟩⟩
structure WgG where
 i:Nat
 n:Int
set_option maxHeartbeats 16000000 in
theorem qpL(w0:World)(f d:Nat)(h:AHeap)(v:AVal)(l:List XC)(most:Int)(hf:f<=8)(hX:XsV w0 d h v l)(hL:LenX 140737488355328 f l)(h0:0<=most)(h6:most<=1000000)
 (ih:∀g,f=g+1->∀(d:Nat) (v:AVal) (l:List XC) (most:Int),XsV w0 d h v l->LenX 140737488355328 g l->0<=most->most<=1000000->ACall Tryz.prog w0 32 [v, .int .i64 most, .int .i64 ((8-g:Nat):Int)] h (fun r h'=>r= .int .i64 (qbe g l most)/\h'=h)):
 ACall Tryz.prog w0 32 [v, .int .i64 most, .int .i64 ((8-f:Nat):Int)] h (fun r h'=>r= .int .i64 (qbe f l most)/\h'=h):=by
 obtain⟨hvl,hvs,hvc⟩:=hX.shape;obtain⟨qs,hqe,hqL,hqo⟩:=hX.els;have nv:∀H:AHeap,Zl Tryz.prog H 35 v=⟨True, .int .i64 qs.length⟩:=fun H=>by have:=hqL.len Tryz.underlying35 H;rwa [Jn]at this
 have hln:l.length=qs.length:=by rw[hqe,Jn]
 have hl2:=hL.len;have hWb:∀x∈l,qde f=true->∀z∈x.b,∀k:Int,0<=k->k<=most->0<=qdW f z.2.2.1 k/\qdW f z.2.2.1 k<=k+(140737488355328:Nat):=fun x hx hdp z hz k hk _=>by
  obtain⟨g,rfl,hg⟩:=hL.at_ hx hdp;exact qlY (hg z hz) hk
 rw[weighE_eq];obtain⟨R,hR⟩:∃R,R=qbd (qdW f) most (qde f) l l.length:=⟨_,rfl⟩
 rw[<-hR];have hdp:qde f=decide (((8-f:Nat):Int)<8):=by unfold qde;rw[decide_eq_decide];omega
 have hwd:IntKind.i64.wrap (((8-f:Nat):Int)+1)=((8-f:Nat):Int)+1:=wrap_i64 (by omega) (by omega);refine qR (n:=77) (rs:=[.tmp 6]) Tryz.func32 rfl rfl rfl rfl (VY rfl) ?_;simp only[qU];refine awp_rseq [0,1,2] (by rfl) fun K hK=>?_;simp+decide only[qP,↓qa,Nat.reduceAdd];apply hK;clear hK K;refine awp_rseq [0,1,2,7] (by rfl) fun K hK=>?_;simp+decide only[Xp,Qh,↓qc,↓Qi,↓qa,nv];apply hK;clear hK K;refine qi ?_;refine awp_rseq [0,1,2,7,8] (by rfl) fun K hK=>?_;simp+decide only[qP,↓qa];apply hK;clear hK K;refine qI ?_;refine Qj [0,1,2,7,8] (fun g:WgG=>[(0,v),(1, .int .i64 most),(2, .int .i64 ((8-f:Nat):Int)),(7, .int .i64 g.n),(8, .int .i64 g.i)]) (fun g:WgG=>h) (fun g:WgG=>g.i<=qs.length/\0<=g.n/\g.n<=most+140737488355328/\R=qbd (qdW f) most (qde f) (l.drop g.i) g.n) (fun g:WgG=>qs.length-g.i) ⟨0,qs.length⟩ (by rfl) (Vi _) ⟨Jq _,by simp only;omega,by simp only;omega,by rw[Vn,<-hln];exact hR⟩ ?_;rintro⟨i,n⟩ ⟨hi,hn0,hn1,hg⟩;simp only at hi hn0 hn1 hg|-
 refine qi ?_;refine awp_rseq [0,1,2,7,8,20] (by rfl) fun K hK=>?_;simp+decide only[Xk,qj,ZH,Yl,QS,QY,↓qc,↓Qi,↓qd,↓Qy,↓Qn,qrW,↓Qd,nv];apply hK;clear hK K;refine qz (b:=_) rfl (fun hb1=>?_) (fun hb1=>?_)
 ·try simp only[qG]at hb1
  have hi1:i<qs.length:=by omega
  have hnm:n<=most:=by omega
  obtain⟨lc,o,cc,hpe⟩:=hqL.open (fun e=>by rw[Vz]at e;rw[e]at hi1;cases hi1);have hq2:=hqL;rw[hpe]at hq2;obtain⟨e0,e1,e2,e3⟩:=x_at hq2 hi1;obtain⟨q,hqq⟩:∃q,q=qs.getD i qse:=⟨_,rfl⟩
  rw[<-hqq]at e0 e1 e2 e3;have hqm:q∈qs:=by rw[hqq,Ko,JB hi1];exact Vw hi1
  obtain⟨hqY,dx',hqZ⟩:=hqo q hqm;obtain⟨hyl,hys,hyc⟩:=hqY.shape;obtain⟨hzl,hzs,hzc⟩:=hqZ.shape;have hxm:q.1∈l:=by rw[hqe];exact BK hqm
  obtain⟨hxp,hxb⟩:=hL.xs q.1 hxm;obtain⟨ys,hye,hyL,-⟩:=id hqY;obtain⟨zs,hze,hzL,hzo⟩:=id hqZ;have hyn:q.1.p.length=ys.length:=by rw[hye,Jn]
  have hzn:q.1.b.length=zs.length:=by rw[hze,Jn]
  have ny:∀H:AHeap,Zl Tryz.prog H 28 q.2.1=⟨True, .int .i64 ys.length⟩:=fun H=>by have:=hyL.len Tryz.underlying28 H;rwa [Jn]at this
  have nz:∀H:AHeap,Zl Tryz.prog H 29 q.2.2=⟨True, .int .i64 zs.length⟩:=fun H=>by have:=hzL.len Tryz.underlying29 H;rwa [Jn]at this
  have hib:(0<=(i:Int)/\(i:Int)<(qs.length:Int))=True:=eq_true ⟨by omega,by omega⟩;have hqy:Int.tdiv (ys.length:Int) 2=((ys.length / 2:Nat):Int):=by rw[EL (by omega)];exact(EM _ 2).symm
  have hqz:Int.tdiv (zs.length:Int) 2=((zs.length / 2:Nat):Int):=by rw[EL (by omega)];exact(EM _ 2).symm
  have hwy:IntKind.i64.wrap ((ys.length / 2:Nat):Int)=((ys.length / 2:Nat):Int):=wrap_i64 (by omega) (by omega);have hwz:IntKind.i64.wrap ((zs.length / 2:Nat):Int)=((zs.length / 2:Nat):Int):=wrap_i64 (by omega) (by omega);have hw1:IntKind.i64.wrap (n+((ys.length / 2:Nat):Int))=n+((ys.length / 2:Nat):Int):=wrap_i64 (by omega) (by omega);have hw2:IntKind.i64.wrap (n+((ys.length / 2:Nat):Int)+((zs.length / 2:Nat):Int))=n+((ys.length / 2:Nat):Int)+((zs.length / 2:Nat):Int):=wrap_i64 (by omega) (by omega);have hwi:IntKind.i64.wrap ((i:Int)+1)=((i+1:Nat):Int):=by rw[wrap_i64 (by omega) (by omega)];omega
  obtain⟨n1,hn1E⟩:∃n1,n1=n+((ys.length / 2:Nat):Int)+((zs.length / 2:Nat):Int):=⟨_,rfl⟩
  rw[<-hn1E]at hw2;have hdrop:l.drop i=q.1::l.drop (i+1):=by
   rw[Vb (by omega)];congr 1;have:l[i]?=some q.1:=by rw[hqe,VA,JB hi1,hqq,Ko,JB hi1];rfl
   rw[JB (by omega)]at this;exact Option.some.inj this
  rw[hdrop,qbd,if_pos hnm]at hg;obtain⟨m,hmE⟩:∃m,m=qmh (qdW f) most (qde f) q.1 n:=⟨_,rfl⟩
  have hmB:=qoB (deep:=qde f) (n:=n) (hWb q.1 hxm) hxp hxb hn0 hnm;rw[<-hmE]at hg hmB;have hmE2:m=if qde f=true then qdY (qdW f) most q.1.b n1 else n1:=by rw[hmE,hn1E,<-hyn,<-hzn];rfl
  refine qF ?_;change Awp _ _ _ _ _ _ _;refine qi ?_;refine qI ?_;refine UD [0,1,2,7,8] mixed (by kernel_rfl) (by rfl) (by rfl) fun K hK=>?_;simp+decide only[QK,XI,VD,qj,Qh,XJ,Jn,qdl,↓qc,↓qJ,qg Tryz.underlying35 qng,↓qh,↓qo,qf qok,↓Qi,↓qd,qig,hpe,e1,hyl,ny,hib,hqy,hwy,hw1];try simp+decide only[XK,QO,Za,QH,XI,VD,qj,Qh,XJ,Jn,qcO,qf qlT,↓Qi,↓qd,qig,↓qa,e2,hzl,nz,hqz,hwz,<-hn1E,hw2]
  apply hK;clear hK K;refine awp_rseq [0,1,2,7,8,9] (by rfl) fun K hK=>?_;simp+decide only[qP,↓qa];apply hK;clear hK K;refine qI ?_;refine Qj [0,1,2,7,8,9] (fun g:WgG=>[(0,v),(1, .int .i64 most),(2, .int .i64 ((8-f:Nat):Int)),(7, .int .i64 g.n),(8, .int .i64 i),(9, .int .i64 g.i)]) (fun g:WgG=>h) (fun g:WgG=>g.i<=zs.length/\0<=g.n/\g.n<=most+140737488355328/\(qde f=true->m=qdY (qdW f) most (q.1.b.drop g.i) g.n)/\(qde f=false->m=g.n)) (fun g:WgG=>zs.length-g.i) ⟨0,n1⟩ (by rw[hpe,Jn];rfl) (Vi _) ⟨Jq _,by simp only;omega,by simp only;omega,fun hz=>by rw[hmE2,if_pos hz];rfl,fun hz=>by rw[hmE2,if_neg (by rw[hz];decide)]⟩ ?_;rintro⟨k,n2⟩ ⟨hk,hk0,hk1,hkt,hkf⟩;simp only at hk hk0 hk1 hkt hkf|-
  refine qi ?_;refine awp_rseq [0,1,2,7,8,9,56] (by rfl) fun K hK=>?_;simp+decide only[Xk,XI,VD,qj,ZH,qew,Jn,Yy,QS,QY,qcO,↓qc,↓qJ,qg Tryz.underlying35 qng,↓qh,↓qo,qf qlT,↓Qi,↓qd,↓Qy,↓Qn,qrW,↓Qd,hpe,e2,hzl,nz,hib];apply hK;clear hK K;refine qz (b:=_) rfl (fun hb2=>?_) (fun hb2=>?_)
  ·try simp only[qG]at hb2
   have hk2:k<zs.length:=by omega
   have hd8:qde f=true:=by rw[hdp];exact decide_eq_true (by omega)
   have hn2m:n2<=most:=by omega
   obtain⟨lz,oz,cz,hze2⟩:=hzL.open (fun e=>by rw[Vz]at e;rw[e]at hk2;cases hk2);have hz2:=hzL;rw[hze2]at hz2;obtain⟨g0,g1,g2,g3⟩:=z_at hz2 hk2;obtain⟨z,hzz⟩:∃z,z=zs.getD k qpb:=⟨_,rfl⟩
   rw[<-hzz]at g0 g1 g2 g3;have hzm:z∈zs:=by rw[hzz,Ko,JB hk2];exact Vw hk2
   have hzX:=(hzo z hzm).2;obtain⟨hul,hus,huc⟩:=hzX.shape;have hzb:z.1∈q.1.b:=by rw[hze];exact BK hzm
   obtain⟨f',hff,hfL⟩:=hL.at_ hxm hd8;have hkb:(0<=(k:Int)/\(k:Int)<(zs.length:Int))=True:=eq_true ⟨by omega,by omega⟩;have hw8:IntKind.i64.wrap (((8-f:Nat):Int)+1)=((8-f':Nat):Int):=by rw[hwd];omega
   have hwn:IntKind.i64.wrap (most-n2)=most-n2:=wrap_i64 (by omega) (by omega);have hWz:=hWb q.1 hxm hd8 z.1 hzb (most-n2) (by omega) (by omega);have hWe:qdW f=qbe f':=by rw[hff];rfl
   obtain⟨u,huE⟩:∃u,u=qbe f' z.1.2.2.1 (most-n2):=⟨_,rfl⟩
   rw[hWe,<-huE]at hWz;have hwu:IntKind.i64.wrap (n2+u)=n2+u:=wrap_i64 (by omega) (by omega);have hwk:IntKind.i64.wrap ((k:Int)+1)=((k+1:Nat):Int):=by rw[wrap_i64 (by omega) (by omega)];omega
   have hdz:q.1.b.drop k=z.1::q.1.b.drop (k+1):=by
    have hbl:k<q.1.b.length:=by omega
    rw[Vb hbl];congr 1;have:q.1.b[k]?=some z.1:=by rw[hze,VA,JB hk2,hzz,Ko,JB hk2];rfl
    rw[JB hbl]at this;exact Option.some.inj this
   refine qF ?_;change Awp _ _ _ _ _ _ _;refine qi ?_;refine qI ?_;refine Qv [0,1,2,7,8,9] (by rfl) ?_;simp+decide only[QK,XI,VD,qj,XJ,Jn,WW,qcO,↓qc,↓qJ,qg Tryz.underlying35 qng,↓qh,↓qo,qf qlT,qg Tryz.underlying29 qoz,qkT,qf ag35,↓qd,hpe,e2,hze2,g2,hul,hib,hkb,hw8,hwn];refine qE (by rfl) (by rfl) (ih f' hff _ z.2.2 z.1.2.2.1 (most-n2) hzX (hfL z.1 hzb) (by omega) (by omega)) fun x9q15 h9q15 hx9q15=>?_;obtain⟨rfl,rfl⟩:=hx9q15;rw[<-huE];simp+decide only[XK,QO,Za,QH,VD,qj,XJ,Jn,↓qd,↓qa,hwu];change Awp _ _ _ _ _ _ _;refine Qv [0,1,2,7,8,9] (by rfl) ?_;simp+decide only[XD,Xi,↓qc,↓qd,↓qa,hwk];try simp only[QL]
   exact⟨⟨k+1,n2+u⟩,by first|rfl|(rw[hpe,Jn];rfl),Vi _,⟨hk2,by simp only;omega,by simp only;omega,fun hz=>by rw[hkt hz,hdz,qdY,if_pos hn2m,hWe,<-huE],fun hz=>by rw[hd8]at hz;cases hz⟩,by simp only;omega⟩
  ·try simp only[qG]at hb2
   have hmk:m=n2:=by
    cases hz:qde f with
    |false=>exact hkf hz
    |true=>
     have hz8:((8-f:Nat):Int)<8:=by rw[hdp]at hz;exact of_decide_eq_true hz
     rw[hkt hz];by_cases hkl:k<zs.length
     ·have hbl:k<q.1.b.length:=by omega
      rw[Vb hbl,qdY,if_neg (by omega)]
     ·rw[EH (by omega)];rfl
   refine Qk ?_;change Awp _ _ _ _ _ _ _;refine Qv [0,1,2,7,8] (by rfl) ?_;simp+decide only[XD,Xi,↓qc,↓qd,↓qa,hwi];try simp only[QL]
   exact⟨⟨i+1,n2⟩,by rw[hpe,Jn];rfl,Vi _,⟨hi1,hk0,hk1,by rw[<-hmk];exact hg⟩,by simp only;omega⟩
 ·try simp only[qG]at hb1
  have hRn:R=n:=by
   rw[hg];by_cases hil:i<qs.length
   ·rw[Vb (by omega),qbd,if_neg (by omega)]
   ·rw[EH (by omega)];rfl
  refine Qk ?_;change Awp _ _ _ _ _ _ _;refine awp_rseq [6] (by rfl) fun K hK=>?_;simp+decide only[Xp,↓qc,↓qa];apply hK;clear hK K;refine qW ?_;refine QG h zqC (qA (qC)) ?_;simp+decide only[QE];rw[hRn]
theorem c_weigh(w0:World):∀(f d:Nat) (h:AHeap) (v:AVal) (l:List XC) (most:Int),f<=8->XsV w0 d h v l->LenX 140737488355328 f l->0<=most->most<=1000000->ACall Tryz.prog w0 32 [v, .int .i64 most, .int .i64 ((8-f:Nat):Int)] h (fun r h'=>r= .int .i64 (qbe f l most)/\h'=h)
 |0,d,h,v,l,most,hf,hX,hL,h0,h6=>qpL w0 0 d h v l most hf hX hL h0 h6 fun g hg=>by cases hg
 |f+1,d,h,v,l,most,hf,hX,hL,h0,h6=>qpL w0 (f+1) d h v l most hf hX hL h0 h6 fun g hg d v l most hX hL h0 h6=>by
  obtain rfl:f=g:=Nat.succ.inj hg;exact c_weigh w0 f d h v l most (by omega) hX hL h0 h6
def bigE(l:List XC)(most:Int):Bool:=decide (most<qbe 8 l most)
theorem c_big(w0:World)(d:Nat)(h:AHeap)(v:AVal)(l:List XC)(most:Int)(hX:XsV w0 d h v l)(hL:LenX 140737488355328 8 l)(h0:0<=most)(h6:most<=1000000):ACall Tryz.prog w0 14 [v, .int .i64 most] h (fun r h'=>r= .bool (bigE l most)/\h'=h):=by
 have hvl:=hX.shape.1;refine qR (n:=10) (rs:=[.tmp 4]) Tryz.func14 rfl rfl rfl rfl (VY rfl) ?_;simp only[qU];refine awp_rseq [0,1] (by rfl) fun K hK=>?_;simp+decide only[qP,↓qa];apply hK;clear hK K;refine awp_rseq [4] (by rfl) fun K hK=>?_;simp+decide only[Qe,↓qc];refine QC (V:= .int .i64 (qbe 8 l most)) (by rfl) (by rfl) (c_weigh w0 8 d _ v l most (KL _) hX hL h0 h6) ?_;simp+decide only[XD,qj,YG,↓qc,↓qd,↓qa];apply hK;clear hK K;refine qW ?_;refine QG h zqC (qA (qC)) ?_;simp+decide only[QE];all_goals first|rfl|exact⟨rfl,rfl⟩|(simp+decide only[QI, *];done)|(trace_state;fail)
end Go.Proofs.YtgiadjbiimkbiaaGreatDoor
namespace Go.Stm
open Go.Col (Str FaultC okF)
open Go.Tok
open Go.Proofs.YtgiadjbiimkbiaaGreatDoor (asciiB qbt bigE qdt qlW TxS)
set_option maxRecDepth 100000
def opsKn(k:Nat):List UInt8:=[KD k,KD (k / 3)].take (k%3)
def yK(k:Nat):YC:=⟨KD (k / 7),opsKn k,KD k⟩
def qip(k:Nat)(P:List YC)(j:Nat):XC:= .mk (KD (k / (j+2))) P [] (decide (k%2=0))
def zK(k:Nat)(P:List YC):ZC:=(KD (k / 5),opsKn k,(KP (k%3)).map (qip k P),KD (k / 3))
def qpd(k i:Nat):Nat:=(k*31+7*i+11)%100003
def kS(k:Nat):Nat->Nat
 |0=>k
 |i+1=>qpd (kS k i) i
def pS4(k:Nat):Nat->List YC
 |0=>[]
 |i+1=>pS4 k i++[yK (kS k i)]
def bS4(k:Nat):Nat->List ZC
 |0=>[]
 |i+1=>bS4 k i++[zK (kS k i) (pS4 k (i+1))]
def kAt:Nat->Nat
 |0=>1
 |n+1=>kS (kAt n) 4
def xK(n k:Nat):XC:= .mk (KD n) (pS4 k 4) (bS4 k 4) (decide (n%2=0))
def mK(k:Nat):XC:= .mk (KD k) [] [] false
theorem kS_lt{k:Nat}(h:k<100003):∀i,kS k i<100003
 |0=>h
 |_+1=>Km _ (by decide)
theorem kAt_lt:∀n,kAt n<100003
 |0=>by decide
 |n+1=>kS_lt (kAt_lt n) 4
def qjS(w:Str):List Str->Nat
 |[]=>0
 |r::rs=>(if (w++[58]).isPrefixOf r=true then 1 else 0)+qjS w rs
def qbf:List TokC->Nat
 |[]=>0
 |t::ts=>(if t.kind=1 then qjS t.text rowsT else 0)+qbf ts
def ascB:Nat->List StC->Bool
 |0,_=>true
 |m+1,l=>l.all fun s=>(asciiB s.verb && decide (s.verb.length<=1000)) && ((s.phrases.all fun p=>asciiB p.words) && s.bodies.all fun b=>asciiB b.1 && ascB m b.2.2)
def reB(m:Nat)(l:List StC):Bool:=decide (0<(XE m l).length) && (decide ((XU m [] l).length<=100000) && (((XE m l).all fun t=>decide (t.text.length<=1000000)) && match qaE qZ (XE m l) Qg 500 with
 |some (.ok L _)=>qhU 32 L && qbL 32 L l
 |_=>false))
def qkF:Nat->List XC->Bool
 |0,l=>decide (l.length<=1000) && l.all fun x=>decide (x.p.length<=1000) && decide (x.b.length<=1000)
 |f+1,l=>decide (l.length<=1000) && l.all fun x=>decide (x.p.length<=1000) && (decide (x.b.length<=1000) && x.b.all fun z=>qkF f z.2.2.1)
def qbN(a b:Str):Str:=a++[32,46,32,46,32]++b++[32,46]
def fineB(m:Nat)(l:List StC):Bool:=qhU m l && ascB m l
def gotB(L all:List StC)(c:Nat):Bool:=fineB 32 L && (fineB 6 all && (qbL 32 L all && (reB 32 L && (reB 6 all && (decide (0<L.length) && (decide ((L.getD 0 contC).line=1/\(L.getD 0 contC).col=8) && (decide (Zm 6 all<=1000000) && decide (qbt 6 all=c))))))))
def askB(A B:Str×List StC):Bool:=decide ((qbN A.1 B.1).length<=99999) && (asciiB (qbN A.1 B.1) && (decide (0<A.2.length/\0<B.2.length/\A.2.length<=4/\B.2.length<=4) && match qaE qZ (Qz (qbN A.1 B.1)) Qg 500 with
 |some (.ok L _)=>gotB L (A.2++B.2) (qbf (Qz (A.1++B.1)))
 |_=>false))
def caseB(l m:List XC):Bool:=qkF 8 l && (qkF 8 m && (!bigE l 40 && (!bigE m 20 && askB (XY 6 l 1 true) (XY 6 m 1 true))))
def XN(n:Nat):Bool:=caseB [xK n (kAt n)] [mK (kAt (n+1))]
end Go.Stm
namespace Go.Stm
open Go.Col (Str FaultC okF)
open Go.Tok
theorem qty(w:Str):∀rs:List Str,qjS w rs<=rs.length
 |[]=>KL _
 |r::rs=>by
  have:=qty w rs;rw[qjS,KX];split<;>omega
theorem qmb:∀l:List TokC,qbf l<=39*l.length
 |[]=>KL _
 |t::ts=>by
  have:=qmb ts;have h2:=qty t.text rowsT;rw[qfC]at h2;rw[qbf,KX];split<;>omega
theorem vrow_drop(w:Str){rs:List Str}{k:Nat}(hk:k<rs.length):qjS w (rs.drop k)=(if (w++[58]).isPrefixOf (rs.getD k [])=true then 1 else 0)+qjS w (rs.drop (k+1)):=by
 rw[Vb hk,qjS];simp[Ko,hk]
theorem qov{l:List TokC}{i:Nat}(hi:i<l.length):qbf (l.drop i)=(if (l.getD i noT).kind=1 then qjS (l.getD i noT).text rowsT else 0)+qbf (l.drop (i+1)):=by
 rw[Vb hi,qbf];simp[Ko,hi]
def verbsL:List Str:=Lib.fields qne
theorem qjV:verbsL.length=39:=by decide+kernel
structure VoG where
 i:Nat
 n:Nat
 H:Go.AM.AHeap
end Go.Stm
namespace Go.Proofs.YtgiadjbiimkbiaaGreatDoor
open Go.AM
open Go.Proofs
open Go.Col (Str FaultC okF)
open Go.Tok (TokC)
open Go.Stm
open Go.RowKit (Below)
set_option maxRecDepth 100000
theorem c_prefK(w0:World)(h:AHeap)(s g:Str):ACall Tryz.prog w0 8 [.str s, .str g] h (fun v h'=>v= .bool (g.isPrefixOf s)/\h'=h):=by
 refine Ut (vals:=[.string ⟨⟨s⟩⟩, .string ⟨⟨g⟩⟩]) (val:= .bool (g.isPrefixOf s)) Tryz.func8 rfl rfl (fun fi vs hv=>qiI hv) (fun fi=>rfl) fun w=>?_;refine(Tryz.strings_HasPrefix ⟨⟨s⟩⟩ ⟨⟨g⟩⟩ w).mono fun e w' ⟨e1,e2⟩=>⟨e1,?_⟩
 subst e2;exact Go.RowKit.Below.refl _ _
theorem c_Verbs(w0:World)(ha:Asp w0)(h:AHeap):ACall Tryz.prog w0 6 [] h (fun r h'=>∃k,h k=none/\r= .slice (.own k) 0 39 (.exact 39)/\h'=h.set k ⟨verbsL.map AVal.str,0⟩):=by
 have hvn:(Lib.fields qne).length=39:=qjV;refine qR (n:=2) (rs:=[.tmp 0]) Tryz.func6 rfl rfl rfl rfl (VY rfl) ?_;simp only[qU];refine awp_rseq [] (by rfl) fun K hK=>?_;simp+decide only[qP,↓qa];apply hK;clear hK K;refine awp_rseq [0] (by rfl) fun K hK=>?_;refine qE (by rfl) (by rfl) (qbG w0 ha _ qne (by decide) (by decide)) fun x1q0 h1q0 hx1q0=>?_;obtain⟨k,hk,e0,e1⟩:=hx1q0;rw[hvn]at e0;subst e0;simp+decide only[qP,↓qa];apply hK;clear hK K;refine qW ?_;refine Qb (qA (qC)) ?_;simp+decide only[QE];exact⟨_,Vi _,k,hk,rfl,e1⟩
set_option maxHeartbeats 8000000 in
theorem c_verbsOf(w0:World)(h:AHeap)(v:AVal)(l:List TokC)(hv:IsL w0 h 5 v (l.map Xg))(hl:l.length<=1000000)(hsh:Short l):
 ACall Tryz.prog w0 27 [v] h (fun r h'=>r= .int .i64 (qbf l)/\AM.Sub h h'):=by
 have hlv:=hv.live;have nv:=ZN hv;have hEl:=qmb l;obtain⟨T,hT⟩:∃T,T=rowsT:=⟨_,rfl⟩
 have hTl:T.length=39:=by rw[hT];exact qfC
 refine qR (n:=42) (rs:=[.tmp 2]) Tryz.func27 rfl rfl rfl rfl (VY rfl) ?_;simp only[qU];refine awp_rseq [0] (by rfl) fun K hK=>?_;simp+decide only[qP,↓qa];apply hK;clear hK K;refine awp_rseq [0,3] (by rfl) fun K hK=>?_;simp+decide only[qP,↓qa];apply hK;clear hK K;refine awp_rseq [0,3,4] (by rfl) fun K hK=>?_;refine qE (by rfl) (by rfl) (qsW w0 _) fun x2q0 h2q0 hx2q0=>?_;obtain⟨kr,hkr,rfl,e2⟩:=hx2q0;rw[<-hT]at e2;have hs2:AM.Sub h h2q0:=by rw[e2];exact Vj hkr
 have ebr:h2q0 kr=some ⟨T.map AVal.str,0⟩:=by rw[e2];exact Vh _ _ _
 have nr:=WC (Uv (w0:=w0) ebr);rw[hTl]at nr;have hs_h2q0:Sub h h2q0:=Br zqC hs2;have hr_h2q0:=hs_h2q0;simp+decide only[qP,↓qa];apply hK;clear hK K;refine qi ?_;refine awp_rseq [0,3,4,5] (by rfl) fun K hK=>?_;simp+decide only[qP,↓qa];apply hK;clear hK K;refine qI ?_;refine Qj [0,3,4,5] (fun g:VoG=>[(0,v),(3, .int .i64 g.n),(4, .slice (.own kr) 0 39 (.exact 39)),(5, .int .i64 g.i)]) (fun g:VoG=>h2q0) (fun g:VoG=>g.i<=l.length/\g.n+qbf (l.drop g.i)=qbf l) (fun g:VoG=>l.length-g.i) ⟨0,0,h⟩ (by rfl) (Vi _) ⟨Jq _,by rw[Vn,Jp]⟩ ?_;rintro⟨i,n,H0⟩ ⟨hi,hn⟩;simp only at hi hn|-
 refine qi ?_;refine awp_rseq [0,3,4,5,11] (by rfl) fun K hK=>?_;simp+decide only[QK,qj,Qh,QY,↓qc,↓Qi,↓qd,nv];apply hK;clear hK K;refine qz (b:=_) rfl (fun hb1=>?_) (fun hb1=>?_)
 ·try simp only[qG]at hb1
  have hi':i<l.length:=by omega
  obtain⟨lc,o,c,hve⟩:=Ye hv (by omega);obtain⟨t,ht⟩:∃t,t=l.getD i noT:=⟨_,rfl⟩
  have hv2:=hv.mono hs2;rw[hve]at hv2;obtain⟨e0,e1,-⟩:=WU hv2 hi';rw[<-ht]at e0 e1;have hst:=qov hi';rw[<-ht]at hst;have hwi:IntKind.i64.wrap ((i:Int)+1)=((i+1:Nat):Int):=by rw[wrap_i64 (by omega) (by omega)];omega
  have hts:t.text.length<=1000000:=by rw[ht];exact hsh.at hi'
  have hk1:decide ((t.kind.toNat:Int)=1)=decide (t.kind=1):=Yg t.kind 1;obtain⟨w,hw⟩:∃w,w=(if t.kind=1 then qjS t.text T else 0):=⟨_,rfl⟩
  rw[<-hT,<-hw]at hst;refine qF ?_;change Awp _ _ _ _ _ _ _;refine qi ?_;refine qI ?_;refine awp_rseq [0,3,4,5,6] (by rfl) fun K hK=>?_;simp+decide only[qP,↓qa];apply hK;clear hK K;refine qI ?_;refine Qj [0,3,4,5,6] (fun g:VoG=>[(0,v),(3, .int .i64 g.n),(4, .slice (.own kr) 0 39 (.exact 39)),(5, .int .i64 i),(6, .int .i64 g.i)]) (fun g:VoG=>h2q0) (fun g:VoG=>g.i<=39/\g.n+(if t.kind=1 then qjS t.text (T.drop g.i)else 0)=n+w) (fun g:VoG=>39-g.i) ⟨0,n,h⟩ (by rfl) (Vi _) ⟨Jq _,by rw[Vn,hw]⟩ ?_;rintro⟨k,m,H1⟩ ⟨hk,hm⟩;simp only at hk hm|-
  refine qi ?_;refine awp_rseq [0,3,4,5,6,25] (by rfl) fun K hK=>?_;simp+decide only[Xk,XI,VD,qj,K6,ZH,Yl,QS,QY,XA,Ze,Zt,ZF,Um,↓qc,↓Qi,QV Tryz.underlying22,↓qd,↓Qy,↓Zb,qjL,qjK,qg Tryz.underlying39 Yo,↓QM,↓Xv,qf qjA,↓Qn,↓Qd,hve,e0,hk1];repeat (with_reducible refine zqP ?_)
  apply hK;clear hK K;refine qz (b:=_) rfl (fun hb2=>?_) (fun hb2=>?_)
  ·try simp only[qG]at hb2
   obtain⟨hk39',hkd⟩:(k:Int)<39/\t.kind=1:=by simpa using hb2
   have hk39:k<39:=by omega
   have hkl:((k:Int)<39)=True:=eq_true (by omega);have er:=qaw (w0:=w0) ebr (i:=k) (by omega);have hvd:=vrow_drop t.text (rs:=T) (k:=k) (by omega);rw[if_pos hkd]at hm;have hwk:IntKind.i64.wrap ((k:Int)+1)=((k+1:Nat):Int):=by rw[wrap_i64 (by omega) (by omega)];omega
   have hwm:IntKind.i64.wrap ((m:Int)+1)=((m+1:Nat):Int):=by rw[wrap_i64 (by omega) (by omega)];omega
   have htl:(t.text.length+[(58:UInt8)].length<9223372036854775808)=True:=eq_true (by simp only[QF];omega);refine qF ?_;change Awp _ _ _ _ _ _ _;refine qi ?_;refine qI ?_;refine qez [0,3,4,5,6,38] mixed (by kernel_rfl) (by rfl) fun K hK=>?_;simp+decide only[Xj,qY,VD,ZE,ZO,Bi,ZJ,XZ,qbU,↓qjC,↓qdZ,qg Tryz.underlying22 sz9,↓qcW,qf ag9,qg Tryz.underlying39 Yo,↓ZU,↓qjT,e1,er,htl];repeat (with_reducible refine zqP ?_)
   refine qbg (V:= .bool ((t.text++[58]).isPrefixOf (T.getD k []))) (by rfl) (by rfl) (c_prefK w0 _ _ _) ?_;simp+decide only[qV,VD];apply hK;clear hK K;refine qz (b:=_) rfl (fun hb3=>?_) (fun hb3=>?_)
   ·skip
    rw[if_pos hb3]at hvd;refine Qv [0,3,4,5,6] (by rfl) ?_;simp+decide only[XD,Xi,↓qc,↓qd,↓qa,hwm];change Awp _ _ _ _ _ _ _;refine Qv [0,3,4,5,6] (by rfl) ?_;simp+decide only[XD,Xi,↓qc,↓qd,↓qa,hwk];try simp only[QL]
    first
    |exact⟨⟨k+1,m+1,h⟩,by first|rfl|(rw[hve];rfl),Vi _,⟨by simp only;omega,by simp only;rw[if_pos hkd];omega⟩,by simp only;omega⟩
    |exact⟨⟨k+1,m,h⟩,by first|rfl|(rw[hve];rfl),Vi _,⟨by simp only;omega,by simp only;rw[if_pos hkd];omega⟩,by simp only;omega⟩
   ·skip
    rw[if_neg (by rw[hb3];decide)]at hvd;refine qF ?_;change Awp _ _ _ _ _ _ _;refine Qv [0,3,4,5,6] (by rfl) ?_;simp+decide only[XD,Xi,↓qc,↓qd,↓qa,hwk];try simp only[QL]
    first
    |exact⟨⟨k+1,m+1,h⟩,by first|rfl|(rw[hve];rfl),Vi _,⟨by simp only;omega,by simp only;rw[if_pos hkd];omega⟩,by simp only;omega⟩
    |exact⟨⟨k+1,m,h⟩,by first|rfl|(rw[hve];rfl),Vi _,⟨by simp only;omega,by simp only;rw[if_pos hkd];omega⟩,by simp only;omega⟩
  ·try simp only[qG]at hb2
   have hmw:m=n+w:=by
    by_cases hkd:t.kind=1
    ·have h39':39<=(k:Int)\/¬t.kind=1:=by simpa using hb2
     have h39:k=39:=by
      rcases h39' with z|z
      ·omega
      ·exact absurd hkd z
     rw[if_pos hkd,h39,Bl (by omega),qjS]at hm;omega
    ·rw[if_neg hkd]at hm
     omega
   refine Qk ?_;change Awp _ _ _ _ _ _ _;refine Qv [0,3,4,5] (by rfl) ?_;simp+decide only[XD,Xi,↓qc,↓qd,↓qa,hwi];try simp only[QL]
   exact⟨⟨i+1,m,h⟩,by first|rfl|(rw[hve];rfl),Vi _,⟨by simp only;omega,by simp only;omega⟩,by simp only;omega⟩
 ·try simp only[qG]at hb1
  have hin:i=l.length:=by omega
  rw[hin,List.drop_length,qbf,K6]at hn;subst hn;refine Qk ?_;change Awp _ _ _ _ _ _ _;refine awp_rseq [2] (by rfl) fun K hK=>?_;simp+decide only[Xp,↓qc,↓qa];apply hK;clear hK K;refine qW ?_;refine QG h zqC (qA (qC)) ?_;simp+decide only[QE];exact Vi _
end Go.Proofs.YtgiadjbiimkbiaaGreatDoor
namespace Go.Stm
open Go.Col (Str FaultC okF)
open Go.Tok
set_option maxRecDepth 100000
theorem qdL(l:List TokC)(i j:Nat):(l.drop i).getD j noT=l.getD (i+j) noT:=by
 rw[Ko,Ko,List.getElem?_drop]
theorem qfR(l:List TokC)(i j:Nat):j<(l.drop i).length↔i+j<l.length:=by rw[K5];omega
theorem isAt_drop(l:List TokC)(i j:Nat)(w:Str):qlM (l.drop i) j w=qlM l (i+j) w:=by
 unfold qlM;rw[qdL];by_cases h:i+j<l.length
 ·rw[if_pos ((qfR l i j).2 h),if_pos h]
 ·rw[if_neg (fun q=>h ((qfR l i j).1 q)),if_neg h]
theorem qfh(l:List TokC)(i:Nat):∀(ws:List Str) (j:Nat),WJ l ws (i+j)=(WJ (l.drop i) ws j).map (i+ ·)
 |[],j=>rfl
 |w::ws,j=>by
  rw[WJ,WJ,isAt_drop];split
  ·rw[Kw,qfh l i ws (j+1)]
  ·split
   ·rfl
   ·exact qfh l i ws j
theorem qsB(l:List TokC)(i:Nat)(f:Str):qbc l i f=qbc (l.drop i) 0 f:=by
 unfold qbc;have:=qfh l i (Lib.fields f) 0;rw[K6]at this;rw[this];cases WJ (l.drop i) (Lib.fields f) 0 with
 |none=>rfl
 |some j=>simp
theorem WL(l:List TokC)(i:Nat)(F:Str):Qr l i F=Qr (l.drop i) 0 F:=by
 unfold Qr;simp only[qsB l i]
theorem qaL(l:List TokC)(i:Nat):isE l i=isE (l.drop i) 0:=by
 unfold isE;rw[qdL,K6];by_cases h:i<l.length
 ·rw[if_pos h,if_pos ((qfR l i 0).2 (by omega))]
 ·rw[if_neg h,if_neg (fun q=>h (by have:=(qfR l i 0).1 q;omega))]
theorem qcM(l:List TokC)(i:Nat):isV l i=isV (l.drop i) 0:=by
 unfold isV;rw[qdL,K6];by_cases h:i<l.length
 ·rw[if_pos h,if_pos ((qfR l i 0).2 (by omega))]
 ·rw[if_neg h,if_neg (fun q=>h (by have:=(qfR l i 0).1 q;omega))]
theorem UA(l:List TokC)(i:Nat):UT l i=UT (l.drop i) 0:=by
 unfold UT;rw[qdL,K6]
theorem UB{l:List TokC}{i:Nat}{t:TokC}{R:List TokC}(h:l.drop i=t::R):l.drop (i+1)=R:=by
 have:=congrArg (List.drop 1) h;rw[Em]at this;exact this
theorem YD{l:List TokC}{i:Nat}{t:TokC}{R:List TokC}(h:l.drop i=t::R):l.getD i noT=t:=by
 have:=qdL l i 0;rw[h,K6]at this;exact this.symm
def TEf:Str:=[84,72,69,78,59,69,76,83,69]
def EVf:Str:=[87,72,69,78,32,79,84,72,69,82,59,87,72,69,78]
def qaY:Str:=[67,79,78,84,73,78,85,69]
def qaW:Str:=[85,78,84,73,76]
def Aw:Str:=[65]
def Bw:Str:=[66]
def qtu:Str:=[69,78,68,45,73,70]
def ENDPERw:Str:=[69,78,68,45,80,69,82,70,79,82,77]
def ENDEVAw:Str:=[69,78,68,45,69,86,65,76,85,65,84,69]
def YT:List Str:=[[],TEf,EVf]
theorem qpp:Qg IFv=([],TEf):=by kernel_rfl
theorem forms_PER:Qg Zh=(qsz,[]):=by kernel_rfl
theorem forms_EVA:Qg Ym=([],EVf):=by kernel_rfl
theorem qsA:Qg qaY=([],[]):=by kernel_rfl
structure WordAt(l:List TokC)(i:Nat):Prop where
 e:isE l i=false
 n:UT l i=[]
 v:isV l i=false
 f:∀F∈YT,(Qr l i F).2=0
structure VerbAt(l:List TokC)(i:Nat):Prop where
 e:isE l i=false
 n:UT l i=[]
 v:isV l i=true
 f:∀F∈YT,(Qr l i F).2=0
structure EndAt(l:List TokC)(i:Nat)(w:Str):Prop where
 e:isE l i=false
 n:UT l i=w
 v:isV l i=false
theorem qmy{p:Str->Prop}(h0:p [])(h1:p TEf)(h2:p EVf):∀F∈YT,p F:=fun F hF=>by
 simp only[YT,KW,List.not_mem_nil,or_false]at hF;rcases hF with rfl|rfl|rfl<;>assumption
theorem word_at{l:List TokC}{i:Nat}{w:Str}{a b:Int}{c:Bool}{R:List TokC}(h:l.drop i=⟨1,w,a,b,c⟩::R)(hw:w=Aw\/w=qaW\/w=Bw):WordAt l i:=by
 rcases hw with rfl|rfl|rfl;all_goals refine⟨by rw[qaL,h];kernel_rfl,by rw[UA,h];kernel_rfl,by rw[qcM,h];kernel_rfl,qmy ?_ ?_ ?_⟩
 all_goals (rw[WL,h];kernel_rfl)
theorem verb_at{l:List TokC}{i:Nat}{w:Str}{a b:Int}{c:Bool}{R:List TokC}(h:l.drop i=⟨1,w,a,b,c⟩::R)(hw:w=qaY\/w=IFv\/w=Zh\/w=Ym):VerbAt l i:=by
 rcases hw with rfl|rfl|rfl|rfl;all_goals refine⟨by rw[qaL,h];kernel_rfl,by rw[UA,h];kernel_rfl,by rw[qcM,h];kernel_rfl,qmy ?_ ?_ ?_⟩
 all_goals (rw[WL,h];kernel_rfl)
def qbT:Nat->Str
 |1=>ENDPERw
 |2=>ENDEVAw
 |_=>qtu
def nestV:Nat->Str
 |1=>Zh
 |2=>Ym
 |_=>IFv
theorem end_at{l:List TokC}{i k:Nat}{a b:Int}{c:Bool}{R:List TokC}(h:l.drop i=⟨1,qbT k,a,b,c⟩::R):EndAt l i (nestV k):=by
 match k,h with
 |0,h=>exact⟨by rw[qaL,h];kernel_rfl,by rw[UA,h];kernel_rfl,by rw[qcM,h];kernel_rfl⟩
 |1,h=>exact⟨by rw[qaL,h];kernel_rfl,by rw[UA,h];kernel_rfl,by rw[qcM,h];kernel_rfl⟩
 |2,h=>exact⟨by rw[qaL,h];kernel_rfl,by rw[UA,h];kernel_rfl,by rw[qcM,h];kernel_rfl⟩
 |k+3,h=>exact⟨by rw[qaL,h];kernel_rfl,by rw[UA,h];kernel_rfl,by rw[qcM,h];kernel_rfl⟩
theorem Uw(O:List Str)(F:Str):(O++[F]).getLastD []=F:=by simp
theorem qha{l:List TokC}{i:Nat}{O:List Str}(F:Str)(hO:∀f∈O,f∈YT)(h:∀f∈YT,(Qr l i f).2=0):qdi l (O++[F]) i=false:=by
 unfold qdi;rw[List.dropLast_concat,List.any_eq_false];intro f hf;rw[h f (hO f hf)];decide
theorem qmA{O:List Str}{F:Str}(hO:∀f∈O,f∈YT)(hF:F∈YT):∀f∈O++[F],f∈YT:=fun f hf=>by
 rcases JV.1 hf with h|h
 ·exact hO f h
 ·rw[V4.1 h];exact hF
theorem qhP{l:List TokC}{c:Cur}{i:Nat}{ph:Str}(hb:c.bodies=[])(h:(Qr l i ph).2=0):qat l c ph i= .ok {c with phrases:=qtj c.phrases (l.getD i noT)} (i+1):=by
 unfold qat;rw[if_neg (by rw[hb];simp),if_pos h]
section
variable {l:List TokC} {d i:Nat} {O:List Str}
theorem qpi{s:StC}{j:Nat}(hv:isV l i=true)(h:StR qZ l Qg d O i (.ok s j))(hn:isV l j=false):ListR qZ l Qg d O i [] (.ok [s] j):=
 ListR.next hv h (EN hn)
def qkY(t u:TokC):Cur:=⟨t.text,t.line,t.col,[⟨[],[u]⟩],[]⟩
theorem qno{t u:TokC}{R:List TokC}{a b a' b':Int}{c c':Bool}(hO:∀f∈O,f∈YT)(ht:t=⟨1,IFv,a,b,c⟩)(hu:u=⟨1,Aw,a',b',c'⟩)(h:l.drop i=t::u::R){r:Rs (Cur×Bool)}
 (hr:LoopR qZ l Qg d (O++[TEf]) [] (qkY t u) (i+2) r):LoopR qZ l Qg d (O++[TEf]) [] (qch l i) (i+1) r:=by
 have h1:=UB h;subst ht hu;have w1:=word_at h1 (.inl rfl);refine EO w1.e w1.n (by rw[Uw];exact w1.f _ (by simp[YT])) w1.v (qha _ hO w1.f) (qhP rfl (w1.f [] (by simp[YT]))) ?_;rw[YD h1];unfold qch;rw[YD h];exact hr
theorem impl_IF(t u:TokC)(ht:t.text=IFv):ZK qZ (qkY t u)=some Yh:=by
 unfold ZK qkY;rw[if_neg (by simp),if_pos ht]
def qnU(t u:TokC):Cur:=⟨t.text,t.line,t.col,[⟨[],[]⟩,⟨qaW,[u]⟩],[]⟩
theorem until_at{w:TokC}{R:List TokC}{a b:Int}{c:Bool}(hw:w=⟨1,qaW,a,b,c⟩)(h:l.drop i=w::R):Qr l i qsz=(qaW,1):=by subst hw;rw[WL,h];kernel_rfl
theorem b_at{w:TokC}{R:List TokC}{a b:Int}{c:Bool}(hw:w=⟨1,Bw,a,b,c⟩)(h:l.drop i=w::R):(Qr l i qsz).2=0:=by subst hw;rw[WL,h];kernel_rfl
theorem pre_PER{t w u:TokC}{R:List TokC}{a b a' b' a2 b2:Int}{c c' c2:Bool}(hO:∀f∈O,f∈YT)(ht:t=⟨1,Zh,a,b,c⟩)(hw:w=⟨1,qaW,a2,b2,c2⟩)(hu:u=⟨1,Bw,a',b',c'⟩)(h:l.drop i=t::w::u::R){r:Rs (Cur×Bool)}
 (hr:LoopR qZ l Qg d (O++[[]]) qsz (qnU t u) (i+3) r):LoopR qZ l Qg d (O++[[]]) qsz (qch l i) (i+1) r:=by
 have h1:=UB h;have h2:=UB h1;have u1:=until_at hw h1;have b1:=b_at hu h2;subst ht hw hu;have w1:=word_at h1 (.inr (.inl rfl));have w2:=word_at h2 (.inr (.inr rfl));refine EO (c':=⟨Zh,a,b,[⟨[],[]⟩,⟨qaW,[]⟩],[]⟩) (j:=i+1+1) w1.e w1.n (by rw[Uw];exact w1.f _ (by simp[YT])) w1.v (qha _ hO w1.f) ?_ ?_
 ·unfold qat qch
  rw[u1,YD h,if_neg (by simp),if_neg (by simp),if_pos (by simp[qaW])];rfl
 ·refine EO w2.e w2.n (by rw[Uw];exact w2.f _ (by simp[YT])) w2.v (qha _ hO w2.f) (qhP rfl b1) ?_
  rw[YD h2];exact hr
theorem qpn(t u:TokC)(ht:t.text=Zh):ZK qZ (qnU t u)=some []:=by
 unfold ZK qnU;rw[if_neg (by simp),if_neg (fun e=>absurd (ht.symm.trans e) (by decide)),if_pos ⟨ht,rfl⟩]
theorem pre_EVA{t u:TokC}{R:List TokC}{a b a' b':Int}{c c':Bool}(hO:∀f∈O,f∈YT)(ht:t=⟨1,Ym,a,b,c⟩)(hu:u=⟨1,Aw,a',b',c'⟩)(h:l.drop i=t::u::R){r:Rs (Cur×Bool)}
 (hr:LoopR qZ l Qg d (O++[EVf]) [] (qkY t u) (i+2) r):LoopR qZ l Qg d (O++[EVf]) [] (qch l i) (i+1) r:=by
 have h1:=UB h;subst ht hu;have w1:=word_at h1 (.inl rfl);refine EO w1.e w1.n (by rw[Uw];exact w1.f _ (by simp[YT])) w1.v (qha _ hO w1.f) (qhP rfl (w1.f [] (by simp[YT]))) ?_;rw[YD h1];unfold qch;rw[YD h];exact hr
theorem when_at{w u:TokC}{R:List TokC}{a b a' b':Int}{c c':Bool}(hw:w=⟨1,XT,a,b,c⟩)(hu:u=⟨2,[49],a',b',c'⟩)(h:l.drop i=w::u::R):isE l i=false/\UT l i=[]/\Qr l i EVf=(XT,1):=by
 subst hw hu;refine⟨by rw[qaL,h];kernel_rfl,by rw[UA,h];kernel_rfl,by rw[WL,h];kernel_rfl⟩
theorem one_at{u:TokC}{R:List TokC}{a b:Int}{c:Bool}(hu:u=⟨2,[49],a,b,c⟩)(h:l.drop i=u::R):isE l i=false/\isV l i=false/\UT l i=[]/\(Qr l i EVf).2=0:=by
 subst hu;refine⟨by rw[qaL,h];kernel_rfl,by rw[qcM,h];kernel_rfl,by rw[UA,h];kernel_rfl,by rw[WL,h];kernel_rfl⟩
theorem then_at{w:TokC}{R:List TokC}{a b:Int}{c:Bool}(hw:w=⟨1,Yh,a,b,c⟩)(h:l.drop i=w::R):isE l i=false/\UT l i=[]/\Qr l i TEf=(Yh,1):=by
 subst hw;refine⟨by rw[qaL,h];kernel_rfl,by rw[UA,h];kernel_rfl,by rw[WL,h];kernel_rfl⟩
theorem head_one{u:TokC}{R:List TokC}{a b:Int}{c:Bool}(hu:u=⟨2,[49],a,b,c⟩)(h:l.drop (i+1)=u::R)(hv:VerbAt l (i+2)):headW l (O++[EVf]) XT 1 i=([u],i+2):=by
 obtain⟨o1,o2,o3,o4⟩:=one_at hu h;have hlen:i+2<l.length:=by
  have:=hv.v;unfold isV at this;by_cases z:i+2<l.length
  ·exact z
  ·rw[if_neg z]at this;cases this
 unfold headW qtw;rw[if_pos rfl,Uw];obtain⟨m,hm⟩:∃m,l.length-(i+1)=m+1+1:=⟨l.length-(i+1)-2,by omega⟩
 rw[hm,qcu,if_neg (by rw[o1,o2,o3,o4];simp),qcu,if_pos (.inr (.inl hv.v)),YD h];rfl
end
section
variable {l:List TokC} {d i:Nat} {O:List Str}
theorem qnD(F w:Str)(hw:w≠XT)(n p:Nat):headW l (O++[F]) w n p=([],p+n):=by unfold headW;rw[if_neg hw]
theorem step_IF{t u:TokC}{R:List TokC}{a b a' b':Int}{c c':Bool}(hd:¬32<d)(hO:∀f∈O,f∈YT)(ht:t=⟨1,IFv,a,b,c⟩)(hu:u=⟨1,Aw,a',b',c'⟩)(h:l.drop i=t::u::R)(hv:VerbAt l (i+2)):
 (∀s q,ListR qZ l Qg (d+1) (O++[TEf]) (i+2) [] (.ok [s] q)->EndAt l q IFv->StR qZ l Qg d O i (.ok (.mk IFv t.line t.col [⟨[],[u]⟩] [(Yh,[],[s])]) (q+1)))/\
 (∀e,ListR qZ l Qg (d+1) (O++[TEf]) (i+2) [] (.bad e)->StR qZ l Qg d O i (.bad e)):=by
 have hf:Qg (l.getD i noT).text=([],TEf):=by rw[YD h,ht];exact qpp
 have htx:t.text=IFv:=by rw[ht]
 have hst:(Qr l (i+2) ((O++[TEf]).getLastD [])).2=0:=by rw[Uw];exact hv.f _ (by simp[YT])
 have hh:=qnD (l:=l) (O:=O) TEf Yh (by decide) 0 (i+2);have h2:¬(Yh=XT/\(headW l (O++[TEf]) Yh 0 (i+2)).1=[]):=fun z=>absurd z.1 (by decide);have h1:twice (qkY t u) Yh=false:=rfl;refine⟨fun s q hl he=>?_,fun e hl=>?_⟩
 ·have hb:=EP (W:=qZ) (forms:=Qg) (L:=[s]) (k:=q) h1 h2 (by rw[hh];exact hl) (by unfold qdm;rfl)
  rw[hh]at hb;refine EQ (c:=⟨t.text,t.line,t.col,[⟨[],[u]⟩],[(Yh,[],[s])]⟩) (b:=true) hd ?_ (by unfold qct;rw[if_pos htx];rfl) |> fun z=>by rw[<-htx];exact z
  rw[hf];refine qno hO ht hu h (ER hv.e hv.n hst hv.v (impl_IF t u htx) hb ?_);exact ES he.e (he.n.trans htx.symm) (by rw[he.n];decide)
 ·refine ET hd ?_
  rw[hf];exact qno hO ht hu h (EU hv.e hv.n hst hv.v (impl_IF t u htx) (EW h1 h2 (by rw[hh];exact hl)))
theorem step_THEN{t u w:TokC}{R:List TokC}{a b a' b' a2 b2:Int}{c c' c2:Bool}(hd:¬32<d)(hO:∀f∈O,f∈YT)(ht:t=⟨1,IFv,a,b,c⟩)(hu:u=⟨1,Aw,a',b',c'⟩)(hw:w=⟨1,Yh,a2,b2,c2⟩)(h:l.drop i=t::u::w::R):
 (∀s q,ListR qZ l Qg (d+1) (O++[TEf]) (i+3) [] (.ok [s] q)->EndAt l q IFv->StR qZ l Qg d O i (.ok (.mk IFv t.line t.col [⟨[],[u]⟩] [(Yh,[],[s])]) (q+1)))/\
 (∀e,ListR qZ l Qg (d+1) (O++[TEf]) (i+3) [] (.bad e)->StR qZ l Qg d O i (.bad e)):=by
 have hf:Qg (l.getD i noT).text=([],TEf):=by rw[YD h,ht];exact qpp
 have htx:t.text=IFv:=by rw[ht]
 obtain⟨w1,w2,w3⟩:=then_at hw (UB (UB h));have hst:Qr l (i+1+1) ((O++[TEf]).getLastD [])=(Yh,1):=by rw[Uw];exact w3
 have hh:=qnD (l:=l) (O:=O) TEf Yh (by decide) 1 (i+1+1);have h2:¬(Yh=XT/\(headW l (O++[TEf]) Yh 1 (i+1+1)).1=[]):=fun z=>absurd z.1 (by decide);have h1:twice (qkY t u) Yh=false:=rfl;refine⟨fun s q hl he=>?_,fun e hl=>?_⟩
 ·have hb:=EP (W:=qZ) (forms:=Qg) (L:=[s]) (k:=q) h1 h2 (by rw[hh];exact hl) (by unfold qdm;rfl)
  rw[hh]at hb;refine EQ (c:=⟨t.text,t.line,t.col,[⟨[],[u]⟩],[(Yh,[],[s])]⟩) (b:=true) hd ?_ (by unfold qct;rw[if_pos htx];rfl) |> fun z=>by rw[<-htx];exact z
  rw[hf];refine qno hO ht hu h (EX w1 w2 (by rw[hst];decide) (by rw[hst];exact hb) ?_);exact ES he.e (he.n.trans htx.symm) (by rw[he.n];decide)
 ·refine ET hd ?_
  rw[hf];exact qno hO ht hu h (EY w1 w2 (by rw[hst];decide) (by rw[hst];exact EW h1 h2 (by rw[hh];exact hl)))
theorem step_PER{t w u:TokC}{R:List TokC}{a b a' b' a2 b2:Int}{c c' c2:Bool}(hd:¬32<d)(hO:∀f∈O,f∈YT)(ht:t=⟨1,Zh,a,b,c⟩)(hw:w=⟨1,qaW,a2,b2,c2⟩)(hu:u=⟨1,Bw,a',b',c'⟩)(h:l.drop i=t::w::u::R)(hv:VerbAt l (i+3)):
 (∀s q,ListR qZ l Qg (d+1) (O++[[]]) (i+3) [] (.ok [s] q)->EndAt l q Zh->StR qZ l Qg d O i (.ok (.mk Zh t.line t.col [⟨[],[]⟩,⟨qaW,[u]⟩] [([],[],[s])]) (q+1)))/\
 (∀e,ListR qZ l Qg (d+1) (O++[[]]) (i+3) [] (.bad e)->StR qZ l Qg d O i (.bad e)):=by
 have hf:Qg (l.getD i noT).text=(qsz,[]):=by rw[YD h,ht];exact forms_PER
 have htx:t.text=Zh:=by rw[ht]
 have hst:(Qr l (i+3) ((O++[[]]).getLastD [])).2=0:=by rw[Uw];exact hv.f _ (by simp[YT])
 have hh:=qnD (l:=l) (O:=O) [] [] (by decide) 0 (i+3);have h2:¬(([]:Str)=XT/\(headW l (O++[[]]) [] 0 (i+3)).1=[]):=fun z=>absurd z.1 (by decide);have h1:twice (qnU t u) []=false:=rfl;refine⟨fun s q hl he=>?_,fun e hl=>?_⟩
 ·have hb:=EP (W:=qZ) (forms:=Qg) (L:=[s]) (k:=q) h1 h2 (by rw[hh];exact hl) (by unfold qdm;rfl)
  rw[hh]at hb;refine EQ (c:=⟨t.text,t.line,t.col,[⟨[],[]⟩,⟨qaW,[u]⟩],[([],[],[s])]⟩) (b:=true) hd ?_ (by unfold qct;rw[htx];rfl) |> fun z=>by rw[<-htx];exact z
  rw[hf];refine pre_PER hO ht hw hu h (ER hv.e hv.n hst hv.v (qpn t u htx) hb ?_);exact ES he.e (he.n.trans htx.symm) (by rw[he.n];decide)
 ·refine ET hd ?_
  rw[hf];exact pre_PER hO ht hw hu h (EU hv.e hv.n hst hv.v (qpn t u htx) (EW h1 h2 (by rw[hh];exact hl)))
theorem step_EVA{t u w o:TokC}{R:List TokC}{a b a' b' a2 b2 a3 b3:Int}{c c' c2 c3:Bool}(hd:¬32<d)(hO:∀f∈O,f∈YT)(ht:t=⟨1,Ym,a,b,c⟩)(hu:u=⟨1,Aw,a',b',c'⟩)(hw:w=⟨1,XT,a2,b2,c2⟩)(ho:o=⟨2,[49],a3,b3,c3⟩)(h:l.drop i=t::u::w::o::R)(hv:VerbAt l (i+4)):
 (∀s q,ListR qZ l Qg (d+1) (O++[EVf]) (i+4) [] (.ok [s] q)->EndAt l q Ym->StR qZ l Qg d O i (.ok (.mk Ym t.line t.col [⟨[],[u]⟩] [(XT,[o],[s])]) (q+1)))/\
 (∀e,ListR qZ l Qg (d+1) (O++[EVf]) (i+4) [] (.bad e)->StR qZ l Qg d O i (.bad e)):=by
 have hf:Qg (l.getD i noT).text=([],EVf):=by rw[YD h,ht];exact forms_EVA
 have htx:t.text=Ym:=by rw[ht]
 have h2':=UB (UB h);obtain⟨w1,w2,w3⟩:=when_at hw ho h2';have hst:Qr l (i+1+1) ((O++[EVf]).getLastD [])=(XT,1):=by rw[Uw];exact w3
 have hh:headW l (O++[EVf]) XT 1 (i+1+1)=([o],i+4):=head_one (i:=i+1+1) ho (UB h2') hv;have h2:¬(XT=XT/\(headW l (O++[EVf]) XT 1 (i+1+1)).1=[]):=fun z=>by rw[hh]at z;exact absurd z.2 (by simp)
 have h1:twice (qkY t u) XT=false:=rfl;refine⟨fun s q hl he=>?_,fun e hl=>?_⟩
 ·have hb:=EP (W:=qZ) (forms:=Qg) (L:=[s]) (k:=q) h1 h2 (by rw[hh];exact hl) (by unfold qdm;rfl)
  rw[hh]at hb;refine EQ (c:=⟨t.text,t.line,t.col,[⟨[],[u]⟩],[(XT,[o],[s])]⟩) (b:=true) hd ?_ (by unfold qct;rw[htx];rfl) |> fun z=>by rw[<-htx];exact z
  rw[hf];refine pre_EVA hO ht hu h (EX w1 w2 (by rw[hst];decide) (by rw[hst];exact hb) ?_);exact ES he.e (he.n.trans htx.symm) (by rw[he.n];decide)
 ·refine ET hd ?_
  rw[hf];exact pre_EVA hO ht hu h (EY w1 w2 (by rw[hst];decide) (by rw[hst];exact EW h1 h2 (by rw[hh];exact hl)))
end
def kt(t:TokC):UInt8×Str:=(t.kind,t.text)
def qaJ:Nat->List (UInt8×Str)
 |0=>[(1,IFv),(1,Aw)]
 |1=>[(1,Zh),(1,qaW),(1,Bw)]
 |2=>[(1,Ym),(1,Aw),(1,XT),(2,[49])]
 |_=>[(1,IFv),(1,Aw),(1,Yh)]
def UG:List Nat->List (UInt8×Str)
 |[]=>[(1,qaY)]
 |k::ks=>qaJ k++(UG ks++[(1,qbT k)])
def Shp:List Nat->StC->Prop
 |[],s=>∃ln cl,s= .mk qaY ln cl [⟨[],[]⟩] []
 |1::ks,s=>∃s' ln cl u,Shp ks s'/\kt u=(1,Bw)/\s= .mk Zh ln cl [⟨[],[]⟩,⟨qaW,[u]⟩] [([],[],[s'])]
 |2::ks,s=>∃s' ln cl u o,Shp ks s'/\kt u=(1,Aw)/\kt o=(2,[49])/\s= .mk Ym ln cl [⟨[],[u]⟩] [(XT,[o],[s'])]
 |_::ks,s=>∃s' ln cl u,Shp ks s'/\kt u=(1,Aw)/\s= .mk IFv ln cl [⟨[],[u]⟩] [(Yh,[],[s'])]
theorem UI{t:TokC}{k:UInt8}{w:Str}(h:kt t=(k,w)):t=⟨k,w,t.line,t.col,t.left⟩:=by
 cases t;simp only[kt,Prod.mk.injEq]at h;rw[h.1,h.2]
theorem qmB{toks:List TokC}{a b:List (UInt8×Str)}{c:UInt8×Str}(h:toks.map kt=a++(b++[c])):∃ta tb tc,toks=ta++(tb++[tc])/\ta.map kt=a/\tb.map kt=b/\kt tc=c:=by
 obtain⟨ta,tr,e1,e2,e3⟩:=EZ.1 h;obtain⟨tb,tz,f1,f2,f3⟩:=EZ.1 e3;match tz,f3 with
 |[tc],f3=>
  simp only[and_true,QW,List.cons.injEq]at f3;exact⟨ta,tb,tc,by rw[e1,f1],e2,f2,f3⟩
theorem nest_head(ks:List Nat):∃v r,UG ks=(1,v)::r/\(v=qaY\/v=IFv\/v=Zh\/v=Ym):=by
 match ks with
 |[]=>exact⟨_,_,rfl, .inl rfl⟩
 |0::ks=>exact⟨_,_,rfl, .inr (.inl rfl)⟩
 |1::ks=>exact⟨_,_,rfl, .inr (.inr (.inl rfl))⟩
 |2::ks=>exact⟨_,_,rfl, .inr (.inr (.inr rfl))⟩
 |(k+3)::ks=>exact⟨_,_,rfl, .inr (.inl rfl)⟩
theorem qij{l:List TokC}{p:Nat}{ks:List Nat}{tb R:List TokC}(h:l.drop p=tb++R)(ht:tb.map kt=UG ks):VerbAt l p:=by
 obtain⟨v,r,e,hv⟩:=nest_head ks;rw[e]at ht;match tb,ht with
 |t::tb,ht=>
  simp only[Ke,List.cons.injEq]at ht;rw[UI ht.1]at h;exact verb_at h hv
theorem qdM{l:List TokC}{p:Nat}{a b:List TokC}(h:l.drop p=a++b):l.drop (p+a.length)=b:=by
 rw[<-Em,h,List.drop_left]
def AfterOk(l:List TokC)(j:Nat):Prop:=isE l j=true\/(isE l j=false/\∃k,UT l j=nestV k)
section
variable {ta:List TokC} {x y z u:UInt8×Str}
theorem map1(h:ta.map kt=[x]):∃a,ta=[a]/\kt a=x:=by
 match ta,h with
 |[a],h=>simp only[and_true,QW,List.cons.injEq]at h;exact⟨a,rfl,h⟩
theorem map2(h:ta.map kt=[x,y]):∃a b,ta=[a,b]/\kt a=x/\kt b=y:=by
 match ta,h with
 |[a,b],h=>simp only[and_true,QW,List.cons.injEq]at h;exact⟨a,b,rfl,h.1,h.2⟩
theorem map3(h:ta.map kt=[x,y,z]):∃a b c,ta=[a,b,c]/\kt a=x/\kt b=y/\kt c=z:=by
 match ta,h with
 |[a,b,c],h=>simp only[and_true,QW,List.cons.injEq]at h;exact⟨a,b,c,rfl,h.1,h.2.1,h.2.2⟩
theorem map4(h:ta.map kt=[x,y,z,u]):∃a b c d,ta=[a,b,c,d]/\kt a=x/\kt b=y/\kt c=z/\kt d=u:=by
 match ta,h with
 |[a,b,c,d],h=>simp only[and_true,QW,List.cons.injEq]at h;exact⟨a,b,c,d,rfl,h.1,h.2.1,h.2.2.1,h.2.2.2⟩
end
theorem qpf(k:Nat):nestV k≠[]/\nestV k≠qaY:=by
 match k with
 |0=>decide
 |1=>decide
 |2=>decide
 |k+3=>exact⟨by show IFv≠[];decide,by show IFv≠qaY;decide⟩
theorem step_CONT{l:List TokC}{d i:Nat}{O:List Str}{t:TokC}{R:List TokC}{a b:Int}{c:Bool}(hd:¬32<d)(ht:t=⟨1,qaY,a,b,c⟩)(h:l.drop i=t::R)(hA:AfterOk l (i+1)):StR qZ l Qg d O i (.ok (.mk qaY t.line t.col [⟨[],[]⟩] []) (i+1)):=by
 have hf:Qg (l.getD i noT).text=([],[]):=by rw[YD h,ht];exact qsA
 have htx:t.text=qaY:=by rw[ht]
 refine EQ (c:=⟨t.text,t.line,t.col,[⟨[],[]⟩],[]⟩) (b:=false) hd ?_ (by unfold qct;rw[htx];rfl) |> fun z=>by rw[<-htx];exact z
 rw[hf];unfold qch;rw[YD h];rcases hA with z|⟨z,k,e⟩
 ·exact LoopR.stop z
 ·exact LoopR.endO z (by rw[e,htx];exact(qpf k).2) (by rw[e];exact(qpf k).1)
theorem qmw{l:List TokC}{d i:Nat}{O:List Str}(k:Nat)(ks:List Nat){ta tb R:List TokC}{tc:TokC}(hd:¬32<d)(hO:∀f∈O,f∈YT)(h:l.drop i=ta++(tb++(tc::R)))(ha:ta.map kt=qaJ k)(hb:tb.map kt=UG ks)(hc:kt tc=(1,qbT k)):
 ∃F∈YT,(∀s,Shp ks s->StR qZ l Qg (d+1) (O++[F]) (i+ta.length) (.ok s (i+ta.length+tb.length))->∃s',StR qZ l Qg d O i (.ok s' (i+ta.length+tb.length+1))/\Shp (k::ks) s')/\
  (∀e,StR qZ l Qg (d+1) (O++[F]) (i+ta.length) (.bad e)->StR qZ l Qg d O i (.bad e)):=by
 have hp:=qdM h;have hv:=qij hp hb;have hq:=qdM hp;rw[UI hc]at hq;have he:=end_at hq;have hone:∀F s,StR qZ l Qg (d+1) (O++[F]) (i+ta.length) (.ok s (i+ta.length+tb.length))->ListR qZ l Qg (d+1) (O++[F]) (i+ta.length) [] (.ok [s] (i+ta.length+tb.length)):=fun F s z=>qpi hv.v z he.v;have hbad:∀F e,StR qZ l Qg (d+1) (O++[F]) (i+ta.length) (.bad e)->ListR qZ l Qg (d+1) (O++[F]) (i+ta.length) [] (.bad e):=fun F e z=>ListR.bad hv.v z;match k,ha,he with
 |0,ha,he=>
  obtain⟨t,u,rfl,a1,a2⟩:=map2 (show ta.map kt=[(1,IFv),(1,Aw)]from ha);obtain⟨p,q⟩:=step_IF hd hO (UI a1) (UI a2) h hv;exact⟨TEf,by simp[YT],fun s hs z=>⟨_,p s _ (hone TEf s z) he,s,_,_,u,hs,a2,rfl⟩,fun e z=>q e (hbad TEf e z)⟩
 |1,ha,he=>
  obtain⟨t,w,u,rfl,a1,a2,a3⟩:=map3 (show ta.map kt=[(1,Zh),(1,qaW),(1,Bw)]from ha);obtain⟨p,q⟩:=step_PER hd hO (UI a1) (UI a2) (UI a3) h hv;exact⟨[],by simp[YT],fun s hs z=>⟨_,p s _ (hone [] s z) he,s,_,_,u,hs,a3,rfl⟩,fun e z=>q e (hbad [] e z)⟩
 |2,ha,he=>
  obtain⟨t,u,w,o,rfl,a1,a2,a3,a4⟩:=map4 (show ta.map kt=[(1,Ym),(1,Aw),(1,XT),(2,[49])]from ha);obtain⟨p,q⟩:=step_EVA hd hO (UI a1) (UI a2) (UI a3) (UI a4) h hv;exact⟨EVf,by simp[YT],fun s hs z=>⟨_,p s _ (hone EVf s z) he,s,_,_,u,o,hs,a2,a4,rfl⟩,fun e z=>q e (hbad EVf e z)⟩
 |k+3,ha,he=>
  obtain⟨t,u,w,rfl,a1,a2,a3⟩:=map3 (show ta.map kt=[(1,IFv),(1,Aw),(1,Yh)]from ha);obtain⟨p,q⟩:=step_THEN hd hO (UI a1) (UI a2) (UI a3) h;exact⟨TEf,by simp[YT],fun s hs z=>⟨_,p s _ (hone TEf s z) he,s,_,_,u,hs,a2,rfl⟩,fun e z=>q e (hbad TEf e z)⟩
theorem nest_ok{l:List TokC}:∀(ks:List Nat) (d i:Nat) (O:List Str) (toks R:List TokC),d+ks.length<=32->(∀f∈O,f∈YT)->l.drop i=toks++R->toks.map kt=UG ks->AfterOk l (i+toks.length)->
 ∃s,StR qZ l Qg d O i (.ok s (i+toks.length))/\Shp ks s
 |[],d,i,O,toks,R,hd,hO,h,ht,hA=>by
  obtain⟨t,rfl,a1⟩:=map1 (show toks.map kt=[(1,qaY)]from ht);exact⟨_,step_CONT (by simp only[JD]at hd;omega) (UI a1) h hA,_,_,rfl⟩
 |k::ks,d,i,O,toks,R,hd,hO,h,ht,hA=>by
  obtain⟨ta,tb,tc,rfl,ha,hb,hc⟩:=qmB (show toks.map kt=qaJ k++(UG ks++[(1,qbT k)])from ht);rw[KX]at hd;have h':l.drop i=ta++(tb++(tc::R)):=by rw[h];simp
  obtain⟨F,hF,hs,-⟩:=qmw (d:=d) k ks (by omega) hO h' ha hb hc;have hp:=qdM h';have hq:=qdM hp;rw[UI hc]at hq;have he:=end_at hq;obtain⟨s,hst,hsh⟩:=nest_ok ks (d+1) (i+ta.length) (O++[F]) tb (tc::R) (by omega) (qmA hO hF) hp hb (.inr ⟨he.e,k,he.n⟩);obtain⟨s',a,b⟩:=hs s hsh hst;refine⟨s',?_,b⟩;have e:i+(ta++(tb++[tc])).length=i+ta.length+tb.length+1:=by simp only[Jb,JF];omega
  rw[e];exact a
def UF(ks:List Nat):Nat:=(ks.map fun k=>(qaJ k).length).sum
theorem qpe{l:List TokC}:∀(n:Nat) (ks:List Nat) (d i:Nat) (O:List Str) (toks R:List TokC),d+n=33->n<=ks.length->(∀f∈O,f∈YT)->l.drop i=toks++R->toks.map kt=UG ks->
 StR qZ l Qg d O i (.bad (WS l 3 (i+UF (ks.take n))))
 |0,ks,d,i,O,toks,R,hd,hn,hO,h,ht=>by
  rw[List.take_zero,UF,Vk,E5,K6];exact StR.deep (by omega)
 |n+1,[],d,i,O,toks,R,hd,hn,hO,h,ht=>by cases hn
 |n+1,k::ks,d,i,O,toks,R,hd,hn,hO,h,ht=>by
  obtain⟨ta,tb,tc,rfl,ha,hb,hc⟩:=qmB (show toks.map kt=qaJ k++(UG ks++[(1,qbT k)])from ht);have h':l.drop i=ta++(tb++(tc::R)):=by rw[h];simp
  obtain⟨F,hF,-,hs⟩:=qmw (d:=d) k ks (by omega) hO h' ha hb hc;have:=qpe n ks (d+1) (i+ta.length) (O++[F]) tb (tc::R) (by omega) (E8 hn) (qmA hO hF) (qdM h') hb;have hl:ta.length=(qaJ k).length:=by rw[<-ha,Jn]
  rw[List.take_succ_cons,UF,Ke,E9];rw[hl,Kw]at this;exact hs _ (by rw[hl];exact this)
theorem qgv{l toks:List TokC}{pt:TokC}{ks:List Nat}(hl:l=toks++[pt])(ht:toks.map kt=UG ks)(hp:pt.kind=6)(h6:l.length<=65536)(hk:ks.length<=31):∃s,ParseR qZ l Qg (.ok [s] l.length)/\Shp ks s:=by
 have h0:l.drop 0=toks++[pt]:=hl;have hlen:l.length=toks.length+1:=by rw[hl,Jb,JF]
 have hq:=qdM h0;rw[Jp]at hq;have hpt:l.getD toks.length noT=pt:=YD hq;have hE:isE l toks.length=true:=by
  unfold isE;rw[if_pos (by omega),hpt,hp];rfl
 have hnv:isV l toks.length=false:=by
  unfold isV;rw[if_pos (by omega),hpt];unfold Uz;rw[hp];rfl
 obtain⟨s,hs,hsh⟩:=nest_ok ks 1 0 [] toks [pt] (by omega) (fun f hf=>by cases hf) h0 ht (.inl (by rw[Jp];exact hE));rw[Jp]at hs;have hv:=qij h0 ht;refine⟨s,BZ (by omega) (Da (by omega) (qpi hv.v hs hnv) (by rw[hpt,hp];simp;omega) ?_),hsh⟩;have e:l.length=toks.length+1:=hlen;rw[e,Jd];exact Db (by omega)
theorem qsh{l toks:List TokC}{pt:TokC}{ks:List Nat}(hl:l=toks++[pt])(ht:toks.map kt=UG ks)(h6:l.length<=65536)(hk:32<=ks.length):ParseR qZ l Qg (.bad (WS l 3 (UF (ks.take 32)))):=by
 have h0:l.drop 0=toks++[pt]:=hl;have hlen:l.length=toks.length+1:=by rw[hl,Jb,JF]
 have:=qpe 32 ks 1 0 [] toks [pt] rfl hk (fun f hf=>by cases hf) h0 ht;rw[Jp]at this;exact BZ (by omega) (SentR.bad (by omega) (ListR.bad (qij h0 ht).v this))
end Go.Stm
namespace Go.Stm
open Go.Col (Str FaultC okF)
open Go.Tok
open Go.Proofs.YtgiadjbiimkbiaaGreatDoor (asciiB TxS qlW Short)
set_option maxRecDepth 100000
theorem qfB{k:Nat}{ks:List Nat}{s:StC}(h:Shp (k::ks) s):∃s' v ln cl ps w ts,Shp ks s'/\s= .mk v ln cl ps [(w,ts,[s'])]/\(v=Zh\/v=Ym\/v=IFv)/\(w=[]\/w=XT\/w=Yh)/\
 ps.length<=2/\ts.length<=1/\(∀p∈ps,(p.words=[]\/p.words=qaW)/\p.toks.length<=1/\∀t∈p.toks,t.text.length<=1)/\∀t∈ts,t.text.length<=1:=by
 have one:∀{u:TokC} {k:UInt8} {c:UInt8},kt u=(k,[c])->u.text.length<=1:=fun{u k c} h=>by
  have:=congrArg Prod.snd h;simp only[kt]at this;rw[this];exact KL _
 match k,h with
 |0,⟨s',ln,cl,u,a,b,e⟩=>exact⟨s',_,ln,cl,_,_,_,a,e, .inr (.inr rfl), .inr (.inr rfl),by simp,by simp,fun p hp=>by rw[V4.1 hp];exact⟨.inl rfl,by simp,fun t ht=>by rw[V4.1 ht];exact one b⟩,fun t ht=>by cases ht⟩
 |1,⟨s',ln,cl,u,a,b,e⟩=>
  refine⟨s',_,ln,cl,_,_,_,a,e, .inl rfl, .inl rfl,by simp,by simp,fun p hp=>?_,fun t ht=>by cases ht⟩;rcases KW.1 hp with rfl|hp
  ·exact⟨.inl rfl,by simp,fun t ht=>by cases ht⟩
  ·rw[V4.1 hp]
   exact⟨.inr rfl,by simp,fun t ht=>by rw[V4.1 ht];exact one b⟩
 |2,⟨s',ln,cl,u,o,a,b,c,e⟩=>exact⟨s',_,ln,cl,_,_,_,a,e, .inr (.inl rfl), .inr (.inl rfl),by simp,by simp,fun p hp=>by rw[V4.1 hp];exact⟨.inl rfl,by simp,fun t ht=>by rw[V4.1 ht];exact one b⟩,fun t ht=>by rw[V4.1 ht];exact one c⟩
 |k+3,⟨s',ln,cl,u,a,b,e⟩=>exact⟨s',_,ln,cl,_,_,_,a,e, .inr (.inr rfl), .inr (.inr rfl),by simp,by simp,fun p hp=>by rw[V4.1 hp];exact⟨.inl rfl,by simp,fun t ht=>by rw[V4.1 ht];exact one b⟩,fun t ht=>by cases ht⟩
theorem UM:∀(m:Nat) (ks:List Nat) {s:StC},Shp ks s->YL m [s]=decide (m<=ks.length)
 |0,ks,s,h=>by simp[YL]
 |m+1,[],s,⟨ln,cl,e⟩=>by subst e;simp[YL,Ef]
 |m+1,k::ks,s,h=>by
  obtain⟨s',v,ln,cl,ps,w,ts,hs,rfl,-⟩:=qfB h;have:=UM m ks hs;simp only[Bool.or_false,KX,YL,List.any_cons,List.any_nil,Ef,this,decide_eq_decide];omega
theorem qhV:∀(m:Nat) (ks:List Nat) {s:StC},Shp ks s->ks.length<=m->Zm m [s]=ks.length+1
 |0,[],s,h,_=>rfl
 |m+1,[],s,⟨ln,cl,e⟩,_=>by subst e;simp[Zm,Ef]
 |m+1,k::ks,s,h,hm=>by
  obtain⟨s',v,ln,cl,ps,w,ts,hs,rfl,-⟩:=qfB h;have:=qhV m ks hs (E8 hm);simp only[QF,QW,Zm,Ef,E9,E5,this];omega
theorem qgN:∀(m:Nat) (ks:List Nat) {s:StC},Shp ks s->Zm m [s]<=ks.length+1
 |0,ks,s,h=>by simp[Zm]
 |m+1,[],s,⟨ln,cl,e⟩=>by subst e;simp[Zm,Ef]
 |m+1,k::ks,s,h=>by
  obtain⟨s',v,ln,cl,ps,w,ts,hs,rfl,-⟩:=qfB h;have:=qgN m ks hs;simp only[QF,QW,Zm,Ef,E9,E5];omega
theorem qfA:∀(m:Nat) (ks:List Nat) {s:StC},Shp ks s->SmallS m [s]/\TxS m [s]/\qlW m [s]
 |0,ks,s,h=>⟨by simp[SmallS],trivial,trivial⟩
 |m+1,[],s,⟨ln,cl,e⟩=>by
  subst e;refine⟨⟨by simp,fun s hs=>?_⟩,fun s hs=>?_,fun s hs=>?_⟩;all_goals rw[V4.1 hs]
  ·exact⟨by simp[Ef],by simp[Ee],fun p hp=>by rw[V4.1 hp];simp,fun b hb=>by cases hb⟩
  ·exact⟨by simp[Ed,qaY],fun p hp=>by rw[V4.1 hp];exact⟨by simp,fun t ht=>by cases ht⟩,fun b hb=>by cases hb⟩
  ·exact⟨⟨by show asciiB qaY=true;decide,by simp[Ed,qaY]⟩,fun p hp=>by rw[V4.1 hp];rfl,fun b hb=>by cases hb⟩
 |m+1,k::ks,s,h=>by
  obtain⟨s',v,ln,cl,ps,w,ts,hs,rfl,hv,hw,h1,h2,h3,h4⟩:=qfB h;obtain⟨i1,i2,i3⟩:=qfA m ks hs;refine⟨⟨by simp,fun s hs=>?_⟩,fun s hs=>?_,fun s hs=>?_⟩;all_goals rw[V4.1 hs]
  ·exact⟨by simp[Ef],by simp only[Ee];omega,fun p hp=>by have:=(h3 p hp).2.1;omega,fun b hb=>by rw[V4.1 hb];exact⟨by simp only;omega,i1⟩⟩
  ·refine⟨by rcases hv with rfl|rfl|rfl<;>(simp only[Ed];decide),fun p hp=>⟨by rcases(h3 p hp).1 with e|e<;>rw[e]<;>decide,fun t ht=>Ve ((h3 p hp).2.2 t ht) (by decide)⟩,fun b hb=>?_⟩
   rw[V4.1 hb];exact⟨by rcases hw with rfl|rfl|rfl<;>(simp only;decide),fun t ht=>Ve (h4 t ht) (by decide),i2⟩
  ·refine⟨by rcases hv with rfl|rfl|rfl<;>exact⟨by simp only[Ed];decide,by simp only[Ed];decide⟩,fun p hp=>by rcases(h3 p hp).1 with e|e<;>rw[e]<;>decide,fun b hb=>?_⟩
   rw[V4.1 hb];exact⟨by rcases hw with rfl|rfl|rfl<;>(simp only;decide),i3⟩
theorem sameTk_kt{a b:List TokC}(h:a.map kt=b.map kt):YO a b=true:=decide_eq_true h
theorem qcB{u v:TokC}{x:UInt8×Str}(hu:kt u=x)(hv:kt v=x):YO [u] [v]=true:=sameTk_kt (by rw[Ke,Ke,hu,hv])
theorem qdw:∀(m:Nat) (ks:List Nat) {s t:StC},Shp ks s->Shp ks t->qaB m [s] [t]=true
 |0,_,_,_,_,_=>rfl
 |m+1,[],_,_,⟨_,_,e⟩,⟨_,_,f⟩=>by subst e f;rfl
 |m+1,0::ks,_,_,⟨s',_,_,u,a,b,e⟩,⟨t',_,_,v,a',b',f⟩=>by
  subst e f;have h1:=qdw m ks a a';have h2:=qcB b b';simp[qaB,rowE,qcC,Ed,Ee,Ef,h1,YO];have:=b.trans b'.symm;simpa[kt]using this
 |m+1,1::ks,_,_,⟨s',_,_,u,a,b,e⟩,⟨t',_,_,v,a',b',f⟩=>by
  subst e f;have h1:=qdw m ks a a';have h2:=qcB b b';simp[qaB,rowE,qcC,Ed,Ee,Ef,h1,YO];have:=b.trans b'.symm;simpa[kt]using this
 |m+1,2::ks,_,_,⟨s',_,_,u,o,a,b,c,e⟩,⟨t',_,_,v,o',a',b',c',f⟩=>by
  subst e f;have h1:=qdw m ks a a';have h2:=qcB b b';have h3:=qcB c c';simp[qaB,rowE,qcC,Ed,Ee,Ef,h1,h2,h3]
 |m+1,(k+3)::ks,_,_,⟨s',_,_,u,a,b,e⟩,⟨t',_,_,v,a',b',f⟩=>by
  subst e f;have h1:=qdw m ks a a';have h2:=qcB b b';simp[qaB,rowE,qcC,Ed,Ee,Ef,h1,YO];have:=b.trans b'.symm;simpa[kt]using this
theorem end_IF:hasEnd IFv=true:=by kernel_rfl
theorem end_CONT:hasEnd qaY=false:=by kernel_rfl
theorem qmi:qeU []=[]:=by kernel_rfl
theorem qrG:qeU Yh=[⟨1,Yh,0,0,false⟩]:=by kernel_rfl
theorem qoC:qeU (qro++IFv)=[⟨1,qtu,0,0,false⟩]:=by kernel_rfl
def YM(n:Nat):List Nat:=JY n 3
theorem qfz:∀(m n:Nat) {s:StC} (out:List TokC),Shp (YM n) s->n<=m->out.length+5*(n+1)<=65536->∃ts,XU (m+1) out [s]=out++ts/\ts.map kt=UG (YM n)/\ts.length=4*n+1
 |m,0,s,out,⟨ln,cl,e⟩,_,ho=>by
  subst e;refine⟨[qgb qaY],?_,rfl,rfl⟩;show Wj (XU m) out [_]=_
  rw[Wj,if_neg (by omega),Wj,qjP];simp only[JE,Ed,Ee,Ef,Et,Dc,qrv,qmi,qhO];rw[if_neg (by rw[end_CONT];decide)]
 |0,n+1,s,out,h,hm,_=>by omega
 |m+1,n+1,s,out,⟨s',ln,cl,u,hs,hu,e⟩,hm,ho=>by
  subst e;obtain⟨ts,t1,t2,t3⟩:=qfz m n (out++[qgb IFv]++[u]++[⟨1,Yh,0,0,false⟩]) hs (E8 hm) (by simp only[Jb,JF];omega);refine⟨[qgb IFv]++[u]++[⟨1,Yh,0,0,false⟩]++ts++[⟨1,qtu,0,0,false⟩],?_,?_,?_⟩
  ·show Wj (XU (m+1)) out [_]=_
   rw[Wj,if_neg (by omega),Wj,qjP];simp only[JE,Ed,Ee,Ef,Et,Dc,qrv,qrw,qmi,qrG,qhO];rw[if_pos end_IF,t1,qoC];simp
  ·show _=qaJ 3++(UG (YM n)++[(1,qbT 3)])
   simp only[QW,JI,t2,hu];rfl
  ·simp only[Jb,JF,t3];omega
theorem qsN{d n:Nat}{s:StC}(hs:Shp (YM n) s)(hd:n+1<=d)(hn:n<=31){e:Int}(h:qiK d [s] e):e=0/\(XU d [] [s]).length<=1000:=by
 obtain⟨m,rfl⟩:∃m,d=m+1:=⟨d-1,by omega⟩
 obtain⟨ts,t1,t2,t3⟩:=qfz m n [] hs (by omega) (by simp only[JD];omega);rw[Jd]at t1;have hT:XE (m+1) [s]=ts++[qaD]:=by
  unfold XE;rw[if_neg (by simp),if_neg (by rw[UM 32 _ hs];simp[YM];omega),t1,if_neg (by simp only[Jb,JF];omega)]
 obtain⟨s',hp,hs'⟩:=qgv (pt:=qaD) (ks:=YM n) rfl t2 rfl (by simp only[Jb,JF];omega) (by simp[YM];omega);rw[<-hT]at hp;have hne:ts++[qaD]≠[]:=by simp
 refine⟨?_,by rw[t1];omega⟩;rcases h with⟨-,q,-⟩|⟨-,⟨f,q,-⟩|⟨L,j,q,e'⟩⟩
 ·rw[hT]at q;exact absurd q hne
 ·cases De hp q
 ·cases De hp q
  rw[e',show qbL 32 [s'] [s]=true from ?_]
  ·rfl
  ·unfold qbL
   rw[UM 32 _ hs',UM 32 _ hs,qdw 32 _ hs' hs];simp[YM];omega
theorem qrH{d n:Nat}{s:StC}(hs:Shp (YM n) s)(hd:n+1<=d){L:List StC}{j:Nat}(h:ParseR qZ (XE d [s]) Qg (.ok L j)):SmallS 32 L:=by
 by_cases hn:n<=31
 ·obtain⟨m,rfl⟩:∃m,d=m+1:=⟨d-1,by omega⟩
  obtain⟨ts,t1,t2,t3⟩:=qfz m n [] hs (by omega) (by simp only[JD];omega);rw[Jd]at t1;have hT:XE (m+1) [s]=ts++[qaD]:=by
   unfold XE;rw[if_neg (by simp),if_neg (by rw[UM 32 _ hs];simp[YM];omega),t1,if_neg (by simp only[Jb,JF];omega)]
  obtain⟨s',hp,hs'⟩:=qgv (pt:=qaD) (ks:=YM n) rfl t2 rfl (by simp only[Jb,JF];omega) (by simp[YM];omega);rw[<-hT]at hp;cases De hp h;exact(qfA 32 _ hs').1
 ·have hT:XE d [s]=[]:=by
   unfold XE;rw[if_neg (by simp),if_pos (by rw[UM 32 _ hs];simp[YM];omega)]
  rw[hT]at h;have hp:ParseR qZ [] Qg (.ok [] 0):=BZ (by simp) (Db (by simp));cases De hp h;exact⟨Jq _,fun s hs=>by cases hs⟩
end Go.Stm
namespace Go.Stm
open Go.Col (Str FaultC okF)
open Go.Tok
open Go.Proofs.YtgiadjbiimkbiaaGreatDoor (asciiB)
set_option maxRecDepth 100000
def qbC:Nat->Str
 |0=>[32,73,70,32,65]
 |1=>[32,80,69,82,70,79,82,77,32,85,78,84,73,76,32,66]
 |_=>[32,69,86,65,76,85,65,84,69,32,65,32,87,72,69,78,32,49]
def clS:Nat->Str
 |0=>[32,69,78,68,45,73,70]
 |1=>[32,69,78,68,45,80,69,82,70,79,82,77]
 |_=>[32,69,78,68,45,69,86,65,76,85,65,84,69]
def qpH:Str:=[32,67,79,78,84,73,78,85,69]
def qbB(ks:List Nat):Str:=(ks.map qbC).flatten
def qcR(ks:List Nat):Str:=(ks.reverse.map clS).flatten
def Ua(ks:List Nat):Str:=qbB ks++qpH++qcR ks++[32,46]
theorem qrZ(ks:List Nat)(k:Nat):qbB (ks++[k])=qbB ks++qbC k:=by simp[qbB]
theorem qpI(ks:List Nat)(k:Nat):qcR (ks++[k])=clS k++qcR ks:=by simp[qcR]
theorem nestS_sp(k:Nat):∃Y,qbC k=32::Y:=by match k with|0=>exact⟨_,rfl⟩|1=>exact⟨_,rfl⟩|k+2=>exact⟨_,rfl⟩
theorem clS_sp(k:Nat):∃Y,clS k=32::Y:=by match k with|0=>exact⟨_,rfl⟩|1=>exact⟨_,rfl⟩|k+2=>exact⟨_,rfl⟩
theorem qkD(k:Nat):asciiB (qbC k)=true/\(qbC k).length<=20:=by match k with|0=>decide|1=>decide|k+2=>exact⟨(by decide:asciiB (qbC 2)=true),(by decide:(qbC 2).length<=20)⟩
theorem qsM(k:Nat):asciiB (clS k)=true/\(clS k).length<=20:=by match k with|0=>decide|1=>decide|k+2=>exact⟨(by decide:asciiB (clS 2)=true),(by decide:(clS 2).length<=20)⟩
theorem qeB{a b:Str}(ha:asciiB a=true)(hb:asciiB b=true):asciiB (a++b)=true:=by
 unfold asciiB at*
 rw[Es,ha,hb];rfl
theorem qlk{l:List Str}(h:∀x∈l,asciiB x=true):asciiB l.flatten=true:=by
 induction l with
 |nil=>rfl
 |cons x l ih=>rw[Vp];exact qeB (h x Je) (ih fun y hy=>h y (Jf _ hy))
theorem qpu{l:List Str}{m:Nat}(h:∀x∈l,x.length<=m):l.flatten.length<=m*l.length:=by
 induction l with
 |nil=>simp
 |cons x l ih=>
  have h1:=h x Je;have h2:=ih fun y hy=>h y (Jf _ hy);rw[Vp,Jb,KX,Nat.mul_succ];omega
theorem qhc(ks:List Nat):asciiB (qbB ks)=true/\(qbB ks).length<=20*ks.length:=by
 refine⟨qlk fun x hx=>?_,?_⟩
 ·obtain⟨k,_,rfl⟩:=JK.1 hx;exact(qkD k).1
 ·have:=qpu (l:=ks.map qbC) (m:=20) fun x hx=>by obtain⟨k,_,rfl⟩:=JK.1 hx;exact(qkD k).2
  rwa [Jn]at this
theorem qiC(ks:List Nat):asciiB (qcR ks)=true/\(qcR ks).length<=20*ks.length:=by
 refine⟨qlk fun x hx=>?_,?_⟩
 ·obtain⟨k,_,rfl⟩:=JK.1 hx;exact(qsM k).1
 ·have:=qpu (l:=ks.reverse.map clS) (m:=20) fun x hx=>by obtain⟨k,_,rfl⟩:=JK.1 hx;exact(qsM k).2
  rwa [Jn,List.length_reverse]at this
theorem qsi(ks:List Nat):asciiB (Ua ks)=true/\(Ua ks).length<=40*ks.length+20:=by
 refine⟨qeB (qeB (qeB (qhc ks).1 (by decide)) (qiC ks).1) (by decide),?_⟩;have:=(qhc ks).2;have:=(qiC ks).2;unfold Ua qpH;simp only[QF,Jb];omega
theorem qcg(a:Str){b:Str}(hb:b=[]\/∃Y,b=32::Y):Lib.fields (a++b)=Lib.fields a++Lib.fields b:=by
 rcases hb with rfl|⟨Y,rfl⟩
 ·rw[JE,show Lib.fields []=[]from rfl,JE]
 ·rw[qmL]
  have:Lib.fields (32::Y)=Lib.fields Y:=by have:=qmL [] Y;rw[Jd]at this;rw[this];rfl
  rw[this]
theorem flat_sp{l:List Str}(h:∀x∈l,∃Y,x=32::Y):l.flatten=[]\/∃Y,l.flatten=32::Y:=by
 cases l with
 |nil=>exact .inl rfl
 |cons x l=>
  obtain⟨Y,e⟩:=h x Je;exact .inr ⟨Y++l.flatten,by rw[Vp,e];rfl⟩
theorem qfk:∀{l:List Str},(∀x∈l,∃Y,x=32::Y)->Lib.fields l.flatten=(l.map Lib.fields).flatten
 |[],_=>rfl
 |x::l,h=>by
  have hl:∀y∈l,∃Y,y=32::Y:=fun y hy=>h y (Jf _ hy);rw[Vp,qcg x (flat_sp hl),qfk hl,Ke,Vp]
def ktW(w:Str):UInt8×Str:=kt (Ue 0 w)
theorem u8_cancel{a b c:UInt8}(h:a+b=a+c):b=c:=by
 have:=congrArg (fun x=>x-a) h;simpa using this
theorem lawT_kt(i:Nat)(w:Str):kt (Ue i w)=ktW w:=by
 have:=lawT_text i 0 w;unfold ktW;simp only[List.cons.injEq,qau]at this;simp only[kt,Prod.mk.injEq];exact⟨u8_cancel this.1,this.2⟩
theorem qpj:∀(ws:List Str) (p:Nat),(qaK p ws).map kt=ws.map ktW
 |[],_=>rfl
 |w::ws,p=>by rw[qaK,Ke,Ke,lawT_kt,qpj ws]
theorem nestS_kt{k:Nat}(hk:k<3):(Lib.fields (qbC k)).map ktW=qaJ k:=by
 have:k=0\/k=1\/k=2:=by omega
 rcases this with rfl|rfl|rfl<;>(show _=_;kernel_rfl)
theorem clS_kt{k:Nat}(hk:k<3):(Lib.fields (clS k)).map ktW=[(1,qbT k)]:=by
 have:k=0\/k=1\/k=2:=by omega
 rcases this with rfl|rfl|rfl<;>(show _=_;kernel_rfl)
theorem contS_kt:(Lib.fields qpH).map ktW=[(1,qaY)]:=by kernel_rfl
theorem perS_kt:(Lib.fields [32,46]).map ktW=[(6,[46])]:=by kernel_rfl
theorem qkC:∀ks:List Nat,UG ks=(ks.map qaJ).flatten++([(1,qaY)]++(ks.reverse.map fun k=>((1:UInt8),qbT k)))
 |[]=>rfl
 |k::ks=>by
  rw[UG,qkC ks];simp
theorem qpg{ks:List Nat}{f:Nat->Str}{g:Nat->List (UInt8×Str)}(h:∀k∈ks,(Lib.fields (f k)).map ktW=g k):(((ks.map f).map Lib.fields).flatten).map ktW=(ks.map g).flatten:=by
 induction ks with
 |nil=>rfl
 |cons k ks ih=>
  simp only[Ke,Vp,JI];rw[h k Je,ih fun j hj=>h j (Jf _ hj)]
theorem qpa{ks:List Nat}(hk:∀k∈ks,k<3):(Lib.fields (qbB ks)).map ktW=(ks.map qaJ).flatten:=by
 unfold qbB;rw[qfk (fun x hx=>by obtain⟨k,_,rfl⟩:=JK.1 hx;exact nestS_sp k)];exact qpg fun k h=>nestS_kt (hk k h)
theorem openS_n{ks:List Nat}(hk:∀k∈ks,k<3):(Lib.fields (qbB ks)).length=UF ks:=by
 have:=congrArg Df (qpa hk);rw[Jn]at this;rw[this,UF,List.length_flatten,List.map_map];rfl
theorem qsj{ks:List Nat}(hk:∀k∈ks,k<3):(Qz (Ua ks)).map kt=UG ks++[(6,[46])]:=by
 have hcl:∀x∈ks.reverse.map clS,∃Y,x=32::Y:=fun x hx=>by obtain⟨k,_,rfl⟩:=JK.1 hx;exact clS_sp k
 unfold Qz Ua;rw[qpj,qcg _ (.inr ⟨_,rfl⟩),qcg (qbB ks++qpH) (b:=qcR ks) (flat_sp hcl),qcg (qbB ks) (b:=qpH) (.inr ⟨_,rfl⟩)];simp only[JI];rw[qpa hk,contS_kt,perS_kt,qkC,show qcR ks=(ks.reverse.map clS).flatten from rfl,qfk hcl,
  qpg (g:=fun k=>[((1:UInt8),qbT k)]) fun k h=>clS_kt (hk k (List.mem_reverse.1 h))]
 have:(ks.reverse.map fun k=>[((1:UInt8),qbT k)]).flatten=ks.reverse.map fun k=>((1:UInt8),qbT k):=by
  generalize ks.reverse=js;induction js with
  |nil=>rfl
  |cons j js ih=>rw[Ke,Vp,ih];rfl
 rw[this];simp
theorem qfH:∀ks:List Nat,(UG ks).length<=5*ks.length+1/\UF ks<(UG ks).length
 |[]=>⟨KL _,by decide⟩
 |k::ks=>by
  obtain⟨a,b⟩:=qfH ks;have hk:(qaJ k).length<=4:=by match k with|0=>decide|1=>decide|2=>decide|k+3=>exact(by decide:3<=4)
  have e:UF (k::ks)=(qaJ k).length+UF ks:=by simp[UF]
  rw[UG,Jb,Jb,JF,KX,e];omega
theorem qsa(ks:List Nat)(n:Nat):UF (ks.take n)<=UF ks:=by
 have e:UF (ks.take n++ks.drop n)=UF (ks.take n)+UF (ks.drop n):=by unfold UF;rw[JI,List.sum_append]
 rw[Dg]at e;omega
theorem qlL{ks:List Nat}(hk:∀k∈ks,k<3)(h39:ks.length<=39):∃toks pt,Qz (Ua ks)=toks++[pt]/\toks.map kt=UG ks/\pt.kind=6/\(Qz (Ua ks)).length<=65536/\UF (ks.take 32)<(Qz (Ua ks)).length:=by
 obtain⟨toks,tz,e1,e2,e3⟩:=EZ.1 (qsj hk);obtain⟨pt,rfl,h⟩:=map1 e3;obtain⟨a,b⟩:=qfH ks;have hl:(Qz (Ua ks)).length=(UG ks).length+1:=by rw[e1,Jb,JF,<-e2,Jn]
 have:=qsa ks 32;exact⟨toks,pt,e1,e2,congrArg Prod.fst h,by omega,by omega⟩
theorem lawT_at(i:Nat)(w:Str):(Ue i w).line=(i+1:Nat)/\(Ue i w).col=8:=by
 rw[Ue];by_cases a:w.getD 0 0=34
 ·rw[if_pos a];exact⟨rfl,rfl⟩
 ·rw[if_neg a]
  by_cases b:48<=w.getD 0 0/\w.getD 0 0<=57
  ·rw[if_pos b];exact⟨rfl,rfl⟩
  ·rw[if_neg b]
   by_cases c:w=[46]
   ·rw[if_pos c];exact⟨rfl,rfl⟩
   ·rw[if_neg c]
    split<;>exact⟨rfl,rfl⟩
theorem qpk:∀(ws:List Str) (p i:Nat),i<ws.length->(qaK p ws).getD i noT=Ue (p+i) (ws.getD i [])
 |[],_,_,h=>by cases h
 |w::ws,p,0,_=>rfl
 |w::ws,p,i+1,h=>by
  have:=qpk ws (p+1) i (Nat.lt_of_succ_lt_succ h);rw[show p+1+i=p+(i+1) by omega]at this;exact this
theorem nest_fail{s:Str}{i:Nat}(h:i<(Qz s).length):WS (Qz s) 3 i=⟨3,(i+1:Nat),8⟩:=by
 have hne:Qz s≠[]:=fun e=>by rw[e]at h;cases h
 have hm:min i ((Qz s).length-1)=i:=by omega
 unfold WS;rw[if_neg hne,hm];have:=qpk (Lib.fields s) 0 i (by rw[<-qfe];exact h);rw[Jp]at this;rw[show(Qz s).getD i noT=Ue i ((Lib.fields s).getD i [])from this,(lawT_at _ _).1,(lawT_at _ _).2]
theorem qsg{ks:List Nat}(hk:∀k∈ks,k<3)(h39:ks.length<=39):
 (ks.length<=31->∃s j,ParseR qZ (Qz (Ua ks)) Qg (.ok [s] j)/\Shp ks s)/\(32<=ks.length->ParseR qZ (Qz (Ua ks)) Qg (.bad ⟨3,(UF (ks.take 32)+1:Nat),8⟩)):=by
 obtain⟨toks,pt,e1,e2,e3,e4,e5⟩:=qlL hk h39;refine⟨fun h=>?_,fun h=>?_⟩
 ·obtain⟨s,a,b⟩:=qgv e1 e2 e3 e4 h
  exact⟨s,_,a,b⟩
 ·have:=qsh e1 e2 e4 h
  rwa [nest_fail e5]at this
end Go.Stm
namespace Go.Stm
open Go.Col (Str FaultC okF)
open Go.Tok
open Go.Proofs.YtgiadjbiimkbiaaGreatDoor (Short)
theorem qiT:∀(ks:List Nat),∀x∈UG ks,x.2.length<=20
 |[],x,hx=>by rw[V4.1 hx];decide
 |k::ks,x,hx=>by
  rw[UG]at hx;rcases JV.1 hx with h|h
  ·have:∀y∈qaJ k,y.2.length<=20:=by match k with|0=>decide|1=>decide|2=>decide|k+3=>exact(by decide:∀y∈qaJ 3,y.2.length<=20)
   exact this x h
  ·rcases JV.1 h with h|h
   ·exact qiT ks x h
   ·rw[V4.1 h]
    match k with|0=>decide|1=>decide|2=>decide|k+3=>exact(by decide:(qbT 3).length<=20)
theorem qrp{d n:Nat}{s:StC}(hs:Shp (YM n) s)(hd:n+1<=d)(hn:n<=100):(XU d [] [s]).length<=1000/\Short (XE d [s]):=by
 obtain⟨m,rfl⟩:∃m,d=m+1:=⟨d-1,by omega⟩
 obtain⟨ts,t1,t2,t3⟩:=qfz m n [] hs (by omega) (by simp only[JD];omega);rw[Jd]at t1;refine⟨by rw[t1];omega,fun t ht=>?_⟩;have hm:t∈ts++[qaD]:=by
  unfold XE at ht;rw[t1]at ht;repeat' split at ht
  all_goals first|(cases ht;done)|exact ht
 rcases JV.1 hm with h|h
 ·have:=qiT (YM n) (kt t) (by rw[<-t2];exact BK h)
  exact Ve this (by decide)
 ·rw[V4.1 h];decide
theorem qsP{d n:Nat}{s:StC}(hs:Shp (YM n) s)(hn:32<=n):XE d [s]=[]/\∀e,qiK d [s] e->e=3:=by
 have hT:XE d [s]=[]:=by
  unfold XE;rw[if_neg (by simp),if_pos (by rw[UM 32 _ hs];simp[YM];omega)]
 refine⟨hT,fun e h=>?_⟩;rcases h with⟨-,-,q⟩|⟨q,-⟩
 ·exact q
 ·exact absurd ⟨Nat.zero_lt_one,hT⟩ q
theorem lawA:Qz [65]=[Ue 0 [65]]:=by kernel_rfl
theorem ktA:kt (Ue 0 [65])=(1,Aw):=by kernel_rfl
def shrN(N e:Nat):Nat:=N / 2^e%3
theorem shr_rem(N e:Nat):Ew (Int.fdiv (N:Int) (2^e)) 3=(shrN N e:Int):=by
 have h1:Int.fdiv (N:Int) (2^e)=((N / 2^e:Nat):Int):=by
  rw[Int.fdiv_eq_ediv_of_nonneg _ (by exact Int.pow_nonneg (by decide))];rw[EM];congr 1
 rw[h1,Ex (Int.natCast_nonneg _)];exact(Ey _ 3).symm
theorem shrN_lt(N e:Nat):shrN N e<3:=Km _ (by decide)
end Go.Stm
namespace Go.Proofs.YtgiadjbiimkbiaaGreatDoor
open Go.AM
open Go.Proofs
open Go.Col (Str FaultC okF)
open Go.Tok (TokC)
open Go.Stm
open Go.RowKit (Below)
set_option maxRecDepth 100000
theorem ph_one{w0:World}{H:AHeap}{k:Nat}{w:Str}{tv:AVal}{ts:List TokC}(hk:H k=some ⟨[.str w,tv],0⟩)(ht:IsL w0 H 5 tv (ts.map Xg)):PhV w0 H (.slice (.own k) 0 1 (.exact 1)) [⟨w,ts⟩]:=by
 have hl:AM.allLive [.str w,tv]=true:=by rw[AM.allLive,AM.allLive,ht.live];rfl
 refine⟨[(⟨w,ts⟩,tv)],rfl,?_,fun q hq=>by rw[V4.1 hq];exact ht⟩;exact Bz (xs:=[[AVal.str w,tv]]) hk (by simp) rfl hl (.exact 1) (KL _)
theorem bd_one{w0:World}{H:AHeap}{S:AVal->List StC->Prop}{k:Nat}{w:Str}{tv lv:AVal}{ts:List TokC}{L:List StC}(hk:H k=some ⟨[.str w,tv,lv],0⟩)(ht:IsL w0 H 5 tv (ts.map Xg))(hl:S lv L)(hll:lv.live=true):BdV w0 S H (.slice (.own k) 0 1 (.exact 1)) [(w,ts,L)]:=by
 have hl:AM.allLive [.str w,tv,lv]=true:=by rw[AM.allLive,AM.allLive,AM.allLive,ht.live,hll];rfl
 refine⟨[((w,ts,L),tv,lv)],rfl,?_,fun q hq=>by rw[V4.1 hq];exact⟨ht,‹S lv L›⟩⟩;exact Bz (xs:=[[AVal.str w,tv,lv]]) hk (by simp) rfl hl (.exact 1) (KL _)
theorem bd_none{w0:World}{H:AHeap}{S:AVal->List StC->Prop}:BdV w0 S H .nilSlice []:=⟨[],rfl, .nil,fun q hq=>by cases hq⟩
theorem sts_one{w0:World}{H:AHeap}{d k:Nat}{vb:Str}{ln cl:Int}{pv bv:AVal}{ps:List PhrC}{bs:List BodC}(hk:H k=some ⟨[.str vb, .int .i64 ln, .int .i64 cl,pv,bv],0⟩)(hp:PhV w0 H pv ps)(hb:BdV w0 (StsV w0 d H) H bv bs):StsV w0 (d+1) H (.slice (.own k) 0 1 (.exact 1)) [.mk vb ln cl ps bs]:=by
 have hl:AM.allLive [.str vb, .int .i64 ln, .int .i64 cl,pv,bv]=true:=by rw[AM.allLive,AM.allLive,AM.allLive,AM.allLive,AM.allLive,hp.live,hb.live];rfl
 refine⟨[(.mk vb ln cl ps bs,pv,bv)],rfl,?_,fun q hq=>by rw[V4.1 hq];exact⟨hp,hb⟩⟩;exact Bz (xs:=[[AVal.str vb, .int .i64 ln, .int .i64 cl,pv,bv]]) hk (by simp) rfl hl (.exact 1) (KL _)
structure NsG where
 i:Nat
 at_:Nat
 kI:Nat
 ks:List Nat
 t:StC
 H:AHeap
set_option maxHeartbeats 16000000 in
theorem l_Nest1(w0:World)(hm:MaxL w0)(ha:Asp w0)(h:AHeap)(dep:UInt8)(N:Nat)(hN:N<18446744073709551616):
 ACall Tryz.prog w0 10 [.int .u8 dep.toNat, .int .u64 N] h (fun x h'=>x= .bool true/\AM.Sub h h'):=by
 have hd8:dep.toNat<256:=dep.toNat_lt;obtain⟨n,hn⟩:∃n,n=1+dep.toNat%40:=⟨_,rfl⟩
 have hn40:1<=n/\n<=40:=by omega
 have hrem:Ew (dep.toNat:Int) 40=((dep.toNat%40:Nat):Int):=by rw[Ex (by omega)];exact(Ey dep.toNat 40).symm
 have hwu:IntKind.u8.wrap ((dep.toNat%40:Nat):Int)=((dep.toNat%40:Nat):Int):=wrap_u8 (by omega) (by omega);have hwd:IntKind.i64.wrap ((dep.toNat%40:Nat):Int)=((dep.toNat%40:Nat):Int):=wrap_i64 (by omega) (by omega);have hwn:IntKind.i64.wrap (1+((dep.toNat%40:Nat):Int))=(n:Int):=by rw[wrap_i64 (by omega) (by omega)];omega
 refine qR (n:=135) (rs:=[.tmp 4]) Tryz.func10 rfl rfl rfl rfl (VY rfl) ?_;simp only[qU];refine awp_rseq [0,1] (by rfl) fun K hK=>?_;simp+decide only[Zj,↓qa];apply hK;clear hK K;refine awp_rseq [1,5] (by rfl) fun K hK=>?_;simp+decide only[ZR,Yw,qK,Xm,qj,XJ,XM,qad,↓qc,↓qd,↓ZZ _ _ _ (Uo Tryz.underlying5 Tryz.underlying3),ZA Tryz.underlying5 Tryz.underlying3,↓qa,hrem,hwd,hwn];apply hK;clear hK K;refine awp_rseq [1,5,6] (by rfl) fun K hK=>?_;simp+decide only[Zj,↓qa];apply hK;clear hK K;refine awp_rseq [1,5,6,7] (by rfl) fun K hK=>?_;simp+decide only[Zj,↓qa];apply hK;clear hK K;refine awp_rseq [1,5,6,7,8] (by rfl) fun K hK=>?_;simp+decide only[Zj,↓qa];apply hK;clear hK K;refine awp_rseq [1,5,6,7,8,9] (by rfl) fun K hK=>?_;simp+decide only[XK,QZ,QW,Zo,↓XO,↓QN,qta];refine qO (cs:=[.str [], .nilSlice]) (by kernel_rfl) fun k5q1 hk5q1=>?_;try have hf_5q1:h k5q1=none:=by first|assumption|(simp only[Bd]at hk5q1;simp only[hk5q1])
 simp+decide only[XK,QZ,QW,Zo,↓XO,↓QN,qmT];refine qO (cs:=[.str [67,79,78,84,73,78,85,69], .int .i64 0, .int .i64 0, .slice (.own k5q1) 0 1 (.exact 1), .nilSlice]) (by kernel_rfl) fun k5q3 hk5q3=>?_;have ne_5q3_5q1:k5q3≠k5q1:=by simp only[Bd]at hk5q3;simp only[Yv,hk5q3]
 try have hf_5q3:h k5q3=none:=by first|assumption|(simp only[Bd]at hk5q3;simp only[hk5q3])
 simp+decide only[Zj,↓qa];apply hK;clear hK K;refine qi ?_;refine awp_rseq [1,5,6,7,8,9,10] (by rfl) fun K hK=>?_;simp+decide only[Zj,↓qa];apply hK;clear hK K;refine qI ?_;refine Qj [1,5,6,7,8,9,10] (fun g:NsG=>[(1, .int .u64 N),(5, .int .i64 n),(6, .str (qbB g.ks)),(7, .int .i64 g.at_),(8, .str (qcR g.ks)),(9, .slice (.own g.kI) 0 1 (.exact 1)),(10, .int .i64 g.i)]) (fun g:NsG=>g.H) (fun g:NsG=>AM.Sub h g.H/\1<=g.i/\g.i<=n/\g.ks.length+1=g.i/\(∀k∈g.ks,k<3)/\(32<=g.ks.length->g.at_=UF (g.ks.take 32))/\StsV w0 g.i g.H (.slice (.own g.kI) 0 1 (.exact 1)) [g.t]/\Shp (YM (g.i-1)) g.t) (fun g:NsG=>n-g.i) ⟨1,0,k5q3,[], .mk qaY 0 0 [⟨[],[]⟩] [],_⟩ (by rfl) (Vi _) ⟨zqB,KL _,hn40.1,rfl,(fun k hk=>by cases hk),(fun hk=>by cases hk),sts_one (Vh _ _ _) (ph_one zqA .nil) bd_none,⟨0,0,rfl⟩⟩ ?_;rintro⟨i,at_,kI,ks,t,H⟩ ⟨hs_H,hi1,hin,hkl,hk3,hat,hst,hsh⟩;simp only at hs_H hi1 hin hkl hk3 hat hst hsh|-
 have hol:=(qhc ks).2;have hcl:=(qiC ks).2;refine qi ?_;refine awp_rseq [1,5,6,7,8,9,10,24] (by rfl) fun K hK=>?_;simp+decide only[Xk,Xm,qj,QY,↓qc,↓qd];apply hK;clear hK K;refine qz (b:=_) rfl (fun hb1=>?_) (fun hb1=>?_)
 ·try simp only[qG]at hb1
  have hi2:i<n:=by omega
  have h32:Ew (i:Int) 32=((i%32:Nat):Int):=by rw[Ex (by omega)];exact(Ey i 32).symm
  have hw32:IntKind.i64.wrap ((i%32:Nat):Int)=((i%32:Nat):Int):=wrap_i64 (by omega) (by omega);have hw64:IntKind.i64.wrap (((i%32:Nat):Int)*2)=((i%32*2:Nat):Int):=by rw[wrap_i64 (by omega) (by omega)];omega
  obtain⟨k,hk⟩:∃k,k=shrN N (min (i%32*2) IntKind.u64.bits):=⟨_,rfl⟩
  have hkk:k<3:=by rw[hk];exact shrN_lt _ _
  have hwk:IntKind.i64.wrap (k:Int)=(k:Int):=wrap_i64 (by omega) (by omega);have hwk64:IntKind.u64.wrap (k:Int)=(k:Int):=by unfold IntKind.wrap;simp[IntKind.bits,IntKind.signed];omega
  have hwi:IntKind.i64.wrap ((i:Int)+1)=((i+1:Nat):Int):=by rw[wrap_i64 (by omega) (by omega)];omega
  have q3:k=0\/k=1\/k=2:=by omega
  have hc10:([AVal.str (qbC 0), .str (qbC 1), .str (qbC 2)]:List AVal).getD k .dead= .str (qbC k):=by rcases q3 with e|e|e<;>rw[e]<;>rfl
  have hc11:([AVal.str (clS 0), .str (clS 1), .str (clS 2)]:List AVal).getD k .dead= .str (clS k):=by rcases q3 with e|e|e<;>rw[e]<;>rfl
  have hkb:(0<=(k:Int)/\(k:Int)<3)=True:=eq_true ⟨by omega,by omega⟩;have hnl:=(qkD k).2;have hcll:=(qsM k).2;refine qF ?_;change Awp _ _ _ _ _ _ _;refine qi ?_;refine qI ?_;refine awp_rseq [1,5,6,7,8,9,10,11] (by rfl) fun K hK=>?_;simp+decide only[ZR,Yw,qK,VD,Xm,qj,XM,qad,↓qc,↓qd,qgu,qmu,↓ZZ _ _ _ (Uo Tryz.underlying27 Tryz.underlying3),ZA Tryz.underlying27 Tryz.underlying3,↓qa,h32,hw64,shr_rem,<-hk,hwk];repeat (with_reducible refine zqP ?_)
  apply hK;clear hK K;refine awp_rseq [1,5,6,7,8,9,10,11] (by rfl) fun K hK=>?_;simp+decide only[XW,XF,VD,Xm,↓qc];refine qO (cs:=[.str (qbC 0), .str (qbC 1), .str (qbC 2)]) (by kernel_rfl) fun k10q1 hk10q1=>?_;have hn_10q1:H k10q1=none:=by first|assumption|(simp only[Bd]at hk10q1;simp only[hk10q1])
  have hf_10q1:h k10q1=none:=Be hs_H hn_10q1;simp+decide only[ZR,XF,QJ,VD,Xm,qj,Qs,ZO,Bi,↓qc,↓qJ,qg Tryz.underlying22 sz9,↓qo,qf ag9,↓qd,↓qa,hc10];repeat (with_reducible refine zqP ?_)
  apply hK;clear hK K;refine awp_rseq [1,5,6,7,8,9,10] (by rfl) fun K hK=>?_;refine qO (cs:=[.str (clS 0), .str (clS 1), .str (clS 2)]) (by kernel_rfl) fun k11q0 hk11q0=>?_;have ne_11q0_10q1:k11q0≠k10q1:=by simp only[Bd]at hk11q0;simp only[Yv,hk11q0]
  have hn_11q0:H k11q0=none:=by first|assumption|(simp only[Bd]at hk11q0;simp only[hk11q0])
  have hf_11q0:h k11q0=none:=Be hs_H hn_11q0;simp+decide only[ZR,XF,QJ,VD,Xm,qj,Qs,ZO,Bi,↓qc,↓qJ,qg Tryz.underlying22 sz9,↓qo,qf ag9,↓qd,↓qa,hc11];repeat (with_reducible refine zqP ?_)
  apply hK;clear hK K;refine awp_rseq [1,5,6,7,8,9,10] (by rfl) fun K hK=>?_;refine qE (by rfl) (by rfl) (qdO w0 hm ha _ [65] (by decide) (by decide)) fun x12q0 h12q0 hx12q0=>?_;obtain⟨p12,hrow12,hG12,hS12⟩:=hx12q0;have hsA:=hS12.in_ (i:=0) rfl;have hsc:Sc x12q0=True:=by rcases hrow12 with⟨rfl,_⟩|⟨_,_,rfl,_⟩<;>exact eq_true trivial
  have hla:=hrow12.live;have hs_h12q0:Sub h h12q0:=Br zqC hsA;have hr_h12q0:Sub H h12q0:=Br zqC hsA;have eb_10q1:=hsA k10q1 _ zqA;have eb_11q0:=hsA k11q0 _ zqA;simp+decide only[XK,QZ,QW,Zo,↓XO,↓QN,bld84_1,hsc];refine qO (cs:=[.str [],x12q0]) (by kernel_rfl) fun k12q2 hk12q2=>?_;have hn_12q2:h12q0 k12q2=none:=by first|assumption|(simp only[Bd]at hk12q2;simp only[hk12q2])
  have hf_12q2:h k12q2=none:=Be hs_h12q0 hn_12q2;have ne_12q2_10q1:k12q2≠k10q1:=Bf hn_12q2 eb_10q1;have ne_12q2_11q0:k12q2≠k11q0:=Bf hn_12q2 eb_11q0;simp+decide only[XW,QZ,QW,Zo,↓qc,↓XO,↓QN,bld86_0_2];refine qO (cs:=[.str [84,72,69,78], .nilSlice, .slice (.own kI) 0 1 (.exact 1)]) (by kernel_rfl) fun k12q5 hk12q5=>?_;have ne_12q5_12q2:k12q5≠k12q2:=by simp only[Bd]at hk12q5;simp only[Yv,hk12q5]
  have hn_12q5:h12q0 k12q5=none:=by first|assumption|(simp only[Bd]at hk12q5;simp only[hk12q5])
  have hf_12q5:h k12q5=none:=Be hs_h12q0 hn_12q5;have ne_12q5_10q1:k12q5≠k10q1:=Bf hn_12q5 eb_10q1;have ne_12q5_11q0:k12q5≠k11q0:=Bf hn_12q5 eb_11q0;simp+decide only[XK,QZ,QW,Zo,↓XO,↓QN,qpW];refine qO (cs:=[.str [73,70], .int .i64 0, .int .i64 0, .slice (.own k12q2) 0 1 (.exact 1), .slice (.own k12q5) 0 1 (.exact 1)]) (by kernel_rfl) fun k12q7 hk12q7=>?_;have ne_12q7_12q2:k12q7≠k12q2:=by simp only[Bd]at hk12q7;simp only[Yv,hk12q7]
  have ne_12q7_12q5:k12q7≠k12q5:=by simp only[Bd]at hk12q7;simp only[Yv,hk12q7]
  have hn_12q7:h12q0 k12q7=none:=by first|assumption|(simp only[Bd]at hk12q7;simp only[hk12q7])
  have hf_12q7:h k12q7=none:=Be hs_h12q0 hn_12q7;have ne_12q7_10q1:k12q7≠k10q1:=Bf hn_12q7 eb_10q1;have ne_12q7_11q0:k12q7≠k11q0:=Bf hn_12q7 eb_11q0;simp+decide only[Zj,↓qa];apply hK;clear hK K;have hs_p:AM.Sub p12 h12q0:=hS12.in_ (i:=1) rfl;have hs_n:AM.Sub h12q0 (((h12q0.set k12q2 ⟨[.str [],x12q0],0⟩).set k12q5 ⟨[.str [84,72,69,78], .nilSlice, .slice (.own kI) 0 1 (.exact 1)],0⟩).set k12q7 ⟨[.str [73,70], .int .i64 0, .int .i64 0, .slice (.own k12q2) 0 1 (.exact 1), .slice (.own k12q5) 0 1 (.exact 1)],0⟩):=zqB;obtain⟨H12,hH12⟩:∃H12,H12=(((h12q0.set k12q2 ⟨[.str [],x12q0],0⟩).set k12q5 ⟨[.str [84,72,69,78], .nilSlice, .slice (.own kI) 0 1 (.exact 1)],0⟩).set k12q7 ⟨[.str [73,70], .int .i64 0, .int .i64 0, .slice (.own k12q2) 0 1 (.exact 1), .slice (.own k12q5) 0 1 (.exact 1)],0⟩):=⟨_,rfl⟩
  have f2:H12 k12q2=some ⟨[.str [],x12q0],0⟩:=by rw[hH12];exact zqA
  have f5:H12 k12q5=some ⟨[.str [84,72,69,78], .nilSlice, .slice (.own kI) 0 1 (.exact 1)],0⟩:=by rw[hH12];exact zqA
  have f7:H12 k12q7=some ⟨[.str [73,70], .int .i64 0, .int .i64 0, .slice (.own k12q2) 0 1 (.exact 1), .slice (.own k12q5) 0 1 (.exact 1)],0⟩:=by rw[hH12];exact zqA
  rw[<-hH12]at hs_n|-
  have hs_12:AM.Sub H H12:=Br (by repeat (first|exact Vi _|assumption|refine Br ?_ (Vj (by assumption))|refine Br ?_ (by assumption))) hs_n;have hs_H12:AM.Sub h H12:=hs_H.trans hs_12;have hst12:StsV w0 (i+1) H12 (.slice (.own k12q7) 0 1 (.exact 1)) [.mk IFv 0 0 [⟨[],Qz [65]⟩] [(Yh,[],[t])]]:=sts_one f7 (ph_one f2 (hrow12.isL (hs_p.trans hs_n))) (bd_one f5 .nil (hst.mono hs_12) rfl);have hsh12:Shp (YM i) (.mk IFv 0 0 [⟨[],Qz [65]⟩] [(Yh,[],[t])]):=by
   obtain⟨j,rfl⟩:∃j,i=j+1:=⟨i-1,by omega⟩
   rw[Ec]at hsh;exact⟨t,0,0,Ue 0 [65],hsh,ktA,by rw[lawA]⟩
  have hk3':∀j∈ks++[k],j<3:=fun j hj=>by
   rcases JV.1 hj with z|z
   ·exact hk3 j z
   ·rw[V4.1 z];exact hkk
  have hos:qbB ks++qbC k=qbB (ks++[k]):=(qrZ ks k).symm;have hcs:clS k++qcR ks=qcR (ks++[k]):=(qpI ks k).symm;rw[hos,hcs];have hol2:=qhc (ks++[k]);rw[Jb,JF]at hol2;refine awp_rseq [1,5,6,7,8,9,10,55] (by rfl) fun K hK=>?_;simp+decide only[Xk,qK,Xm,XA,↓qc,↓qd];apply hK;clear hK K;refine qz (b:=_) rfl (fun hb2=>?_) (fun hb2=>?_)
  ·try simp only[qG]at hb2
   have hi32:i=32:=by omega
   refine Qv [1,5,6,7,8,9,10] (by rfl) ?_;simp+decide only[XW,QZ,↓qc];refine qE (by rfl) (by rfl) (qbG w0 ha _ (qbB (ks++[k])) (by omega) hol2.1) fun x14q1 h14q1 hx14q1=>?_;obtain⟨kf,hkf,rfl,e14⟩:=hx14q1;have hs14:AM.Sub H12 h14q1:=by rw[e14];exact Vj hkf
   have n14:=WC (l:=Lib.fields (qbB (ks++[k]))) (Uv (w0:=w0) (show h14q1 kf=some ⟨(Lib.fields (qbB (ks++[k]))).map AVal.str,0⟩ by rw[e14];exact Vh _ _ _));rw[openS_n hk3']at n14;have hs_h14q1:Sub h h14q1:=Br zqC hs14;have hr_h14q1:Sub H12 h14q1:=Br zqC hs14;simp+decide only[Zj,Qh,↓Qi,QV Tryz.underlying22,↓qa];change Awp _ _ _ _ _ _ _;refine Qv [1,5,6,7,8,9,10] (by rfl) ?_;simp+decide only[ZR,Yw,qK,Xm,XJ,↓qc,↓qd,↓qa,hwi];try simp only[QL]
   (exact⟨⟨i+1,UF (ks++[k]),k12q7,ks++[k],_,h14q1⟩,by rw[openS_n hk3']<;>rfl,Vi _,⟨hs_H12.trans hs14,by simp only;omega,hi2,by simp only[Jb,JF];omega,hk3',fun _=>by simp only;rw[List.take_of_length_le (by simp only[Jb,JF];omega)],hst12.mono hs14,by simp only[Ec];exact hsh12⟩,by simp only;omega⟩)
  ·try simp only[qG]at hb2
   have hi32:i≠32:=by omega
   refine qF ?_;change Awp _ _ _ _ _ _ _;refine Qv [1,5,6,7,8,9,10] (by rfl) ?_;simp+decide only[ZR,Yw,qK,Xm,XJ,↓qc,↓qd,↓qa,hwi];try simp only[QL]
   (exact⟨⟨i+1,at_,k12q7,ks++[k],_,H12⟩,rfl,Vi _,⟨hs_H12,by simp only;omega,hi2,by simp only[Jb,JF];omega,hk3',fun z=>by simp only[Jb,JF]at z|-;rw[hat (by omega),List.take_append_of_le_length (by omega)],hst12,by simp only[Ec];exact hsh12⟩,by simp only;omega⟩)
 ·try simp only[qG]at hb1
  have hinn:i=n:=by omega
  subst hinn;obtain⟨hnA,hnL⟩:=qsi ks;obtain⟨r1,r2⟩:=qsg hk3 (by omega);have hlT:(Qz (Ua ks)).length<=1000000:=YU (by omega);obtain⟨hw1,hw2⟩:=qrp hsh (d:=i) (by omega) (by omega);obtain⟨z1,z2,z3⟩:=qfA i _ hsh;have hok:StsOk w0 i H (.slice (.own kI) 0 1 (.exact 1)) [t]:=⟨hst,z1,z2,z3⟩
  have hcT:Zm i [t]<=1000000000000:=Ve (qgN i _ hsh) (by simp[YM];omega);have hsmL:∀L j,ParseR qZ (XE i [t]) Qg (.ok L j)->SmallS 32 L:=fun L j q=>qrH hsh (by omega) q;refine Qk ?_;change Awp _ _ _ _ _ _ _;refine awp_rseq [5,7,9,12,13] (by rfl) fun K hK=>?_;simp+decide only[Xj,QZ,qj,QF,Jb,ZE,ZO,↓qc,↓qd,Nat.reduceAdd];repeat (with_reducible refine zqP ?_)
  refine qE (by rfl) (by rfl) (WT w0 hm ha _ (Ua ks) (by omega) hnA) fun x15q5 h15q5 hx15q5=>?_;obtain⟨ht15,hs15⟩:=hx15q5;have hs_h15q5:Sub h h15q5:=Br zqC hs15;have hr_h15q5:Sub H h15q5:=Br zqC hs15;refine qE (by rfl) (by rfl) (UC w0 hm ha (Qz (Ua ks)) hlT (ZT (by omega)) _ x15q5 ht15) fun x15q6 h15q6 hx15q6=>?_;obtain⟨hs15b,ho⟩:=hx15q6;obtain⟨f,L,rv,rfl,hv15,c1,c2⟩:∃f L rv,x15q6= .tuple [rv,faultV f]/\StsV w0 32 h15q6 rv L/\(ks.length<=31->f=okF/\∃s,L=[s]/\Shp ks s)/\(32<=ks.length->f=⟨3,((UF (ks.take 32)+1:Nat):Int),8⟩/\L=[]):=by
   rcases ho with⟨f,q,e⟩|⟨L,j,rv,q,e,hv⟩
   ·refine⟨f,[], .nilSlice,e,⟨[],rfl, .nil,fun q hq=>by cases hq⟩,fun z=>?_,fun z=>?_⟩
    ·obtain⟨s,j,p,-⟩:=r1 z
     cases De p q
    ·cases De (r2 z) q
     exact⟨rfl,rfl⟩
   ·refine⟨okF,L,rv,e,hv,fun z=>?_,fun z=>?_⟩
    ·obtain⟨s,j',p,hs⟩:=r1 z
     cases De p q;exact⟨rfl,s,rfl,hs⟩
    ·cases De (r2 z) q
  have hrl:=hv15.shape.1;have nrv:=UW hv15;have hs_h15q6:Sub h h15q6:=Br zqC hs15b;have hr_h15q6:Sub h15q5 h15q6:=Br zqC hs15b;simp+decide only[XW,QZ,QF,Jb,QR,Xe,↓qc,↓Xa,Nat.reduceAdd,faultV];refine Qp qgl (cs:=[.int .i64 0, .int .i64 0, .int .i64 0]) (by rfl) fun k15q10 hk15q10=>?_;have hn_15q10:h15q6 k15q10=none:=by first|assumption|(simp only[Bd]at hk15q10;simp only[hk15q10])
  have hf_15q10:h k15q10=none:=Be hs_h15q6 hn_15q10;simp+decide only[Zj,QF,Jb,↓qa];refine qN (by rfl) (by rfl) zqA qaZ (by rfl) (by rfl) zqD (Jq _) (by rfl) ?_;simp only[QT,Bg];simp+decide only[XK,QZ,QF,Jb,Nat.reduceAdd];apply hK;clear hK K;refine qi ?_;refine awp_rseq [5,7,9,12,13,70] (by rfl) fun K hK=>?_;simp+decide only[Xk,qK,Xm,YG,↓qc,↓qd];apply hK;clear hK K;refine qz (b:=_) rfl (fun hb3=>?_) (fun hb3=>?_)
  ·try simp only[qG]at hb3
   have h32:32<=ks.length:=by omega
   obtain⟨rfl,rfl⟩:=c2 h32;have hatE:=hat h32;have hwat:IntKind.i64.wrap ((at_:Int)+1)=((UF (ks.take 32)+1:Nat):Int):=by
    have:=(qfH (ks.take 32)).2;have:=(qfH (ks.take 32)).1;rw[K4]at this;rw[hatE,wrap_i64 (by omega) (by omega)];omega
   obtain⟨hT0,hck⟩:=qsP (d:=i) hsh (by omega);have hdp:YL 32 [t]=true:=by rw[UM 32 _ hsh];simp[YM];omega
   refine awp_rseq [4] (by kernel_rfl) fun K hK=>?_;try simp only[Xf]
   simp+decide only[Xk,QJ,qK,Xm,qj,JD,ZH,YJ,XJ,YS,Yy,Ke,QS,Vk,XA,Zo,↓qo,Qa qjy qaZ,↓qc,↓qd,↓XO,↓QN,qdP,qfS,qbi,eq48,↓Qy,↓qbW,↓Qn,↓Qd,Nat.reduceAdd,hwat,nrv];refine Xl (by rfl) ?_;refine qE (by rfl) (by rfl) (qjJ w0 hm ha i _ _ [t] (hok.mono (by repeat (first|exact Vi _|assumption|refine Br ?_ (Vj (by assumption))|refine Br ?_ (by assumption)))) (by omega) hw2 hsmL) fun x17q13 h17q13 hx17q13=>?_;obtain⟨⟨e17,rfl,he17⟩,hs17⟩:=hx17q13;rw[hck e17 he17];have hs_h17q13:Sub h h17q13:=Br zqC hs17;have hr_h17q13:Sub h15q6 h17q13:=Br zqC hs17;have eb_15q10:=hs17 k15q10 _ zqA;simp+decide only[Xk,qK,Xm,JD,XL,QS,XA,↓Qn,↓Qd,↓qc,↓Qy];refine Xl (by rfl) ?_;refine qE (by rfl) (by rfl) (qiE w0 hm ha i _ _ [t] (hok.mono (by repeat (first|exact Vi _|assumption|refine Br ?_ (Vj (by assumption))|refine Br ?_ (by assumption)))) (by omega)) fun x17q18 h17q18 hx17q18=>?_;obtain⟨ht17,hs17b⟩:=hx17q18;rw[hT0]at ht17;have n17:=ZN ht17;have hl17:=ht17.live;have hs_h17q18:Sub h h17q18:=Br zqC hs17b;have hr_h17q18:Sub h17q13 h17q18:=Br zqC hs17b;have eb_15q10:=hs17b k15q10 _ zqA;simp+decide only[Xk,qK,Xm,JD,ZH,Yl,QS,XA,↓qbW,↓Qn,↓Qd,↓qc,↓Qy,n17];refine Xl (by rfl) ?_;refine qE (by rfl) (by rfl) (qhB w0 i _ _ [t] (hst.mono (by repeat (first|exact Vi _|assumption|refine Br ?_ (Vj (by assumption))|refine Br ?_ (by assumption)))) z1 hcT) fun x17q24 h17q24 hx17q24=>?_;obtain⟨rfl,hs17c⟩:=hx17q24;rw[show qbt i [t]=0 by unfold qbt;rw[if_pos hdp]];have hs_h17q24:Sub h h17q24:=Br zqC hs17c;have hr_h17q24:Sub h17q18 h17q24:=Br zqC hs17c;have eb_15q10:=hs17c k15q10 _ zqA;simp+decide only[Xk,qK,Xm,JD,XL,QS,XA,↓Qn,↓Qd,↓qc,↓Qy];refine Xl (by rfl) ?_;refine qE (by rfl) (by rfl) (qlc w0 i i _ _ _ [t] [t] (hst.mono (by repeat (first|exact Vi _|assumption|refine Br ?_ (Vj (by assumption))|refine Br ?_ (by assumption)))) (hst.mono (by repeat (first|exact Vi _|assumption|refine Br ?_ (Vj (by assumption))|refine Br ?_ (by assumption)))) z1 z1) fun x17q30 h17q30 hx17q30=>?_;obtain⟨rfl,hs17d⟩:=hx17q30;rw[show qbL i [t] [t]=false by unfold qbL;rw[hdp];rfl];have hs_h17q30:Sub h h17q30:=Br zqC hs17d;have hr_h17q30:Sub h17q24 h17q30:=Br zqC hs17d;have eb_15q10:=hs17d k15q10 _ zqA;simp+decide only[XW,QZ,JD,XL,YF,Zf,↓Uc,↓Qd,↓qc];refine Xl (by rfl) ?_;refine qE (by rfl) (by rfl) (qdN w0 hm ha _) fun x17q34 h17q34 hx17q34=>?_;obtain⟨rfl,hs17e⟩:=hx17q34;have hs_h17q34:Sub h h17q34:=Br zqC hs17e;have hr_h17q34:Sub h17q30 h17q34:=Br zqC hs17e;have eb_15q10:=hs17e k15q10 _ zqA;simp+decide only[Zj,JD,YS,↓Qd,↓qa];apply hK;clear hK K;refine qW ?_;try simp only[XB]
   refine QG h zqC (qA (qC)) ?_;simp+decide only[XK,QZ,Yz];exact Vi _
  ·try simp only[qG]at hb3
   have h31:ks.length<=31:=by omega
   obtain⟨rfl,s,rfl,hshS⟩:=c1 h31;obtain⟨y1,y2,y3⟩:=qfA 32 _ hshS;have hcS:Zm 32 [s]=ks.length+1:=qhV 32 ks hshS (by omega);have hdS:YL 32 [s]=false:=by rw[UM 32 _ hshS];simp;omega
   have hdp:YL 32 [t]=false:=by rw[UM 32 _ hsh];simp[YM];omega
   have hcE:qbt 32 [s]=i:=by unfold qbt;rw[if_neg (by rw[hdS];decide),hcS];omega
   have hcI:qbt i [t]=i:=by unfold qbt;rw[if_neg (by rw[hdp];decide),qhV i _ hsh (by simp[YM])];simp[YM];omega
   have hsI:qbL i [t] [t]=true:=by unfold qbL;rw[hdp,qdw i _ hsh hsh];rfl
   refine qF ?_;change Awp _ _ _ _ _ _ _;refine awp_rseq [4] (by kernel_rfl) fun K hK=>?_;simp+decide only[Xk,XI,Xm,Xt,YJ,Yy,XA,↓qh,qsH,↓qo,qf ag46,↓qd,↓qc,↓Qy];refine Xl (by rfl) ?_;refine qE (by rfl) (by rfl) (qhB w0 32 _ rv [s] (hv15.mono (by repeat (first|exact Vi _|assumption|refine Br ?_ (Vj (by assumption))|refine Br ?_ (by assumption)))) y1 (by omega)) fun x18q5 h18q5 hx18q5=>?_;obtain⟨rfl,hs18a⟩:=hx18q5;rw[hcE];have hs_h18q5:Sub h h18q5:=Br zqC hs18a;have hr_h18q5:Sub h15q6 h18q5:=Br zqC hs18a;have eb_15q10:=hs18a k15q10 _ zqA;simp+decide only[Xk,Xm,qj,XL,QS,XA,↓Qy,↓Qn,↓Qd,↓qc];refine Xl (by rfl) ?_;refine qE (by rfl) (by rfl) (qjJ w0 hm ha i _ _ [t] (hok.mono (by repeat (first|exact Vi _|assumption|refine Br ?_ (Vj (by assumption))|refine Br ?_ (by assumption)))) (by omega) hw2 hsmL) fun x18q11 h18q11 hx18q11=>?_;obtain⟨⟨e18,rfl,he18⟩,hs18⟩:=hx18q11;rw[(qsN hsh (by omega) (by omega) he18).1];have hs_h18q11:Sub h h18q11:=Br zqC hs18;have hr_h18q11:Sub h18q5 h18q11:=Br zqC hs18;have eb_15q10:=hs18 k15q10 _ zqA;simp+decide only[Xk,qK,Xm,XL,QS,XA,↓Qn,↓Qd,↓qc,↓Qy];refine Xl (by rfl) ?_;refine qE (by rfl) (by rfl) (qhB w0 i _ _ [t] (hst.mono (by repeat (first|exact Vi _|assumption|refine Br ?_ (Vj (by assumption))|refine Br ?_ (by assumption)))) z1 hcT) fun x18q16 h18q16 hx18q16=>?_;obtain⟨rfl,hs18c⟩:=hx18q16;rw[hcI];have hs_h18q16:Sub h h18q16:=Br zqC hs18c;have hr_h18q16:Sub h18q11 h18q16:=Br zqC hs18c;have eb_15q10:=hs18c k15q10 _ zqA;simp+decide only[Xk,Xm,qj,XL,QS,XA,↓Qy,↓Qn,↓Qd,↓qc];refine Xl (by rfl) ?_;refine qE (by rfl) (by rfl) (qlc w0 i i _ _ _ [t] [t] (hst.mono (by repeat (first|exact Vi _|assumption|refine Br ?_ (Vj (by assumption))|refine Br ?_ (by assumption)))) (hst.mono (by repeat (first|exact Vi _|assumption|refine Br ?_ (Vj (by assumption))|refine Br ?_ (by assumption)))) z1 z1) fun x18q23 h18q23 hx18q23=>?_;obtain⟨rfl,hs18d⟩:=hx18q23;rw[hsI];have hs_h18q23:Sub h h18q23:=Br zqC hs18d;have hr_h18q23:Sub h18q16 h18q23:=Br zqC hs18d;have eb_15q10:=hs18d k15q10 _ zqA;simp+decide only[XW,QZ,YS,↓Qd,↓qc];refine Xl (by rfl) ?_;refine qE (by rfl) (by rfl) (qdN w0 hm ha _) fun x18q26 h18q26 hx18q26=>?_;obtain⟨rfl,hs18e⟩:=hx18q26;have hs_h18q26:Sub h h18q26:=Br zqC hs18e;have hr_h18q26:Sub h18q23 h18q26:=Br zqC hs18e;have eb_15q10:=hs18e k15q10 _ zqA;simp+decide only[Zj,YS,↓Qd,↓qa];apply hK;clear hK K;refine qW ?_;refine QG h zqC (qA (qC)) ?_;simp+decide only[XK,QZ,Yz];exact Vi _
end Go.Proofs.YtgiadjbiimkbiaaGreatDoor
namespace Go.Stm
open Go.Col (Str FaultC okF)
open Go.Tok
open Go.Proofs.YtgiadjbiimkbiaaGreatDoor
theorem qil:∀{f:Nat} {l:List XC},qkF f l=true->LenX 140737488355328 f l
 |0,l,h=>by
  simp only[Us,Jz,qkF]at h;exact⟨by omega,fun x hx=>by have:=h.2 x hx;omega⟩
 |f+1,l,h=>by
  simp only[Us,Jz,qkF]at h;exact⟨by omega,fun x hx=>⟨by have:=h.2 x hx;omega,by have:=h.2 x hx;omega,fun z hz=>qil ((h.2 x hx).2.2 z hz)⟩⟩
theorem qeV:∀{f d:Nat} {l:List XC},qkF f l=true->d<=f+1->qdt d l
 |_,0,_,_,_=>trivial
 |0,d+1,l,h,hd=>by
  simp only[Us,Jz,qkF]at h;obtain rfl:d=0:=by omega
  exact⟨by omega,fun x hx=>⟨by have:=h.2 x hx;omega,by have:=h.2 x hx;omega,fun z hz=>trivial⟩⟩
 |f+1,d+1,l,h,hd=>by
  simp only[Us,Jz,qkF]at h;exact⟨by omega,fun x hx=>⟨by have:=h.2 x hx;omega,by have:=h.2 x hx;omega,fun z hz=>qeV ((h.2 x hx).2.2 z hz) (by omega)⟩⟩
theorem qmV:∀{m:Nat} {l:List StC},ascB m l=true->qlW m l
 |0,_,_=>trivial
 |m+1,l,h=>by
  simp only[Us,Jz,ascB]at h;exact fun s hs=>⟨(h s hs).1,(h s hs).2.1,fun b hb=>⟨((h s hs).2.2 b hb).1,qmV ((h s hs).2.2 b hb).2⟩⟩
structure ReOk(m:Nat)(l:List StC):Prop where
 pos:0<(XE m l).length
 wr:(XU m [] l).length<=100000
 short:Short (XE m l)
 ex:∃L j,ParseR qZ (XE m l) Qg (.ok L j)/\SmallS 32 L/\qbL 32 L l=true
theorem re_spec{m:Nat}{l:List StC}(h:reB m l=true):ReOk m l:=by
 unfold reB at h;simp only[Us,Jz]at h;obtain⟨h1,h2,h3,h4⟩:=h;refine⟨h1,h2,h3,?_⟩;split at h4
 ·rename_i L j hp
  simp only[Ky]at h4;exact⟨L,j,⟨500,hp⟩,(Ug h4.1).1,h4.2⟩
 ·cases h4
theorem ReOk.small{m:Nat}{l:List StC}(h:ReOk m l):∀L j,ParseR qZ (XE m l) Qg (.ok L j)->SmallS 32 L:=fun L j hp=>by
 obtain⟨L',j',hp',hs,_⟩:=h.ex;cases De hp hp';exact hs
theorem ReOk.check{m:Nat}{l:List StC}(h:ReOk m l){e:Int}(hc:qiK m l e):e=0:=by
 obtain⟨L',j',hp',hs,hsm⟩:=h.ex;rcases hc with⟨_,h0,_⟩|⟨_,⟨f,hp,_⟩|⟨L,j,hp,he⟩⟩
 ·have:=h.pos
  rw[h0]at this;cases this
 ·cases De hp hp'
 ·cases De hp hp'
  rw[he,hsm];rfl
structure FineS(m:Nat)(l:List StC):Prop where
 small:SmallS m l
 tx:TxS m l
 asc:qlW m l
theorem qmK{m:Nat}{l:List StC}(h:fineB m l=true):FineS m l:=by
 unfold fineB at h;rw[Ky]at h;exact⟨(Ug h.1).1,(Ug h.1).2,qmV h.2⟩
structure GotOk(L all:List StC)(c:Nat):Prop where
 f1:FineS 32 L
 f2:FineS 6 all
 same:qbL 32 L all=true
 re1:ReOk 32 L
 re2:ReOk 6 all
 pos:0<L.length
 at_:(L.getD 0 contC).line=1/\(L.getD 0 contC).col=8
 cle:Zm 6 all<=1000000000000
 cnt:qbt 6 all=c
theorem got_spec{L all:List StC}{c:Nat}(h:gotB L all c=true):GotOk L all c:=by
 unfold gotB at h;simp only[Us]at h;obtain⟨h1,h2,h3,h4,h5,h6,h7,h8,h9⟩:=h;exact⟨qmK h1,qmK h2,h3,re_spec h4,re_spec h5,h6,h7,Ve h8 (by decide),h9⟩
structure AskOk(A B:Str×List StC):Prop where
 len:(qbN A.1 B.1).length<=99999
 asc:asciiB (qbN A.1 B.1)=true
 nums:0<A.2.length/\0<B.2.length/\A.2.length<=4/\B.2.length<=4
 ex:∃L j,ParseR qZ (Qz (qbN A.1 B.1)) Qg (.ok L j)/\GotOk L (A.2++B.2) (qbf (Qz (A.1++B.1)))
theorem ask_spec{A B:Str×List StC}(h:askB A B=true):AskOk A B:=by
 unfold askB at h;simp only[Us]at h;obtain⟨h1,h2,h3,h4⟩:=h;refine⟨h1,h2,h3,?_⟩;split at h4
 ·rename_i L j hp
  exact⟨L,j,⟨500,hp⟩,got_spec h4⟩
 ·cases h4
theorem case_spec{l m:List XC}(h:caseB l m=true):qkF 8 l=true/\qkF 8 m=true/\bigE l 40=false/\bigE m 20=false/\AskOk (XY 6 l 1 true) (XY 6 m 1 true):=by
 unfold caseB at h;simp only[Ky,Jh]at h;obtain⟨h1,h2,h3,h4,h5⟩:=h;exact⟨h1,h2,h3,h4,ask_spec h5⟩
theorem qth{a b:Str}(h:asciiB (qbN a b)=true):asciiB (a++b)=true:=by
 unfold qbN asciiB at*
 simp only[Ky,Es]at h|-
 exact⟨h.1.1.1,h.1.2⟩
theorem qrB(a b:Str):(qbN a b).length=a.length+b.length+7:=by
 unfold qbN;simp only[QF,Jb];omega
end Go.Stm
namespace Go.Proofs.YtgiadjbiimkbiaaGreatDoor
open Go.AM
open Go.Proofs
open Go.Col (Str FaultC okF)
open Go.Tok (TokC)
open Go.Stm
open Go.RowKit (Below)
set_option maxRecDepth 100000
theorem qkc{w0:World}{h:AHeap}{d:Nat}{v:AVal}{l:List StC}(hs:StsV w0 (d+1) h v l):∃qs:List (StC×AVal×AVal),l=qs.map (·.1)/\IsL w0 h 5 v (qs.map qcy)/\∀q∈qs,PhV w0 h q.2.1 q.1.phrases/\BdV w0 (StsV w0 d h) h q.2.2 q.1.bodies:=hs
theorem qsy{es k:Nat}:GrowV es (.slice (.own k) 0 0 (.exact 0)) (one k ⟨[],0⟩) []:=GrowV.new (n:=0) rfl (.inl rfl) (fun x hx=>by cases hx) rfl rfl
theorem qoR{w0:World}{l:List TokC}{h h':AHeap}{r:AVal}{L:List StC}{j:Nat}(hp:ParseR qZ l Qg (.ok L j))(ho:qhM w0 l h r h'):AM.Sub h h'/\∃rv,r= .tuple [rv,faultV okF]/\StsV w0 32 h' rv L:=by
 obtain⟨hs,⟨f,q,_⟩|⟨L',j',rv,q,e,hv⟩⟩:=ho
 ·cases De hp q
 ·cases De hp q
  exact⟨hs,rv,e,hv⟩
set_option maxHeartbeats 32000000 in
theorem qsY(w0:World)(hm:MaxL w0)(ha:Asp w0)(h:AHeap)(vl:AVal)(l:List XC)(d1:Nat)(hX:XsV w0 d1 h vl l)(vm:AVal)(m:List XC)(d2:Nat)(hM:XsV w0 d2 h vm m)(hc:caseB l m=true):
 ACall Tryz.prog w0 11 [vl,vm] h (fun r h'=>r= .bool true/\AM.Sub h h'):=by
 have hvl:=hX.shape.1;have hvm:=hM.shape.1;obtain⟨hl8,hm8,hb40,hb20,hAsk⟩:=case_spec hc;obtain⟨A,hAe⟩:∃A,A=XY 6 l 1 true:=⟨_,rfl⟩
 obtain⟨B,hBe⟩:∃B,B=XY 6 m 1 true:=⟨_,rfl⟩
 rw[<-hAe,<-hBe]at hAsk;obtain⟨hTl,hTa,⟨hA0,hB0,hA4,hB4⟩,L,j,hP,hG⟩:=hAsk;have hTp:=qrB A.1 B.1;have hABa:=qth hTa;obtain⟨R2,j2,hP2,hR2s,hR2e⟩:=hG.re2.ex;obtain⟨cc,hcc⟩:∃c,c=qbf (Qz (A.1++B.1)):=⟨_,rfl⟩
 have hcnt:=hG.cnt;rw[<-hcc]at hcnt;refine qR (n:=100) (rs:=[.tmp 4]) Tryz.func11 rfl rfl rfl rfl (VY rfl) ?_;simp only[qU];refine awp_rseq [0,1] (by rfl) fun K hK=>?_;simp+decide only[Zj,↓qa];apply hK;clear hK K;refine qi ?_;refine awp_rseq [0,1,19] (by rfl) fun K hK=>?_;simp+decide only[XW,QZ,↓qc];refine QC (V:= .bool false) (by rfl) (by rfl) (by rw[<-hb40];exact c_big w0 d1 _ vl l 40 (hX.mono (by repeat (first|exact Vi _|assumption|refine Br ?_ (Vj (by assumption))|refine Br ?_ (by assumption)))) (qil hl8) (by decide) (by decide)) ?_;simp+decide only[XW,QZ,Xt,YJ,Yy,↓qc,↓Qy];refine Xl (by rfl) ?_;refine QC (V:= .bool false) (by rfl) (by rfl) (by rw[<-hb20];exact c_big w0 d2 _ vm m 20 (hM.mono (by repeat (first|exact Vi _|assumption|refine Br ?_ (Vj (by assumption))|refine Br ?_ (by assumption)))) (qil hm8) (by decide) (by decide)) ?_;simp+decide only[XK,QZ,YS,↓Qd];apply hK;clear hK K;refine qz (b:=_) rfl (fun hb1=>?_) (fun hb1=>?_)
 ·exact absurd hb1 (by decide)
 ·try simp only[qG]at hb1
  refine qF ?_;change Awp _ _ _ _ _ _ _;refine awp_rseq [1,5,6] (by rfl) fun K hK=>?_;simp+decide only[XW,QZ,↓qc];refine qE (by rfl) (by rfl) (qob w0 hm ha 6 d1 1 (by decide) (by decide) _ vl l true (hX.mono (by repeat (first|exact Vi _|assumption|refine Br ?_ (Vj (by assumption))|refine Br ?_ (by assumption)))) (qeV hl8 (by decide)) (by rw[<-hAe];omega)) fun x3q1 h3q1 hx3q1=>?_;rw[<-hAe]at hx3q1;obtain⟨xv,px,rfl,hxv,hS3⟩:=hx3q1;have hs3:AM.Sub h h3q1:=hS3.in_ (i:=0) rfl;have hxv3:=hxv.mono (hS3.in_ (i:=1) rfl);have hxl:=hxv3.shape.1;have hs_h3q1:Sub h h3q1:=Br zqC hs3;have hr_h3q1:=hs_h3q1;simp+decide only[XW,QO,QZ,QF,QR,Xe,↓qc,↓Xa,↓qa,Nat.reduceAdd];apply hK;clear hK K;refine awp_rseq [5,6,7,8] (by rfl) fun K hK=>?_;simp+decide only[XW,QZ,↓qc];refine qE (by rfl) (by rfl) (qob w0 hm ha 6 d2 1 (by decide) (by decide) _ vm m true (hM.mono (by repeat (first|exact Vi _|assumption|refine Br ?_ (Vj (by assumption))|refine Br ?_ (by assumption)))) (qeV hm8 (by decide)) (by rw[<-hBe];omega)) fun x4q1 h4q1 hx4q1=>?_;rw[<-hBe]at hx4q1;obtain⟨yv,py,rfl,hyv,hS4⟩:=hx4q1;have hs4:AM.Sub h3q1 h4q1:=hS4.in_ (i:=0) rfl;have hyv4:=hyv.mono (hS4.in_ (i:=1) rfl);have hyl:=hyv4.shape.1;have hs_h4q1:Sub h h4q1:=Br zqC hs4;have hr_h4q1:Sub h3q1 h4q1:=Br zqC hs4;simp+decide only[XW,QO,QZ,QF,QR,Xe,↓qc,↓Xa,↓qa,Nat.reduceAdd];apply hK;clear hK K;have hlt1:(A.1.length+[(32:UInt8),46,32,46,32].length<9223372036854775808)=True:=eq_true (by simp only[QF];omega);have hlt2:((A.1++[(32:UInt8),46,32,46,32]).length+B.1.length<9223372036854775808)=True:=eq_true (by simp only[QF,Jb];omega);have hlt3:((A.1++[(32:UInt8),46,32,46,32]++B.1).length+[(32:UInt8),46].length<9223372036854775808)=True:=eq_true (by simp only[QF,Jb];omega);refine awp_rseq [5,6,7,8,9,10] (by rfl) fun K hK=>?_;simp+decide only[Xj,QZ,qj,ZE,ZO,↓qc,↓qd,hlt1,hlt2,hlt3];refine qE (by rfl) (by rfl) (WT w0 hm ha _ (qbN A.1 B.1) (by omega) hTa) fun x5q5 h5q5 hx5q5=>?_;obtain⟨ht5,hs5⟩:=hx5q5;have hs_h5q5:Sub h h5q5:=Br zqC hs5;have hr_h5q5:Sub h4q1 h5q5:=Br zqC hs5;refine qE (by rfl) (by rfl) (UC w0 hm ha (Qz (qbN A.1 B.1)) (YU (by omega)) (ZT (by omega)) _ x5q5 ht5) fun x5q6 h5q6 hx5q6=>?_;obtain⟨hs5b,rv,rfl,hrv⟩:=qoR hP hx5q6;have hrl:=hrv.shape.1;have hs_h5q6:Sub h h5q6:=Br zqC hs5b;have hr_h5q6:Sub h5q5 h5q6:=Br zqC hs5b;simp+decide only[XW,QZ,QF,QR,Xe,↓qc,↓Xa,Nat.reduceAdd,faultV];refine Qp qgl (cs:=[.int .i64 0, .int .i64 0, .int .i64 0]) (by rfl) fun k5q10 hk5q10=>?_;have hn_5q10:h5q6 k5q10=none:=by first|assumption|(simp only[Bd]at hk5q10;simp only[hk5q10])
  have hf_5q10:h k5q10=none:=Be hs_h5q6 hn_5q10;simp+decide only[Zj,↓qa];refine qN (by rfl) (by rfl) zqA qaZ (by rfl) (by rfl) zqD (Jq _) (by rfl) ?_;simp only[QT,Bg];simp+decide only[XK,QZ,Nat.reduceAdd];apply hK;clear hK K;obtain⟨H5,hH5⟩:∃H5,H5=h5q6.set k5q10 ⟨[.int .i64 okF.e, .int .i64 okF.line, .int .i64 okF.col],0⟩:=⟨_,rfl⟩
  have hs56:AM.Sub h5q6 H5:=by rw[hH5];exact Vj hn_5q10
  have eb_5q10:H5 k5q10=some ⟨[.int .i64 okF.e, .int .i64 okF.line, .int .i64 okF.col],0⟩:=by rw[hH5];exact Vh _ _ _
  refine BO (h':=H5) (by rw[hH5];exact Vi _) ?_;have hs_4:AM.Sub h4q1 H5:=hs5.trans (hs5b.trans hs56);have hs_H5:AM.Sub h H5:=hs3.trans (hs4.trans hs_4);have hxv5:StsV w0 6 H5 xv A.2:=(hxv3.mono hs4).mono hs_4;have hyv5:StsV w0 6 H5 yv B.2:=hyv4.mono hs_4;have hrv5:StsV w0 32 H5 rv L:=hrv.mono hs56;obtain⟨qx,hqx,hqxL,hqxo⟩:=qkc (d:=5) hxv5;obtain⟨qy,hqy,hqyL,hqyo⟩:=qkc (d:=5) hyv5;have hqxn:0<qx.length/\qx.length<=4:=by rw[hqx,Jn]at hA0 hA4;exact⟨hA0,hA4⟩
  have hqyn:0<qy.length/\qy.length<=4:=by rw[hqy,Jn]at hB0 hB4;exact⟨hB0,hB4⟩
  have hS5:AM.Sep [H5] H5:=⟨fun p hp=>by rw[V4.1 hp];exact Vi _,by simp⟩
  refine awp_rseq [5,7,9,10,11] (by rfl) fun K hK=>?_;refine qO (cs:=[]) (by kernel_rfl) fun k6q0 hk6q0=>?_;have hn_6q0:H5 k6q0=none:=by first|assumption|(simp only[Bd]at hk6q0;simp only[hk6q0])
  have hf_6q0:h k6q0=none:=Be hs_H5 hn_6q0;have ne_6q0_5q10:k6q0≠k5q10:=Bf hn_6q0 eb_5q10;simp+decide only[XW,QZ,↓qc];have hS6:=Eb hS5 hn_6q0 (⟨[],0⟩:Blk);simp only[Xf]at hS6;refine ZM (es:=5) (v:= .slice (.own k6q0) 0 0 (.exact 0)) (p:=one k6q0 ⟨[],0⟩) (xs:=[]) (ys:=qx.map qcy) (i:=1) (by rfl) (by rfl) Tryz.underlying45 Tryz.underlying45 (fun k e=>by cases e) WF by82 qjs (by rfl) (by decide) (by rfl) qsy rfl hS6 (by rfl) (hqxL.mono (hS6.in_ (i:=0) rfl)) (qkb fun q hq=>⟨(hqxo q hq).1.scal,(hqxo q hq).2.scal⟩) (by rw[Jn];omega) (by simp only[JD,Jn];omega) (by simp only[JD,Jn];omega) fun ov1 op1 h6a hg1 _ hS7=>?_;simp+decide only[XW,QZ,↓qc];refine ZM (es:=5) (v:=ov1) (p:=op1) (xs:=[]++qx.map qcy) (ys:=qy.map qcy) (i:=1) (by rfl) (by rfl) Tryz.underlying45 Tryz.underlying45 (fun k e=>by cases e) WF by82 qjs (by rfl) (by decide) (by rfl) hg1 rfl hS7 (by rfl) (hqyL.mono (hS7.in_ (i:=0) rfl)) (qkb fun q hq=>⟨(hqyo q hq).1.scal,(hqyo q hq).2.scal⟩) (by rw[Jn];omega) (by simp only[JD,Jn,Jb];omega) (by simp only[JD,Jn,Jb];omega) fun ov2 op2 h6b hg2 _ hS8=>?_;have hs6:AM.Sub H5 h6b:=hS8.in_ (i:=0) rfl;have hxy:StsV w0 6 h6b ov2 (A.2++B.2):=⟨qx++qy,by rw[hqx,hqy,JI],by have:=hg2.isL (w0:=w0) (hS8.in_ (i:=1) rfl);rw[JI];exact this,fun q hq=>by
   rcases JV.1 hq with z|z
   ·exact⟨(hqxo q z).1.mono hs6,(hqxo q z).2.mono hs6 fun _ _ w=>w.mono hs6⟩
   ·exact⟨(hqyo q z).1.mono hs6,(hqyo q z).2.mono hs6 fun _ _ w=>w.mono hs6⟩⟩
  have hxyl:=hxy.shape.1;simp+decide only[Zj,↓qa];apply hK;clear hK K;refine qi ?_;have eb_5q10:h6b k5q10=some ⟨[.int .i64 okF.e, .int .i64 okF.line, .int .i64 okF.col],0⟩:=hs6 _ _ eb_5q10;have hs_h6b:AM.Sub h h6b:=hs_H5.trans hs6;have hrv6:StsV w0 32 h6b rv L:=hrv5.mono hs6;have hok1:okF.e=0:=rfl;have hok2:okF.line=0:=rfl;have hok3:okF.col=0:=rfl;refine awp_rseq [5,7,9,11,64] (by rfl) fun K hK=>?_;simp+decide only[Xj,XF,QJ,Xm,qj,Xt,YJ,Yy,QW,Zo,↓qo,Qa qjy qaZ,↓XO,↓QN,qof,↓qd,qbi,ne48,↓qc,↓Qy,Qm eb_5q10,Nat.reduceAdd,hok1,hok2,hok3];refine Xl (by rfl) ?_;refine qE (by rfl) (by rfl) (qlc w0 32 6 _ rv ov2 L (A.2++B.2) (hrv6.mono (by repeat (first|exact Vi _|assumption|refine Br ?_ (Vj (by assumption))|refine Br ?_ (by assumption)))) (hxy.mono (by repeat (first|exact Vi _|assumption|refine Br ?_ (Vj (by assumption))|refine Br ?_ (by assumption)))) hG.f1.small hG.f2.small) fun x7q6 h7q6 hx7q6=>?_;obtain⟨rfl,hs7⟩:=hx7q6;rw[hG.same];have hs_h7q6:Sub h h7q6:=Br zqC hs7;have hr_h7q6:Sub h6b h7q6:=Br zqC hs7;have eb_5q10:=hs7 k5q10 _ zqA;simp+decide only[XW,QZ,XL,YF,Zf,↓Uc,↓Qd,↓qc,↓Qy];refine Xl (by rfl) ?_;refine qE (by rfl) (by rfl) (qjJ w0 hm ha 32 _ rv L ⟨hrv6.mono (by repeat (first|exact Vi _|assumption|refine Br ?_ (Vj (by assumption))|refine Br ?_ (by assumption))),hG.f1.small,hG.f1.tx,hG.f1.asc⟩ (Ve hG.re1.wr (by decide)) hG.re1.short hG.re1.small) fun x7q11 h7q11 hx7q11=>?_;obtain⟨⟨e7,rfl,he7⟩,hs7a⟩:=hx7q11;rw[hG.re1.check he7];have hs_h7q11:Sub h h7q11:=Br zqC hs7a;have hr_h7q11:Sub h7q6 h7q11:=Br zqC hs7a;have eb_5q10:=hs7a k5q10 _ zqA;simp+decide only[Xk,qK,Xm,XL,QS,WY,↓Qn,↓Qd,↓qc,↓Qy];refine Xl (by rfl) ?_;refine qE (by rfl) (by rfl) (qjJ w0 hm ha 6 _ ov2 (A.2++B.2) ⟨hxy.mono (by repeat (first|exact Vi _|assumption|refine Br ?_ (Vj (by assumption))|refine Br ?_ (by assumption))),hG.f2.small,hG.f2.tx,hG.f2.asc⟩ (Ve hG.re2.wr (by decide)) hG.re2.short hG.re2.small) fun x7q16 h7q16 hx7q16=>?_;obtain⟨⟨e7b,rfl,he7b⟩,hs7b⟩:=hx7q16;rw[hG.re2.check he7b];have hs_h7q16:Sub h h7q16:=Br zqC hs7b;have hr_h7q16:Sub h7q11 h7q16:=Br zqC hs7b;have eb_5q10:=hs7b k5q10 _ zqA;simp+decide only[XP,Yw,qK,Xm,XL,QS,WY,↓Qn,↓Qd];apply hK;clear hK K;refine qz (b:=_) rfl (fun hb2=>?_) (fun hb2=>?_)
  ·cases hb2
  ·try simp only[qG]at hb2
   refine qF ?_;change Awp _ _ _ _ _ _ _;refine awp_rseq [5,7,9,11,12,13] (by rfl) fun K hK=>?_;simp+decide only[XW,QZ,↓qc];refine qE (by rfl) (by rfl) (qiE w0 hm ha 6 _ ov2 (A.2++B.2) ⟨hxy.mono (by repeat (first|exact Vi _|assumption|refine Br ?_ (Vj (by assumption))|refine Br ?_ (by assumption))),hG.f2.small,hG.f2.tx,hG.f2.asc⟩ (Ve hG.re2.wr (by decide))) fun x9q1 h9q1 hx9q1=>?_;obtain⟨ht9,hs9⟩:=hx9q1;have hs_h9q1:Sub h h9q1:=Br zqC hs9;have hr_h9q1:Sub h7q16 h9q1:=Br zqC hs9;have eb_5q10:=hs9 k5q10 _ zqA;refine qE (by rfl) (by rfl) (UC w0 hm ha (XE 6 (A.2++B.2)) (Ve (qiN 6 _) (by decide)) hG.re2.short _ x9q1 ht9) fun x9q2 h9q2 hx9q2=>?_;obtain⟨hs9b,gw,rfl,hgw⟩:=qoR hP2 hx9q2;have hgl:=hgw.shape.1;have hs_h9q2:Sub h h9q2:=Br zqC hs9b;have hr_h9q2:Sub h9q1 h9q2:=Br zqC hs9b;have eb_5q10:=hs9b k5q10 _ zqA;simp+decide only[XW,QZ,QF,QR,Xe,↓qc,↓Xa,Nat.reduceAdd,faultV];refine Qp qgl (cs:=[.int .i64 0, .int .i64 0, .int .i64 0]) (by rfl) fun k9q6 hk9q6=>?_;have hn_9q6:h9q2 k9q6=none:=by first|assumption|(simp only[Bd]at hk9q6;simp only[hk9q6])
   have hf_9q6:h k9q6=none:=Be hs_h9q2 hn_9q6;have ne_9q6_5q10:k9q6≠k5q10:=Bf hn_9q6 eb_5q10;simp+decide only[Zj,↓qa];refine qN (by rfl) (by rfl) zqA qaZ (by rfl) (by rfl) zqD (Jq _) (by rfl) ?_;simp only[QT,Bg];simp+decide only[XK,QZ,Nat.reduceAdd];apply hK;clear hK K;obtain⟨H9,hH9⟩:∃H9,H9=h9q2.set k9q6 ⟨[.int .i64 okF.e, .int .i64 okF.line, .int .i64 okF.col],0⟩:=⟨_,rfl⟩
   have hs96:AM.Sub h9q2 H9:=by rw[hH9];exact Vj hn_9q6
   have eb_9q6:H9 k9q6=some ⟨[.int .i64 okF.e, .int .i64 okF.line, .int .i64 okF.col],0⟩:=by rw[hH9];exact Vh _ _ _
   refine BO (h':=H9) (by rw[hH9];exact Vi _) ?_;have hs_79:AM.Sub h6b H9:=hs7.trans (hs7a.trans (hs7b.trans (hs9.trans (hs9b.trans hs96))));have hs_H9:AM.Sub h H9:=hs_h6b.trans hs_79;have hgw9:=hgw.mono hs96;have hxy9:=hxy.mono hs_79;have hrv9:=hrv6.mono hs_79;obtain⟨qr,hqr,hqrL,hqro⟩:=qkc (d:=31) hrv9;have hqrn:0<qr.length:=by have:=hG.pos;rw[hqr,Jn]at this;exact this
   obtain⟨lc,o,cp,hre⟩:=qea hqrL hqrn;obtain⟨q0,hq0⟩:∃q0,q0=qr.getD 0 qei:=⟨_,rfl⟩
   have hL0:L.getD 0 contC=q0.1:=by rw[hqr,hq0,Ko,Ko,VA,JB hqrn];rfl
   have hpos:=hG.at_;rw[hL0]at hpos;have hqr1:(0<(qr.length:Int))=True:=eq_true (by omega);have hltT:(A.1.length+B.1.length<9223372036854775808)=True:=eq_true (by omega);refine awp_rseq [4] (by kernel_rfl) fun K hK=>?_;simp+decide only[Xj,XF,QJ,Xm,qj,Xt,YJ,Yy,QW,Zo,↓qo,Qa qjy qaZ,↓XO,↓QN,qof,↓qd,qbi,eq48,↓qc,↓Qy,Qm eb_9q6,Nat.reduceAdd,hok1,hok2,hok3];refine Xl (by rfl) ?_;refine qE (by rfl) (by rfl) (qlc w0 32 6 _ gw ov2 R2 (A.2++B.2) (hgw9.mono (by repeat (first|exact Vi _|assumption|refine Br ?_ (Vj (by assumption))|refine Br ?_ (by assumption)))) (hxy9.mono (by repeat (first|exact Vi _|assumption|refine Br ?_ (Vj (by assumption))|refine Br ?_ (by assumption)))) hR2s hG.f2.small) fun x10q6 h10q6 hx10q6=>?_;obtain⟨rfl,hs10⟩:=hx10q6;rw[hR2e];have hs_h10q6:Sub h h10q6:=Br zqC hs10;have hr_h10q6:Sub H9 h10q6:=Br zqC hs10;have eb_9q6:=hs10 k9q6 _ zqA;simp+decide only[XW,QZ,XL,↓Qd,↓qc,↓Qy];refine Xl (by rfl) ?_;refine qE (by rfl) (by rfl) (qhB w0 6 _ ov2 (A.2++B.2) (hxy9.mono (by repeat (first|exact Vi _|assumption|refine Br ?_ (Vj (by assumption))|refine Br ?_ (by assumption)))) hG.f2.small hG.cle) fun x10q10 h10q10 hx10q10=>?_;obtain⟨rfl,hs10a⟩:=hx10q10;rw[hcnt];have hs_h10q10:Sub h h10q10:=Br zqC hs10a;have hr_h10q10:Sub h10q6 h10q10:=Br zqC hs10a;have eb_9q6:=hs10a k9q6 _ zqA;simp+decide only[Xj,QZ,qj,Xt,YJ,Yy,Qs,QS,ZO,↓Qy,↓Qn,hltT];refine Xl (by rfl) ?_;refine qE (by rfl) (by rfl) (WT w0 hm ha _ (A.1++B.1) (by rw[Jb];omega) hABa) fun x10q14 h10q14 hx10q14=>?_;obtain⟨ht10,hs10b⟩:=hx10q14;have hs_h10q14:Sub h h10q14:=Br zqC hs10b;have hr_h10q14:Sub h10q10 h10q14:=Br zqC hs10b;have eb_9q6:=hs10b k9q6 _ zqA;refine Xl (by rfl) ?_;refine qE (by rfl) (by rfl) (c_verbsOf w0 _ x10q14 (Qz (A.1++B.1)) ht10 (YU (by rw[Jb];omega)) (ZT (by rw[Jb];omega))) fun x10q15 h10q15 hx10q15=>?_;obtain⟨rfl,hs10c⟩:=hx10q15;rw[<-hcc];have hq10:=hqrL.mono (hs10.trans (hs10a.trans (hs10b.trans hs10c)));rw[hre]at hq10;obtain⟨-,e1,e2,-⟩:=qeI hq10 hqrn;rw[<-hq0]at e1 e2;rw[hpos.1]at e1;rw[hpos.2]at e2;simp only[K6,K7]at e1 e2;have hs_h10q15:Sub h h10q15:=Br zqC hs10c;have hr_h10q15:Sub h10q14 h10q15:=Br zqC hs10c;have eb_9q6:=hs10c k9q6 _ zqA;simp+decide only[Xk,QU,Xm,qj,K6,XL,Ke,QS,Vk,XA,Ze,Zo,Zt,ZF,K7,Bv,↓Qn,↓Qd,↓qc,↓Qy,↓Zb,qg Tryz.underlying45 WF,↓QM,fa82_1,↓Xv,Qa ag42 sz42,↓qlp,↓QN,qdP,qbi,eq42,hre,e1,e2,hqr1];refine Xl (by rfl) ?_;refine qE (by rfl) (by rfl) (qdN w0 hm ha _) fun x10q27 h10q27 hx10q27=>?_;obtain⟨rfl,hs10d⟩:=hx10q27;have hs_h10q27:Sub h h10q27:=Br zqC hs10d;have hr_h10q27:Sub h10q15 h10q27:=Br zqC hs10d;have eb_9q6:=hs10d k9q6 _ zqA;simp+decide only[Zj,K6,YS,↓Qd,↓qa];apply hK;clear hK K;refine qW ?_;refine QG h zqC (qA (qC)) ?_;simp+decide only[XK,QZ,Yz];exact Vi _
end Go.Proofs.YtgiadjbiimkbiaaGreatDoor
namespace Go.AM
theorem qrk{fi:PMap}{k n es:Nat}{p:Place}{v:Value}(hn:0<n)(hes:0<es)(hp:fi k=some p)(h:VR fi (.slice (.own k) 0 n (.grow es)) v):
 VR fi (.slice (.own k) 0 n (.exact (p.room / es))) v/\n<=p.room / es/\p.room / es*es=p.room:=by
 simp only[VR]at h;obtain⟨k',p',c,a,e,hp',rfl,hnc,hc⟩:=h;cases e;rw[hp]at hp';cases hp';obtain⟨rfl,hr⟩:=hc (by omega);rw[Jp]at hr;have:p.room / es=c:=by rw[<-hr,Nat.mul_div_cancel _ hes]
 rw[this];refine⟨?_,hnc,hr⟩;simp only[VR];exact⟨_,rfl,fun _=>by simp only[Xb,hp,Option.map_some]⟩
theorem qrj{fi:PMap}:∀vs:List Value,VRs fi (JY vs.length .dead) vs
 |[]=>by simp only[JD,Dh,VRs]
 |v::vs=>by
  simp only[KX,Di,VRs];exact⟨v,vs,rfl,trivial,qrj vs⟩
theorem HRel.wider{w0 w:World}{fi:PMap}{h:AHeap}(hr:HRel w0 fi h w){k m:Nat}{cs:List AVal}{p:Place}(hk:h k=some ⟨cs,0⟩)(hp:fi k=some p)(hm:cs.length+m<=p.room):HRel w0 fi (h.set k ⟨cs++JY m .dead,0⟩) w:=by
 have ex:∀j b,h.set k ⟨cs++JY m .dead,0⟩ j=some b->∃b',h j=some b':=fun j b hj=>by
  by_cases e:j=k
  ·subst e;exact⟨_,hk⟩
  ·rw[Vg _ _ e]at hj;exact⟨b,hj⟩
 refine⟨hr.below,fun j b hj=>?_,fun j j' b b' p p' hb hb'=>?_,hr.lt,hr.fin,hr.typ⟩
 ·by_cases e:j=k
  ·subst e
   rw[Vh]at hj;cases hj;obtain⟨p',h1,h2,h3⟩:=hr.own j _ hk;rw[hp]at h1;cases h1;obtain⟨vs,e,lo,hi,g1,g2,g3,g4,g5,g6⟩:=h3.row (Jq _);simp only at g3 g5 g6;refine⟨p,hp,h2, .inl ⟨vs,e,lo,hi,g1,g2,by simp only[Jb,Dj];exact hm,Jq _,?_,g6⟩⟩;have hl:(((vs.toList.drop p.off).drop cs.length).take m).length=m:=by
    simp only[K4,K5,KN];omega
   have hd:=qrj (fi:=fi) (((vs.toList.drop p.off).drop cs.length).take m);rw[hl]at hd;have:=qah g5 hd
   rwa [<-List.take_add,show cs.length+m=(cs++JY m AVal.dead).length by rw[Jb,Dj]]at this
  ·rw[Vg _ _ e]at hj
   exact hr.own j b hj
 ·obtain⟨c,hc⟩:=ex j b hb
  obtain⟨c',hc'⟩:=ex j' b' hb';exact hr.inj j j' c c' p p' hc hc'
theorem HRel.recell{w0 w:World}{fi:PMap}{h:AHeap}(hr:HRel w0 fi h w){k i:Nat}{cs:List AVal}{y:AVal}(hk:h k=some ⟨cs,0⟩)(hi:i<cs.length)(hv:∀v,VR fi (cs.getD i .dead) v->VR fi y v):HRel w0 fi (h.set k ⟨cs.set i y,0⟩) w:=by
 have ex:∀j b,h.set k ⟨cs.set i y,0⟩ j=some b->∃b',h j=some b':=fun j b hj=>by
  by_cases e:j=k
  ·subst e;exact⟨_,hk⟩
  ·rw[Vg _ _ e]at hj;exact⟨b,hj⟩
 refine⟨hr.below,fun j b hj=>?_,fun j j' b b' p p' hb hb'=>?_,hr.lt,hr.fin,hr.typ⟩
 ·by_cases e:j=k
  ·subst e
   rw[Vh]at hj;cases hj;obtain⟨p,h1,h2,h3⟩:=hr.own j _ hk;obtain⟨vs,e,lo,hi',g1,g2,g3,g4,g5,g6⟩:=h3.row (Jq _);simp only at g3 g5 g6;refine⟨p,h1,h2, .inl ⟨vs,e,lo,hi',g1,g2,by simp only[BH];exact g3,Jq _,?_,g6⟩⟩;simp only[BH];have hget:=qeF g5 i default hi;have:=qom g5 i (hv _ hget);have hlen:=Xw g5;rw[Ko,JB (by rw[hlen];exact hi),EE,Dk]at this;exact this
  ·rw[Vg _ _ e]at hj
   exact hr.own j b hj
 ·obtain⟨c,hc⟩:=ex j b hb
  obtain⟨c',hc'⟩:=ex j' b' hb';exact hr.inj j j' c c' p p' hc hc'
theorem Awp.exact{P:Program}{w0:World}{n:FrameK}{s:Slots}{h:AHeap}{Q:Exit->Slots->AHeap->Prop}{c:Code}{k m es kx i:Nat}{cs xs:List AVal}(hk:h k=some ⟨cs,0⟩)(hcs:cs.length=m*es)(hm:0<m)(hes:0<es)(hx:h kx=some ⟨xs,0⟩)(hne:kx≠k)(hi:i<xs.length)(hxi:xs.getD i .dead= .slice (.own k) 0 m (.grow es))
 (hc:∀r,m<=r->Awp P w0 n c Q s ((h.set k ⟨cs++JY ((r-m)*es) .dead,0⟩).set kx ⟨xs.set i (.slice (.own k) 0 m (.exact r)),0⟩)):Awp P w0 n c Q s h:=fun fi a w hr hs=>by
 obtain⟨p,hp,_,_⟩:=hr.own k _ hk;obtain⟨px,_,_,hbx⟩:=hr.own kx _ hx;obtain⟨vs,e,lo,hi',g1,g2,g3,g4,g5,g6⟩:=hbx.row (Jq _);simp only at g5;have hv:=qeF g5 i default hi;rw[hxi]at hv;obtain⟨_,q1,q2⟩:=qrk hm hes hp hv;have hw:cs.length+(p.room / es-m)*es<=p.room:=by
  rw[hcs,<-KJ,Nat.add_sub_cancel' q1];exact Nat.le_of_eq q2
 have hr1:=hr.wider hk hp hw;have hx1:(h.set k ⟨cs++JY ((p.room / es-m)*es) .dead,0⟩) kx=some ⟨xs,0⟩:=(Vg _ _ hne).trans hx;have hr2:=hr1.recell (y:= .slice (.own k) 0 m (.exact (p.room / es))) hx1 hi fun v hv=>by
  rw[hxi]at hv;exact(qrk hm hes hp hv).1
 exact hc (p.room / es) q1 fi a w hr2 hs
def Keep(h h':AHeap):Prop:=∀k b,h k=some b->∃b',h' k=some b'/\∀o,(b.cells.getD o .dead).live=true->b'.cells.getD o .dead=b.cells.getD o .dead
theorem Keep.of{h h':AHeap}(hs:Sub h h'):Keep h h':=fun k b hk=>⟨b,hs k b hk,fun _ _=>rfl⟩
theorem Keep.refl(h:AHeap):Keep h h:=Keep.of (Vi h)
theorem Keep.trans{h h' h'':AHeap}(a:Keep h h')(b:Keep h' h''):Keep h h'':=fun k c hk=>by
 obtain⟨c',h1,h2⟩:=a k c hk;obtain⟨c'',h3,h4⟩:=b k c' h1;exact⟨c'',h3,fun o ho=>by rw[h4 o (by rw[h2 o ho];exact ho),h2 o ho]⟩
theorem Keep.rd{w0:World}{h h':AHeap}(hk:Keep h h'){l:Loc}{o:Nat}(hl:(rd w0 h l o).live=true):rd w0 h' l o=rd w0 h l o:=by
 cases l with
 |base b=>rfl
 |own j=>
  cases hj:h j with
  |none=>simp[AM.rd,hj,AVal.live]at hl
  |some b=>
   obtain⟨b',h1,h2⟩:=hk j b hj;rw[Yc w0 hj]at hl|-
   rw[Yc w0 h1];exact h2 o hl
theorem IsL.keep{w0:World}{h h':AHeap}{es:Nat}{v:AVal}{xs:List (List AVal)}(hv:IsL w0 h es v xs)(hk:Keep h h'):IsL w0 h' es v xs:=by
 cases hv with
 |nil=>exact .nil
 |mk lc o n cp xs hn hw hc hl hcap=>
  refine .mk lc o n cp xs hn hw ?_ hl hcap;have hal:AM.allLive (cellsAt w0 h lc o (n*es))=true:=by rw[hc];exact hl
  rw[<-hc];clear hc hl hcap hw hn;have:∀(m o:Nat),AM.allLive (cellsAt w0 h lc o m)=true->cellsAt w0 h' lc o m=cellsAt w0 h lc o m:=by
   intro m;induction m with
   |zero=>intro o _;rfl
   |succ m ih=>
    intro o ho;simp only[cellsAt,Ky,AM.allLive]at ho|-
    rw[ih _ ho.2,hk.rd ho.1]
  exact this _ _ hal
def RowX(es:Nat)(v:AVal)(p:AHeap)(xs:List (List AVal)):Prop:=
 (v= .nilSlice/\xs=[])\/∃k c,v= .slice (.own k) 0 xs.length (.exact c)/\xs.length<=c/\p k=some ⟨xs.flatten++JY ((c-xs.length)*es) .dead,0⟩/\(∀x∈xs,x.length=es)/\allLive xs.flatten=true
theorem RowX.nil{es:Nat}{p:AHeap}:RowX es .nilSlice p []:= .inl ⟨rfl,rfl⟩
theorem qdI{a b:List AVal}{o:Nat}(h:o<a.length):(a++b).getD o .dead=a.getD o .dead:=by
 rw[Ko,Ko,List.getElem?_append_left h]
theorem qmI{a:List AVal}{o:Nat}(h:(a.getD o .dead).live=true):o<a.length:=by
 by_cases e:o<a.length
 ·exact e
 ·rw[Ko,Kr (by omega)]at h
  cases h
theorem RowX.isL{w0:World}{es:Nat}{v:AVal}{p h:AHeap}{xs:List (List AVal)}(hr:RowX es v p xs)(hs:Sub p h):IsL w0 h es v xs:=by
 rcases hr with⟨rfl,rfl⟩|⟨k,c,rfl,hc,hk,hw,hl⟩
 ·exact .nil
 ·have h1:IsL w0 (one k ⟨xs.flatten,0⟩) es (.slice (.own k) 0 xs.length (.exact c)) xs:=Bz (one_at _ _) hw rfl hl (.exact c) hc
  refine h1.keep fun j b hj=>?_;obtain⟨rfl,rfl⟩:=qii hj;exact⟨_,hs _ _ hk,fun o ho=>qdI (qmI ho)⟩
theorem RowX.live{es:Nat}{v:AVal}{p:AHeap}{xs:List (List AVal)}(hr:RowX es v p xs):v.live=true:=by
 rcases hr with⟨rfl,_⟩|⟨k,c,rfl,_⟩<;>rfl
theorem RowX.scal{es:Nat}{v:AVal}{p:AHeap}{xs:List (List AVal)}(hr:RowX es v p xs):v.scal=true:=by
 rcases hr with⟨rfl,_⟩|⟨k,c,rfl,_⟩<;>rfl
theorem RowX.cells{es:Nat}{v:AVal}{p:AHeap}{xs:List (List AVal)}(hr:RowX es v p xs):v.cells=[v]:=by
 rcases hr with⟨rfl,_⟩|⟨k,c,rfl,_⟩<;>rfl
theorem qhY:∀(c b a d:List AVal),c.length=b.length->setAt (a++(b++d)) a.length c=a++(c++d)
 |[],b,a,d,h=>by rw[Kg (l:=b) (by simpa using h.symm),setAt]
 |y::c,[],a,d,h=>by cases h
 |y::c,z::b,a,d,h=>by
  rw[setAt];have e:(a++(z::b++d)).set a.length y=(a++[y])++(b++d):=by
   rw[BM _ _ (KL _),Dl];simp
  have:=qhY c b (a++[y]) d (by simpa using h);rw[Jb,JF]at this;rw[e,this];simp
theorem Sep.setIn{ps:List AHeap}{h p:AHeap}(hs:Sep ps h){i k:Nat}(hi:ps[i]?=some p)(hn:∀j q,j≠i->ps[j]?=some q->q k=none)(b:Blk):Sep (ps.set i (p.set k b)) (h.set k b):=by
 refine hs.turn (Sub.set_both (hs.in_ hi) k b) fun j q hj hq=>?_;refine⟨(hs.in_ hq).off (hn j q hj hq) b,fun x=>?_⟩;by_cases e:x=k
 ·subst e;exact .inr (hn j q hj hq)
 ·rw[Vg _ _ e]
  exact hs.apart hi hq (fun z=>hj z.symm) x
theorem Keep.set{p:AHeap}{k:Nat}(hk:p k=none)(b:Blk):Keep p (p.set k b):=Keep.of (Vj hk)
theorem Keep.set2{p:AHeap}{k:Nat}{a b:List AVal}(hk:p k=some ⟨a,0⟩)(h:∀o,(a.getD o .dead).live=true->b.getD o .dead=a.getD o .dead):Keep p (p.set k ⟨b,0⟩):=fun j c hj=>by
 by_cases e:j=k
 ·subst e
  rw[hk]at hj;cases hj;exact⟨_,Vh _ _ _,h⟩
 ·exact⟨c,(Vg _ _ e).trans hj,fun _ _=>rfl⟩
theorem dead_rep{m o:Nat}:((JY m AVal.dead).getD o .dead)= .dead:=by
 rw[Ko];cases h:(JY m AVal.dead)[o]? with
 |none=>rfl
 |some x=>rw[EE];exact(Dm.1 (JM h)).2
theorem qsk{a:List AVal}{m o:Nat}(h:((a++JY m AVal.dead).getD o AVal.dead).live=true):o<a.length:=by
 by_cases e:o<a.length
 ·exact e
 ·rw[Ko,List.getElem?_append_right (by omega)]at h
  have:=dead_rep (m:=m) (o:=o-a.length);rw[Ko]at this;rw[this]at h;cases h
def RowY(es:Nat)(v:AVal)(p:AHeap)(xs:List (List AVal)):Prop:=
 RowX es v p xs\/∃k,v= .slice (.own k) 0 xs.length (.grow es)/\0<xs.length/\p k=some ⟨xs.flatten,0⟩/\(∀x∈xs,x.length=es)/\allLive xs.flatten=true
theorem RowY.live{es:Nat}{v:AVal}{p:AHeap}{xs:List (List AVal)}(hr:RowY es v p xs):v.live=true:=by
 rcases hr with h|⟨k,rfl,_⟩
 ·exact h.live
 ·rfl
theorem RowY.scal{es:Nat}{v:AVal}{p:AHeap}{xs:List (List AVal)}(hr:RowY es v p xs):v.scal=true:=by
 rcases hr with h|⟨k,rfl,_⟩
 ·exact h.scal
 ·rfl
theorem RowY.cells{es:Nat}{v:AVal}{p:AHeap}{xs:List (List AVal)}(hr:RowY es v p xs):v.cells=[v]:=by
 rcases hr with h|⟨k,rfl,_⟩
 ·exact h.cells
 ·rfl
theorem qhW{α:Type}{l:List α}{i:Nat}{x:α}(h:l[i]?=some x):l.set i x=l:=by
 obtain⟨hi,rfl⟩:=List.getElem?_eq_some_iff.1 h;exact Dk hi
theorem Awp.rowX{P:Program}{w0:World}{n:FrameK}{s:Slots}{H:AHeap}{Q:Exit->Slots->AHeap->Prop}{c:Code}{es kx ci i j:Nat}{v:AVal}{p:AHeap}{xs:List (List AVal)}{cells:List AVal}{ps:List AHeap}
 (hr:RowY es v p xs) (hes:0<es) (hS:Sep ps H) (hi:ps[i]?=some p) (hj:ps[j]?=some (one kx ⟨cells,0⟩)) (hij:i≠j) (hci:ci<cells.length) (hcv:cells.getD ci .dead=v)
 (hk:∀v' p' H',RowX es v' p' xs->Keep p p'->Sep ((ps.set i p').set j (one kx ⟨cells.set ci v',0⟩)) H'->Awp P w0 n c Q s H'):Awp P w0 n c Q s H:=by
 rcases hr with hx|⟨k,rfl,hpos,hpk,hw,hl⟩
 ·refine hk v p H hx (Keep.refl p) ?_
  have e1:cells.set ci v=cells:=qhW (by rw[Ko,JB hci,EE]at hcv;rw[JB hci,hcv]);rw[e1,qhW hi,qhW hj];exact hS
 ·have hne:kx≠k:=fun e=>by
   subst e;rcases hS.apart hj hi (fun z=>hij z.symm) kx with z|z
   ·rw[one_at]at z;cases z
   ·rw[hpk]at z;cases z
  refine Awp.exact (hS.in_ hi _ _ hpk) (Xu hw) hpos hes (hS.at_ hj) hne hci hcv fun r hr=>?_;have hS1:=hS.setIn (k:=k) hi (fun j q hj hq=>by
   rcases hS.apart hi hq (fun z=>hj z.symm) k with z|z
   ·rw[hpk]at z;cases z
   ·exact z) (⟨xs.flatten++JY ((r-xs.length)*es) .dead,0⟩:Blk)
  have hj1:(ps.set i (p.set k ⟨xs.flatten++JY ((r-xs.length)*es) .dead,0⟩))[j]?=some (one kx ⟨cells,0⟩):=by
   rw[List.getElem?_set_ne hij];exact hj
  refine hk _ _ _ (.inr ⟨k,r,rfl,hr,Vh _ _ _,hw,hl⟩) (Keep.set2 hpk fun o ho=>qdI (qmI ho)) (hS1.put hj1 _)
section
variable {es:Nat} {v:AVal} {p:AHeap} {xs:List (List AVal)}
variable {P:Program} {w0:World} {ops rest:List Oper} {s:Slots} {H:AHeap} {K:Slots->AHeap->Prop} {dst:Option Tmp} {ty:TypeId} {pos:String} {af:Array Edge} {ts:Array TypeId} {t u e:TypeId} {d:TypeDesc} {x y:Operand} {v':AVal} {by' i:Nat} {z:Value} {ys:List (List AVal)} {ps:List AHeap}
theorem qtl(h0:ts[0]?=some t)(h1:ts[1]?=some u)(ht:P.underlying t=some (.slice e))(hu:P.underlying u=some d)(hd:∀k,d≠ .int k)
 (hs:ZI P e=some es) (hb:qcV P e=some by') (hz:Ud P e=some z) (hzs:z.cells.size=es) (hes:es≠0)
 (hx:ev s x=v) (hg:RowX es v p xs) (hi:ps[i]?=some p) (hS:Sep ps H) (hy:ev s y=v') (hv':IsL w0 H es v' ys) (hsc:Qt ys.flatten=true) (hne:ys.length≠0)
 (hl:(xs.length+ys.length)*by'<=140737488355328) (hl':xs.length+ys.length<4611686018427387904)
 (hkk:∀u p' H',RowY es u p' (xs++ys)->Keep p p'->Sep (ps.set i p') H'->Ql P w0 ops rest (putD s dst u) H' K):
 Ql P w0 ops (⟨dst, .call ⟨.builtin .append,[x,y].toArray,ts⟩,ty,pos,af,none⟩::rest) s H K:=by
 have hw:∀x∈xs++ys,x.length=es:=fun x hx=>by
  rcases JV.1 hx with h|h
  ·exact(hg.isL (w0:=w0) (hS.in_ hi)).wide x h
  ·exact hv'.wide x h
 have hal:allLive (xs++ys).flatten=true:=by rw[Bp,Ya,(hg.isL (w0:=w0) (hS.in_ hi)).allLive,hv'.allLive];rfl
 have new:∀k',H k'=none->Ql P w0 ops rest (putD s dst (.slice (.own k') 0 (xs.length+ys.length) (.grow es))) (H.set k' ⟨(xs++ys).flatten,0⟩) K:=fun k' hk'=>by
  have hn:∀j q,j≠i->ps[j]?=some q->q k'=none:=fun j q _ hq=>(hS.in_ hq).none hk';exact hkk _ _ _ (.inr ⟨k',by rw[Jb],by rw[Jb];omega,Vh _ _ _,hw,hal⟩) (Keep.set ((hS.in_ hi).none hk') _) (hS.setIn hi hn _)
 obtain⟨s1,s2,s3⟩:=hv'.src;rcases hg with⟨rfl,rfl⟩|⟨k,c,rfl,hc,hpk,hw1,hl1⟩
 ·exact UZ (v:= .nilSlice) h0 h1 ht hu hd hs hb hz hzs hes hx .nil hy hv' hne hl hl' fun k' hk' _=>new k' hk'
 ·have hkH:H k=some ⟨xs.flatten++JY ((c-xs.length)*es) .dead,0⟩:=hS.in_ hi _ _ hpk
  have hfl:xs.flatten.length=xs.length*es:=Xu hw1;have hfy:ys.flatten.length=ys.length*es:=Xu hv'.wide;rw[qbp];simp only[QW,evs,eop,hx,hy,qet,h0,h1,ht,hu,hs,hb,hz,s1];refine⟨hd,⟨hes,hzs⟩,s2,fun hle=> .inr ⟨hne,?_⟩,fun hlt=>⟨⟨?_,hl,hl'⟩,fun k' hk' _=>?_⟩⟩
  ·simp only[hkH]
   have hcap:xs.length*es+ys.length*es<=c*es:=by rw[<-KJ];exact Nat.mul_le_mul_right es hle
   have hsub:(c-xs.length)*es=c*es-xs.length*es:=Nat.sub_mul _ _ _;refine⟨⟨?_,Jq _,by rw[s3];exact hsc⟩,?_⟩
   ·rw[Jb,Dj,hfl,hsub]
    omega
   ·have e1:JY ((c-xs.length)*es) AVal.dead=JY (ys.length*es) AVal.dead++JY ((c-(xs++ys).length)*es) AVal.dead:=by
     rw[List.replicate_append_replicate,Jb,<-KJ];congr 2;omega
    have e2:setAt (xs.flatten++JY ((c-xs.length)*es) .dead) (0+xs.length*es) ys.flatten=(xs++ys).flatten++JY ((c-(xs++ys).length)*es) .dead:=by
     rw[Jp,<-hfl,e1,qhY _ _ _ _ (by rw[Dj];exact hfy),Bp,K9]
    rw[s3,e2];have hn:∀j q,j≠i->ps[j]?=some q->q k=none:=fun j q hj hq=>by
     rcases hS.apart hi hq (fun z=>hj z.symm) k with z|z
     ·rw[hpk]at z;cases z
     ·exact z
    refine hkk _ _ _ (.inl (.inr ⟨k,c,by rw[Jb],by rw[Jb];exact hle,Vh _ _ _,hw,hal⟩)) (Keep.set2 hpk fun o ho=>?_) (hS.setIn hi hn _);have ho':=qsk ho;rw[qdI (by rw[Bp,Jb];omega),qdI ho',Bp,qdI ho']
  ·have h2:IsL w0 H es (.slice (.own k) 0 xs.length (.exact c)) xs:=RowX.isL (.inr ⟨k,c,rfl,hc,hpk,hw1,hl1⟩) (hS.in_ hi)
   have h3:=h2.allLive;have h4:cellsAt w0 H (.own k) 0 (xs.length*es)=xs.flatten:=by
    cases h2 with
    |mk lc o n cp xs hn hw hc hl hcap=>exact hc
   rw[h4];exact h3
  ·have h2:IsL w0 H es (.slice (.own k) 0 xs.length (.exact c)) xs:=RowX.isL (.inr ⟨k,c,rfl,hc,hpk,hw1,hl1⟩) (hS.in_ hi)
   have h4:cellsAt w0 H (.own k) 0 (xs.length*es)=xs.flatten:=by
    cases h2 with
    |mk lc o n cp xs hn hw hc hl hcap=>exact hc
   rw[h4,s3,<-Bp];exact new k' hk'
end
end Go.AM
namespace Go.Stm
open Go.Col (Str FaultC okF)
open Go.Tok
set_option maxRecDepth 100000
def perT(i:Nat):TokC:=⟨6,[46],(i:Int),0,false⟩
def qdh(n:Nat):List TokC:=(KP n).map perT
theorem YK(n:Nat):(qdh n).length=n:=by simp[qdh]
theorem qnu{n i:Nat}(h:i<n):(qdh n).getD i noT=perT i:=by simp[qdh,Ko,h]
theorem qmo(n:Nat)(hn:n=65537):ParseR qZ (qdh n) Qg (.bad ⟨3,65536,0⟩):=by
 have h:=ParseR.long (W:=qZ) (l:=qdh n) (forms:=Qg) (by rw[YK];omega);have e:WS (qdh n) 3 65536=⟨3,65536,0⟩:=by
  unfold WS;rw[if_neg (fun e=>by have:=congrArg Df e;rw[YK,JD]at this;omega),YK,show min 65536 (n-1)=65536 by omega,qnu (by omega)];rfl
 rwa [e]at h
theorem qmn{n:Nat}:∀d i:Nat,i+d=n->SentR qZ (qdh n) Qg i [] (.ok [] n)
 |0,i,h=>by
  obtain rfl:i=n:=by omega
  exact Db (by rw[YK];omega)
 |d+1,i,h=>by
  have hi:i<n:=by omega
  refine Da (L:=[]) (j:=i) (by rw[YK];exact hi) (EN ?_) ?_ (qmn d (i+1) (by omega))
  ·unfold isV
   rw[YK,if_pos hi,qnu hi];rfl
  ·rw[YK,qnu hi]
   rintro(e|e)
   ·omega
   ·exact e rfl
theorem pers_ok(n:Nat)(hn:n=65536):ParseR qZ (qdh n) Qg (.ok [] n):=BZ (by rw[YK];omega) (qmn n 0 (by omega))
def filled(n i:Nat):List TokC:=qdh i++JY (n-i) noT
theorem qgA{n i:Nat}(h:i<=n):(filled n i).length=n:=by unfold filled;rw[Jb,YK,Dj];omega
theorem qfi(n:Nat):filled n 0=JY n noT:=rfl
theorem qsD(n:Nat):filled n n=qdh n:=by unfold filled;rw[Dl,Dh,JE]
theorem qsC{n i:Nat}(h:i<n):(filled n i).set i (perT i)=filled n (i+1):=by
 unfold filled;rw[BM _ _ (by rw[YK];exact KL _),YK,Dl,show n-i=n-(i+1)+1 by omega,Di,VE];have:qdh (i+1)=qdh i++[perT i]:=by unfold qdh;rw[List.range_succ,JI];rfl
 rw[this,K9];rfl
theorem pers_take{n m:Nat}(h:m<=n):(qdh n).take m=qdh m:=by
 unfold qdh;rw[<-Dn,List.take_range,Dp h]
end Go.Stm
namespace Go.AM
theorem qks(z:List AVal)(m:Nat)(hz:0<z.length):Yf z (m*z.length)=(JY m z).flatten:=by
 have hw:∀x∈JY m z,x.length=z.length:=fun x hx=>by rw[(Dm.1 hx).2]
 refine List.ext_getElem (by rw[Xu hw,Dj];simp[Yf]) fun i h1 h2=>?_;have hi:i<m*z.length:=by simpa[Yf]using h1
 have hd:i / z.length<m:=Nat.div_lt_of_lt_mul (by rw[Dq];exact hi);have hm:i%z.length<z.length:=Km _ hz;have h3:=qjf hw (i:=i / z.length) (j:=i%z.length) (by rw[Dj];exact hd) hm;rw[show i / z.length*z.length+i%z.length=i by rw[Dq];exact Nat.div_add_mod _ _]at h3;have h4:(JY m z).getD (i / z.length) []=z:=by simp[Ko,hd]
 rw[h4,JB h2,JB hm]at h3;have h5:(Yf z (m*z.length))[i]=z.getD (i%z.length) .dead:=by simp[Yf]
 rw[h5,Ko,JB hm];exact(Option.some.inj h3).symm
theorem qlV{P:Program}{w0:World}{ops rest:List Oper}{s:Slots}{h:AHeap}{K:Slots->AHeap->Prop}{dst:Option Tmp}{ty:TypeId}{pos:String}{af:Array Edge}{t e:TypeId}{x y:Operand}{m es by':Nat}{z:Value}{zs:List AVal}{k₁ k₂:IntKind}
 (ht:P.underlying t=some (.slice e)) (hs:ZI P e=some es) (hb:qcV P e=some by') (hz:Ud P e=some z) (hzs:z.cells.size=es) (hza:z.cells.toList.map absS=zs) (hes:es≠0) (hx:ev s x= .int k₁ m) (hy:ev s y= .int k₂ m) (h1:(by':Int)*m<=281474976710656) (h2:m<=9223372036854775807)
 (hk:∀k,h k=none->Ql P w0 ops rest (putD s dst (.slice (.own k) 0 m (.exact m))) (h.set k ⟨(JY m zs).flatten,0⟩) K):
 Ql P w0 ops (⟨dst, .makeSlice t x y,ty,pos,af,none⟩::rest) s h K:=by
 rw[qbp];simp only[eop,qpA,hx,hy,ht,hs,hb,hz,qsw];refine⟨⟨by omega,by omega,h1,by omega,hzs,hes⟩,fun k hk'=>?_⟩;have hl:zs.length=es:=by rw[<-hza,Jn,KN,hzs]
 have e:Yf (z.cells.toList.map absS) ((m:Int).toNat*es)=(JY m zs).flatten:=by
  rw[hza,VD,<-hl];exact qks zs m (by omega)
 rw[e,VD];exact hk k hk'
theorem flat_row{es:Nat}(ys:List AVal):∀{xs:List (List AVal)},(∀x∈xs,x.length=es)->ys.length=es->∀(i:Nat),i<xs.length->setAt xs.flatten (i*es) ys=(xs.set i ys).flatten:=by
 intro xs hw hy i hi;have hx:xs=xs.take i++(xs.getD i []::xs.drop (i+1)):=by
  conv=>lhs;rw[<-Dg i xs,Vb hi]
  simp[Ko,hi]
 have hl:((xs.take i).flatten).length=i*es:=by
  rw[Xu (fun x hx=>hw x (List.mem_of_mem_take hx)),K4,Dp (BS hi)]
 have hg:(xs.getD i []).length=es:=by
  rw[Ko,JB hi];exact hw _ (Vw hi)
 have h2:xs.set i ys=xs.take i++(ys::xs.drop (i+1)):=by
  conv=>lhs;rw[hx]
  rw[BM _ _ (by rw[K4];omega),K4,Dp (BS hi),Dl,VE]
 rw[h2];conv=>lhs;rw[hx]
 rw[Bp,Bp,Vp,Vp,<-hl];exact qhY ys _ _ _ (by rw[hy,hg])
end Go.AM
namespace Go.Proofs.YtgiadjbiimkbiaaGreatDoor
open Go.AM
open Go.Proofs
open Go.Col (Str FaultC okF)
open Go.Tok (TokC)
open Go.Stm
open Go.RowKit (Below)
set_option maxRecDepth 100000
theorem qrA(l:List TokC):∀x∈l.map Xg,x.length=5:=fun x hx=>by obtain⟨t,_,rfl⟩:=JK.1 hx;rfl
theorem qlU{P:Program}{w0:World}{ops rest:List Oper}{s:Slots}{H:AHeap}{K:Slots->AHeap->Prop}{dst:Option Tmp}{ty:TypeId}{pos:String}{af:Array Edge}{t:TypeId}{x y:Operand}{k i:Nat}{l:List TokC}{u:TokC}
 (hx:ev s x= .ptr (.own k) (i*5)) (hv:ev s y=tokV u) (hb:H k=some ⟨(l.map Xg).flatten,0⟩) (hi:i<l.length) (hn:ZI P t=some 5)
 (hk:Ql P w0 ops rest (putD s dst (.tuple [])) (H.set k ⟨((l.set i u).map Xg).flatten,0⟩) K):
 Ql P w0 ops (⟨dst, .store t x y,ty,pos,af,none⟩::rest) s H K:=by
 refine qN hx hv hb hn rfl rfl ?_ (Jq _) rfl ?_
 ·simp only
  rw[Xu (qrA l),Jn];show i*5+5<=l.length*5
  omega
 ·have e:setAt (l.map Xg).flatten (i*5) (tokV u).cells=((l.set i u).map Xg).flatten:=by
   rw[List.map_set];exact flat_row (Xg u) (qrA l) rfl i (by rw[Jn];exact hi)
  simp only[e];exact hk
theorem tok_row{w0:World}{h:AHeap}{k n:Nat}{l:List TokC}(hn:l.length=n)(hk:h k=some ⟨(l.map Xg).flatten,0⟩):IsL w0 h 5 (.slice (.own k) 0 n (.exact n)) (l.map Xg):=by
 subst hn;have:=Bz (w0:=w0) (es:=5) (xs:=l.map Xg) hk (qrA l) rfl (Wp.2 fun x hx=>by obtain⟨t,_,rfl⟩:=JK.1 hx;rfl) (.exact l.length) (by simp)
 rwa [Jn]at this
theorem qkw(n:Nat):Short (qdh n):=fun t ht=>by
 obtain⟨i,_,rfl⟩:=JK.1 ht;exact(show(1:Nat)<=1000000 by decide)
theorem qrz{w0:World}{h:AHeap}{v:AVal}{l:List TokC}(ht:IsL w0 h 5 v (l.map Xg)){k:IntKind}{n:Nat}(hn:n<=l.length):Wm Tryz.prog 39 v none (some (.int k n)) none=⟨True,qgL 5 v 0 n⟩:=by
 have:=IsL.slice ht Tryz.underlying39 Yo none (some (.int k n)) (l:=0) (r:=n) rfl (by rw[qbI]) (by omega) (by omega) (by rw[Jn];omega);exact this
theorem tok_preK{w0:World}{h:AHeap}{v:AVal}{l:List TokC}(ht:IsL w0 h 5 v (l.map Xg)){n:Nat}(hn:n<=l.length):IsL w0 h 5 (qgL 5 v 0 n) ((l.take n).map Xg):=by
 have:=IsL.sub ht (i:=0) (j:=n) (Jq _) (by rw[Jn];exact hn);rw[Vn,Nat.sub_zero,<-Dn]at this;exact this
structure PdG where
 i:Nat
 H:AHeap
set_option maxHeartbeats 8000000 in
theorem l_Known3(w0:World)(hm:MaxL w0)(ha:Asp w0)(h H0:AHeap)(hs_H0:AM.Sub h H0):
 Awp Tryz.prog w0 206 (Wv 7 (qbV Tryz.f3)) (qcU Tryz.prog w0 [.tmp 0] (fun r h'=>r= .bool true/\AM.Sub h h')) [] (H0):=by
 obtain⟨N,hN⟩:∃N:Nat,N=65537:=⟨_,rfl⟩
 obtain⟨M,hM⟩:∃M:Nat,M=65536:=⟨_,rfl⟩
 have hNi:(65537:Int)=(N:Int):=by omega
 have hMi:(65536:Int)=(M:Int):=by omega
 change Awp _ _ _ (Code.seq _ _) _ _ _;refine awp_rseq [11] (by rfl) fun K hK=>?_;refine qlV (m:=N) (zs:=Xg noT) Tryz.underlying39 Yo qfY qdU (by rfl) (by rfl) (by decide) (by rw[hN];rfl) (by rw[hN];rfl) (by omega) (by omega) fun k31q0 hk31q0=>?_;have hn_31q0:H0 k31q0=none:=by first|assumption|(simp only[Bd]at hk31q0;simp only[hk31q0])
 have hf_31q0:h k31q0=none:=Be hs_H0 hn_31q0;simp+decide only[Zj,↓qa];apply hK;clear hK K;refine qi ?_;have hS32:=Eb (ps:=[H0]) ⟨fun p hp=>by rw[V4.1 hp];exact Vi _,by simp⟩ hk31q0 (⟨(JY N (Xg noT)).flatten,0⟩:Blk);simp only[Xf]at hS32;rw[<-Dr,<-qfi]at hS32;obtain⟨H1,hH1⟩:∃H1,H1=H0.set k31q0 ⟨(JY N (Xg noT)).flatten,0⟩:=⟨_,rfl⟩
 rw[<-Dr,<-qfi]at hH1;rw[<-hH1]at hS32;refine BO (h':=H1) (by rw[hH1,<-Dr,<-qfi];exact Vi _) ?_;refine awp_rseq [11,12] (by rfl) fun K hK=>?_;simp+decide only[Zj,↓qa];apply hK;clear hK K;refine qI ?_;refine Qj [11,12] (fun g:PdG=>[(11, .slice (.own k31q0) 0 N (.exact N)),(12, .int .i64 g.i)]) (fun g:PdG=>g.H) (fun g:PdG=>g.i<=N/\Sep [H0,one k31q0 ⟨((filled N g.i).map Xg).flatten,0⟩] g.H) (fun g:PdG=>N-g.i) ⟨0,H1⟩ (by rfl) (Vi _) ⟨Jq _,hS32⟩ ?_;rintro⟨i,H⟩ ⟨hi,hS⟩;simp only at hi hS|-
 have hs_H:AM.Sub h H:=hs_H0.trans (hS.in_ (i:=0) rfl);have eb_31q0:H k31q0=some _:=hS.at_ (i:=1) rfl;have nr:=ZN (tok_row (w0:=w0) (qgA hi) eb_31q0);rw[qgA hi]at nr;refine qi ?_;refine awp_rseq [11,12,166] (by rfl) fun K hK=>?_;simp+decide only[Xk,Xm,qj,Qh,QY,↓qc,↓Qi,QV Tryz.underlying39,↓qd];apply hK;clear hK K;refine qz (b:=_) rfl (fun hb1=>?_) (fun hb1=>?_)
 ·try simp only[qG]at hb1
  have hi':i<N:=by omega
  have hiN:((i:Int)<(N:Int))=True:=eq_true (by omega);have hwi:IntKind.i64.wrap ((i:Int)+1)=((i+1:Nat):Int):=by rw[wrap_i64 (by omega) (by omega)];omega
  refine qF ?_;change Awp _ _ _ _ _ _ _;refine qi ?_;refine qI ?_;refine Qv [11,12] (by rfl) ?_;simp+decide only[XW,XF,QJ,VD,Xm,QW,Zo,↓qc,↓XO,↓QN,bld42_0,qjp,↓qJ,qg Tryz.underlying39 Yo,hiN];repeat (with_reducible refine zqP ?_)
  refine qlU (l:=filled N i) (i:=i) (u:=perT i) (by rfl) (by rfl) eb_31q0 (by rw[qgA hi];exact hi') Yo ?_;rw[qsC hi'];simp+decide only[XK,XF,VD,Xm];change Awp _ _ _ _ _ _ _;refine Qv [11,12] (by rfl) ?_;simp+decide only[ZR,Yw,qK,Xm,XJ,↓qc,↓qd,↓qa,hwi];try simp only[QL]
  exact⟨⟨i+1,_⟩,rfl,Vi _,⟨hi',hS.put (i:=1) rfl _⟩,by simp only;omega⟩
 ·try simp only[qG]at hb1
  have hiN:i=N:=by omega
  rw[hiN,qsD]at eb_31q0;have hrow:IsL w0 H 5 (.slice (.own k31q0) 0 N (.exact N)) ((qdh N).map Xg):=tok_row (YK N) eb_31q0;have hsub:=tok_preK hrow (n:=M) (by rw[YK];omega);rw[pers_take (by omega)]at hsub;have hps:∀k:IntKind,Wm Tryz.prog 39 (.slice (.own k31q0) 0 N (.exact N)) none (some (.int k 65536)) none=⟨True,qgL 5 (.slice (.own k31q0) 0 N (.exact N)) 0 M⟩:=fun k=>by rw[hMi];exact qrz hrow (by rw[YK];omega)
  obtain⟨RW,hRW⟩:∃v,v=AVal.slice (.own k31q0) 0 N (.exact N):=⟨_,rfl⟩
  rw[<-hRW]at hrow hsub hps|-
  have hsl:=hsub.live;have hRl:=hrow.live;refine Qk ?_;change Awp _ _ _ _ _ _ _;refine awp_rseq [11,13,14] (by rfl) fun K hK=>?_;simp+decide only[XW,QZ,↓qc];refine qE (by rfl) (by rfl) (UC w0 hm ha (qdh N) (by rw[YK];omega) (qkw N) _ _ hrow) fun x36q1 h36q1 hx36q1=>?_;obtain⟨hs36,ho⟩:=hx36q1;obtain rfl:x36q1= .tuple [.nilSlice,faultV ⟨3,65536,0⟩]:=by
   rcases ho with⟨f,q,e⟩|⟨L,j,rv,q,-⟩
   ·cases De (qmo N hN) q
    exact e
   ·cases De (qmo N hN) q
  have hs_h36q1:Sub h h36q1:=Br zqC hs36;have hr_h36q1:Sub H h36q1:=Br zqC hs36;have eb_31q0:=hs36 k31q0 _ zqA;simp+decide only[XW,QZ,QF,QR,Xe,↓qc,↓Xa,faultV];refine Qp qgl (cs:=[.int .i64 0, .int .i64 0, .int .i64 0]) (by rfl) fun k36q5 hk36q5=>?_;have hn_36q5:h36q1 k36q5=none:=by first|assumption|(simp only[Bd]at hk36q5;simp only[hk36q5])
  have hf_36q5:h k36q5=none:=Be hs_h36q1 hn_36q5;have ne_36q5_31q0:k36q5≠k31q0:=Bf hn_36q5 eb_31q0;simp+decide only[Zj,↓qa];refine qN (by rfl) (by rfl) zqA qaZ (by rfl) (by rfl) zqD (Jq _) (by rfl) ?_;simp only[QT,Bg];simp+decide only[XK,QZ,Nat.reduceAdd];apply hK;clear hK K;refine awp_rseq [13,14,15,16] (by rfl) fun K hK=>?_;simp+decide only[XW,QZ,qal,↓qc,↓qbJ,evO,hps];refine qE (by rfl) (by rfl) (UC w0 hm ha (qdh M) (by rw[YK];omega) (qkw M) _ _ (hsub.mono (by repeat (first|exact Vi _|assumption|refine Br ?_ (Vj (by assumption))|refine Br ?_ (by assumption))))) fun x37q2 h37q2 hx37q2=>?_;obtain⟨hs37,ho⟩:=hx37q2;obtain⟨rv,rfl,hrv⟩:∃rv,x37q2= .tuple [rv,faultV okF]/\StsV w0 32 h37q2 rv []:=by
   rcases ho with⟨f,q,e⟩|⟨L,j,rv,q,e,hv⟩
   ·cases De (pers_ok M hM) q
   ·cases De (pers_ok M hM) q
    exact⟨rv,e,hv⟩
  have hrl:=hrv.shape.1;have nrv:=UW hrv;have hok1:okF.e=0:=rfl;have hok2:okF.line=0:=rfl;have hok3:okF.col=0:=rfl;have hs_h37q2:Sub h h37q2:=Br zqC hs37;have hr_h37q2:Sub h36q1 h37q2:=Br zqC hs37;have eb_36q5:=hs37 k36q5 _ zqA;have eb_31q0:=hs37 k31q0 _ zqA;simp+decide only[XW,QZ,QF,QR,Xe,↓qc,↓Xa,Nat.reduceAdd,faultV];refine Qp qgl (cs:=[.int .i64 0, .int .i64 0, .int .i64 0]) (by rfl) fun k37q6 hk37q6=>?_;have hn_37q6:h37q2 k37q6=none:=by first|assumption|(simp only[Bd]at hk37q6;simp only[hk37q6])
  have hf_37q6:h k37q6=none:=Be hs_h37q2 hn_37q6;have ne_37q6_31q0:k37q6≠k31q0:=Bf hn_37q6 eb_31q0;have ne_37q6_36q5:k37q6≠k36q5:=Bf hn_37q6 eb_36q5;simp+decide only[Zj,↓qa];refine qN (by rfl) (by rfl) zqA qaZ (by rfl) (by rfl) zqD (Jq _) (by rfl) ?_;simp only[QT,Bg];simp+decide only[XK,QZ,Nat.reduceAdd];apply hK;clear hK K;refine awp_rseq [0] (by rfl) fun K hK=>?_;simp+decide only[Xk,QJ,qK,Xm,qj,JD,ZH,YJ,XJ,YS,Yy,Ke,QS,Vk,XA,Ze,Zo,Zt,↓qc,↓Qi,qoV Tryz.underlying45,↓qd,↓Xv,Qa qjy qaZ,↓qlp,↓QN,bld42_0,qfS,↓Qn,qbi,eq48,↓Qd,qof,ne_37q6_36q5.symm,Qm eb_36q5,Nat.reduceAdd,nrv,hok1,hok2,hok3];try simp(disch:=omega)only[wrap_i64,wrap_u8]
  refine Xl (by rfl) ?_;refine qE (by rfl) (by rfl) (qdN w0 hm ha _) fun x38q18 h38q18 hx38q18=>?_;obtain⟨rfl,hs38⟩:=hx38q18;have hs_h38q18:Sub h h38q18:=Br zqC hs38;have hr_h38q18:Sub h37q2 h38q18:=Br zqC hs38;have eb_37q6:=hs38 k37q6 _ zqA;have eb_31q0:=hs38 k31q0 _ zqA;have eb_36q5:=hs38 k36q5 _ zqA;simp+decide only[Zj,JD,YS,↓Qd,↓qa];apply hK;clear hK K;refine qW ?_;refine QG h zqC (qA (qC)) ?_;simp+decide only[XK,QZ,Yz];exact Vi _
end Go.Proofs.YtgiadjbiimkbiaaGreatDoor
namespace Go.Stm
set_option maxRecDepth 100000
theorem known0:XN 0=true:=by decide+kernel
theorem known1:XN 1=true:=by decide+kernel
theorem known2:XN 2=true:=by decide+kernel
theorem known3:XN 3=true:=by decide+kernel
theorem known4:XN 4=true:=by decide+kernel
theorem known5:XN 5=true:=by decide+kernel
theorem known6:XN 6=true:=by decide+kernel
theorem known7:XN 7=true:=by decide+kernel
theorem known8:XN 8=true:=by decide+kernel
theorem known9:XN 9=true:=by decide+kernel
theorem known10:XN 10=true:=by decide+kernel
theorem known11:XN 11=true:=by decide+kernel
theorem known12:XN 12=true:=by decide+kernel
theorem known13:XN 13=true:=by decide+kernel
theorem known14:XN 14=true:=by decide+kernel
theorem known15:XN 15=true:=by decide+kernel
theorem known16:XN 16=true:=by decide+kernel
theorem known17:XN 17=true:=by decide+kernel
theorem known18:XN 18=true:=by decide+kernel
theorem known19:XN 19=true:=by decide+kernel
theorem known20:XN 20=true:=by decide+kernel
theorem known21:XN 21=true:=by decide+kernel
theorem known22:XN 22=true:=by decide+kernel
theorem known23:XN 23=true:=by decide+kernel
theorem known24:XN 24=true:=by decide+kernel
theorem known25:XN 25=true:=by decide+kernel
theorem known26:XN 26=true:=by decide+kernel
theorem known27:XN 27=true:=by decide+kernel
theorem known28:XN 28=true:=by decide+kernel
theorem known29:XN 29=true:=by decide+kernel
theorem known30:XN 30=true:=by decide+kernel
theorem known31:XN 31=true:=by decide+kernel
theorem known32:XN 32=true:=by decide+kernel
theorem known33:XN 33=true:=by decide+kernel
theorem known34:XN 34=true:=by decide+kernel
theorem known35:XN 35=true:=by decide+kernel
theorem known36:XN 36=true:=by decide+kernel
theorem known37:XN 37=true:=by decide+kernel
theorem known38:XN 38=true:=by decide+kernel
theorem known39:XN 39=true:=by decide+kernel
theorem known_law:∀n:Nat,n<40->XN n=true
 |0,_=>known0
 |1,_=>known1
 |2,_=>known2
 |3,_=>known3
 |4,_=>known4
 |5,_=>known5
 |6,_=>known6
 |7,_=>known7
 |8,_=>known8
 |9,_=>known9
 |10,_=>known10
 |11,_=>known11
 |12,_=>known12
 |13,_=>known13
 |14,_=>known14
 |15,_=>known15
 |16,_=>known16
 |17,_=>known17
 |18,_=>known18
 |19,_=>known19
 |20,_=>known20
 |21,_=>known21
 |22,_=>known22
 |23,_=>known23
 |24,_=>known24
 |25,_=>known25
 |26,_=>known26
 |27,_=>known27
 |28,_=>known28
 |29,_=>known29
 |30,_=>known30
 |31,_=>known31
 |32,_=>known32
 |33,_=>known33
 |34,_=>known34
 |35,_=>known35
 |36,_=>known36
 |37,_=>known37
 |38,_=>known38
 |39,_=>known39
 |n+40,h=>absurd h (by omega)
end Go.Stm
