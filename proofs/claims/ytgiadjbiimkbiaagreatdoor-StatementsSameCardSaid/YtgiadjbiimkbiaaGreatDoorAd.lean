/-
  Texts of this proof, joined: SoL, SoM, SoN, SoO, SoP, SoQ, SoR, SoS, SpA, SpB, SpC, SpD, SqC, SqD, BmG, SqE, SqB, SpE, SqF, SqG, SpF, SpG, SrA, SrD, SrE, SsC, SsD, SsE.
  Conditions: none.
-/
import Derived.Test.YtgiadjbiimkbiaaGreatDoorAc
import Derived.Recover
import Derived.Test.YtgiadjbiimkbiaaGreatDoorAb
import Derived.Lib.AtoiErrMem
set_option linter.unusedSimpArgs false
set_option linter.unnecessarySimpa false
set_option linter.unusedVariables false
open List renaming mem_cons_self->Jf,flatten_cons->Vu,set_cons_zero->VZ,mem_cons_of_mem->Jg,set_cons_succ->Kj,getD->Ko,getElem?_eq_getElem->JH,length_cons->KY,getElem_mem->VA,length_set->BA,mem_or_eq_of_mem_set->BC,length_append->Jc,length_singleton->JA,map_append->Vr,length_map->Jo,getD_cons_zero->VJ,getD_cons_succ->Kn,length_nil->JN,take_succ_cons->Ki,take_zero->V4,mem_append->JR,mem_singleton->VM,mem_map->JP,map_set->BG,drop_succ_cons->Vw,drop_zero->Vm,getElem?_eq_none->Kr,cons_append->Kh,size_toArray->KD,range_eq_range'->BI,getElem?_append_left->BJ,append_nil->Jz,eq_nil_of_length_eq_zero->Kg,flatten_append->Vt,mem_cons->KX,map_cons->Ke,map_nil->Vj,nil_append->Je,map_eq_nil_iff->VD,drop_eq_getElem_cons->J9,mem_map_of_mem->Bp,drop_length->J8,drop_of_length_le->V8,take_add_one->Vq,length_take->K5,take_length->Jp,dropWhile_cons->BP,length_reverse->BQ,length_pos_iff->Bc,range->KQ,all_eq_true->JC,mem_range->JD,getElem?_drop->Kq,drop_drop->BV,getElem?_eq_some_iff->Jy,append_assoc->Ja,all_append->Ec,take_of_length_le->JW,mem_reverse->Eg
open Nat renaming zero_add->Jq,succ_mul->Vv,add_assoc->Kw,zero_le->Jr,le_of_not_lt->Kt,mul_div_cancel->Vl,pos_of_ne_zero->Vk,add_zero->K7,lt_or_ge->KU,le_of_ble_eq_true->VF,add_sub_cancel->BM,le_trans->Vd,mul_one->V5,le_refl->KM,lt_of_not_le->JZ,eq_or_lt_of_le->JB,sub_zero->BX
open Bool renaming and_eq_true->Ky,or_eq_true->JF,not_eq_true'->Ji,and_eq_false_iff->VO,or_eq_false_iff->VL,not_eq_false'->VK,and_true->J4,not_false->Bd,not_true->Be,false_or->V7,not_not->BN,false_and->BO,and_false->Bf,true_and->VP,and_assoc->Vn
open Go.AM.GrowV renaming new->BD
open Go.AM.Slots renaming put->VG,get->VH,keep->VI
open Go.AM.AHeap renaming set_ne->Vf,set_none->VU,ne_some->VW,set_set->VX,set_same->Vg,del->Bi
open Go.AM.Awp renaming forget->Bq,keep->Bt
open Go.AM.Sub renaming refl->Vh,trans->Ba,none->VV,set->Vi
open Go.AM.Sep renaming fold->BF,lay->BL,emp->BU
open Int renaming toNat_natCast->VN,ofNat_le->BS,tmod->Ed,tmod_eq_emod_of_nonneg->Ee,natCast_emod->Ef
open Go.AM.AVal renaming cells->VY
open Go.Proofs.YtgiadjbiimkbiaaGreatDoor.StsV renaming mono->BH
open Go.AM.PMap renaming le_trans->Vb
open Array renaming replicate->Jv,getD_eq_getD_getElem?->Ku,getElem?_append->Jw,getD->JJ
open Go.Stm.ParseR renaming sent->BK
open Go.AM.IsL renaming own->Bh
open UInt8 renaming le_iff_toNat_le->BR
open Go.Stm.StC renaming phrases->BZ,bodies->Ea,verb->Eb
namespace Go.AM
theorem qkR{α:Type}{es:Nat}(y:α):∀{xs:List (List α)},(∀x∈xs,x.length=es)->∀(i j:Nat),i<xs.length->j<es->xs.flatten.set (i*es+j) y=(xs.set i ((xs.getD i []).set j y)).flatten
 |[],_,i,j,hi,_=>by simp at hi
 |x::xs,h,0,j,_,hj=>by
  have hx:=h x Jf;rw[Vu,Nat.zero_mul,Jq,List.set_append_left _ _ (by omega),VZ,Vu];rfl
 |x::xs,h,i+1,j,hi,hj=>by
  have hx:=h x Jf;rw[Vu,List.set_append_right _ _ (by rw[Vv];omega),show(i+1)*es+j-x.length=i*es+j by rw[Vv];omega,qkR y (fun z hz=>h z (Jg _ hz)) i j (by simpa using hi) hj,Kj,Vu];rfl
theorem qjl{α:Type}{es:Nat}:∀(ys:List α) {xs:List (List α)},(∀x∈xs,x.length=es)->∀(i j:Nat),i<xs.length->j+ys.length<=es->setAt xs.flatten (i*es+j) ys=(xs.set i (setAt (xs.getD i []) j ys)).flatten
 |[],xs,h,i,j,hi,_=>by
  simp only[setAt];congr 1;rw[Ko,JH hi];exact(List.set_getElem_self hi).symm
 |y::ys,xs,h,i,j,hi,hj=>by
  simp only[KY]at hj;simp only[setAt];have hl:(xs.getD i []).length=es:=by
   rw[Ko,JH hi];exact h _ (VA hi)
  rw[qkR y h i j hi (by omega),Kw,qjl ys (xs:=xs.set i ((xs.getD i []).set j y)) (fun z hz=>?_) i (j+1) (by rw[BA];exact hi) (by omega),List.set_set]
  ·congr 3
   simp[Ko,hi]
  ·rcases BC hz with hz|hz
   ·exact h z hz
   ·rw[hz,BA];exact hl
theorem GrowV.open_{v:AVal}{p:AHeap}{es:Nat}{xs:List (List AVal)}{x:List AVal}(hg:GrowV es v p (xs++[x]))(hG:isG v=true):
 ∃k,v= .slice (.own k) 0 (xs.length+1) (.grow es)/\p=one k ⟨xs.flatten++x,0⟩/\GrowV es (.slice (.own k) 0 xs.length (.grow es)) (one k ⟨xs.flatten,0⟩) xs:=by
 rcases hg with⟨rfl,_,e⟩|⟨k,c,rfl,hc,rfl,hw,hl⟩
 ·simp at e
 ·have hfl:(xs++[x]).flatten=xs.flatten++x:=by simp
  rw[hfl]at hl|-
  rw[Jc,JA]at hc|-
  rcases hc with rfl|rfl
  ·cases hG
  ·rw[Ya,Ky]at hl
   exact⟨k,rfl,rfl,BD rfl (.inr rfl) (fun y hy=>hw y (List.mem_append_left _ hy)) hl.1 rfl⟩
end Go.AM
namespace Go.Proofs.YtgiadjbiimkbiaaGreatDoor
open Go.AM
open Go.Proofs
open Go.Col (Str FaultC okF)
open Go.Tok (TokC)
open Go.Stm
open Go.RowKit (Below)
set_option maxRecDepth 100000
structure CpG where
 m:Nat
 qs:List (PhrC×AVal)
 H:AHeap
theorem ph_clip{wz:World}{h:AHeap}{v:AVal}{l:List PhrC}(hp:PhV wz h v l):PhV wz h (Zi v) l:=by
 obtain⟨qs,a,b,c⟩:=hp;exact⟨qs,a,b.clip,c⟩
theorem bd_clip{wz:World}{S:AVal->List StC->Prop}{h:AHeap}{v:AVal}{l:List BodC}(hp:BdV wz S h v l):BdV wz S h (Zi v) l:=by
 obtain⟨qs,a,b,c⟩:=hp;exact⟨qs,a,b.clip,c⟩
set_option maxHeartbeats 16000000 in
theorem k_stmC(wz:World)(hm:MaxL wz)(ha:Asp wz)(l:List TokC)(hl:l.length<=65537)(hsh:Short l)(dd:Nat)(hdd:dd<=32)(B:AHeap)(kp ks k4:Nat)(v:AVal)(O0:List Str)(bd ph:Str)(i:Nat)(hF:Fair O0)(hO:O0.length+1=dd)(hvi:isV l i=true)
 (hfo:XE (l.getD i noT).text=(ph,bd)) (H:AHeap) (ov pv bv:AVal) (op pp tp bp E:AHeap) (c:Cur) (cl:Bool) (j:Nat) (hI:StI wz l B kp ks k4 qdp v ov pv bv op pp tp bp E (O0++[bd]) (32-dd) c j H) (hij:i<j) (hR:LoopRO l dd (O0++[bd]) ph (qdL l i) (i+1) (.ok (c,cl) j)):
 Awp Tryz.prog wz ⟨201,[],GP wz 201 [] [] (qjU B fun f=>StRO l dd O0 i (.bad f))⟩ (Wn 9 (qic (Wn 1 (qbZ Tryz.f51)))) (qel (qcf Tryz.prog wz [.cell 4 82] (qpM wz l B kp v O0 dd i))) [(0, .ptr (.own kp) 0),(4, .ptr (.own k4) 0),(5, .int .i64 i),(6, .ptr (.own ks) 0),(9, .bool cl)] (H):=by
 obtain⟨hS,hP,hC,hfew⟩:=hI;have eb_p:H kp=some _:=hS.at_ (i:=1) rfl;have eb_s:H ks=some _:=hS.at_ (i:=3) rfl;have ne_p_s:kp≠ks:=hS.ne (i:=1) (j:=3) rfl rfl (by decide);have hs_H:Sub B H:=hS.in_ (i:=0) rfl;have hv:=hP.toks;have hlv:=hv.live;have hjl:=hP.at_;have hopn:=hP.open_;have hos:IsStrs wz H ov (O0++[bd]):=hopn.isL (hS.in_ (i:=2) rfl);have nos:=UF hos;have hsl:=fun k:IntKind=>qky (k:=k) hos (n:=O0.length) (by rw[Jc];omega);rw[Jc,JA]at nos;rw[Vr]at hopn;obtain⟨ko,rfl,rfl,hov2⟩:=hopn.open_ hP.isG;rw[Jo]at hov2 eb_p hS nos hsl;obtain⟨ov2,hove⟩:∃ov2,ov2=AVal.slice (.own ko) 0 O0.length (.grow 1):=⟨_,rfl⟩
 have hsl2:∀k:IntKind,WI Tryz.prog 22 (.slice (.own ko) 0 (O0.length+1) (.grow 1)) none (some (.int k O0.length)) none=⟨True,ov2⟩:=fun k=>by rw[hsl k,hove];rfl
 rw[<-hove]at hov2;have ne_p_o:kp≠ko:=hS.ne (i:=1) (j:=2) rfl rfl (by decide);have hol:=hov2.live;have hwo:IntKind.i64.wrap (((O0.length+1:Nat):Int)-1)=(O0.length:Int):=by rw[wrap_i64 (by omega) (by omega)];omega
 obtain⟨hpl,hps,hpc⟩:=hC.pv_ok;obtain⟨hbl,hbs,hbc,nb⟩:=hC.bv_len;change Awp _ _ _ (Code.seq _ _) _ _ _;refine qeT 14 [0,4,5,6,9] mixed (by kernel_rfl) (by rfl) (by rfl) fun K hK=>?_;simp+decide only[ev,qK,qG,putD,VG,VH,Ka,Kb,↓qg,qd,↓Qv,Qk,QE,↓qC,qi,qha,↓qI,Qc,qj ag22,↓QB,Qo,Xr Tryz.underlying22,↓qo,qh,qE,cond_false,qz,Wl,Qj wz eb_p,VJ,Kn,Jq,Xv,hwo];try simp+decide only[ev,putD,VG,VH,Ka,Kb,↓qcy,qbe,evO,qse Tryz.underlying22 sz9,qlI,qsU,qdR,↓Qv,Qk,QE,↓qC,qi,qha,Jq]
 repeat (with_reducible refine And.intro ?_ ?_;· first|trivial|omega|(intro hg;simp only[Ky,JF,Ji,VO,VL,VK,decide_eq_true_eq,decide_eq_false_iff_not,Xd]at hg;omega))
 refine Qi (v:=ov2) (by rfl) (by rw[hove];show AVal.slice (.own ko) _ _ _=AVal.slice _ _ _ _;congr 1;all_goals simp) eb_p sz22 hol (by rw[hov2.cells];rfl) (by simp only[KY,JN];omega) (Jr _) (by rw[hov2.cells];simp[QU,hov2.scal]) ?_;simp only[hov2.cells,setAt,VZ,Kj];simp+decide only[qa,putD,VI,Ka];apply hK;clear hK K;refine qF ?_;refine Awp.trunc (k:=ko) (cs:=(O0.map strC).flatten) (xs:=strC bd) ((Vf _ _ ne_p_o.symm).trans (hS.at_ (i:=2) rfl)) ?_;obtain⟨H25,hH25⟩:∃H25,H25=(H.set kp (parB3 v j ov2)).set ko ⟨(O0.map strC).flatten,0⟩:=⟨_,rfl⟩
 refine Bq (h':=H25) (by rw[hH25];exact Vh _) ?_;have hS1:=(hS.put (i:=1) rfl (parB3 v j ov2)).put (i:=2) rfl ⟨(O0.map strC).flatten,0⟩;rw[<-hH25]at hS1;simp only[VZ,Kj]at hS1;have eb_p:H25 kp=some _:=hS1.at_ (i:=1) rfl;have eb_s:H25 ks=some _:=hS1.at_ (i:=3) rfl;have hs_H25:Sub B H25:=hS1.in_ (i:=0) rfl;refine awp_rseq [0,4,5,6,171] (by rfl) fun K hK=>?_;simp+decide only[ev,putD,VG,VH,Ka,Kb,↓qI,Qc,Qz qeJ Yv,↓qg,qd,Qj wz eb_s,Qd,VJ,Kn,Jq,Nat.reduceAdd,QL,Qw,allLive,J4,hpl,hbl];refine qY (by rfl) (by rfl) (c_whole wz ha _ c pv bv (32-dd) cl (qmh hC (hS1.in_ (i:=4) rfl) (hS1.in_ (i:=5) rfl) (hS1.in_ (i:=7) rfl)) (qmi hC (hS1.in_ (i:=6) rfl) (hS1.in_ (i:=7) rfl)) (by have:=hfew.2.2;omega) (qpf hC hfew (by omega))) fun x25q2 h25q2 hx25q2=>?_;obtain⟨rfl,hs25⟩:=hx25q2;have hS2:=hS1.forget hs25;have hs_h25q2:Sub B h25q2:=Ba zqC hs25;have hr_h25q2:Sub H25 h25q2:=Ba zqC hs25;have eb_p:=hs25 kp _ zqA;have eb_s:=hs25 ks _ zqA;simp+decide only[qa,ev,putD,VG,VH,VI,Ka,Kb,↓qeB,Zn,YJ];apply hK;clear hK K;refine qM (b:=_) rfl (fun hb1=>?_) (fun hb1=>?_)
 ·try simp only[Ji]at hb1
  refine Yd 2 (by rfl) (by rfl) ?_;simp only[Ki,V4];simp+decide only[qa,ev,putD,VG,VH,Ka,Kb,↓qg,qd];refine⟨⟨_,_,by rfl,?_⟩,by intro i;first|trivial|exact .inr trivial|exact .inr rfl⟩;exact(qda wz _ B kp v ov2 l j 4 i zqA zqB hv (by omega) (by omega)).mono (fun _ _ q=>q) fun x h' ⟨q1,q2⟩=>⟨_,StR.part (by omega) (by rw[hfo];exact hR) hb1,q1,Ba (by assumption) q2⟩
 ·try simp only[VK]at hb1
  refine qV ?_;change Awp _ _ _ _ _ _ _;refine qF ?_;obtain⟨qs0,w,ts,tv,hph,hg0,hgt,hqE⟩:=hC.ph;obtain⟨kh,ch,rfl,hch,rfl⟩:=qep hg0;have hS3:=(BF (ps:=[tp,E]) (hS2.pick [5,7,0,1,2,3,4,6,8] (by decide) (by simp))).pick [1,2,3,4,5,6,0,7] (by decide) (by simp);have hu:=XI (ps:=[tp,E]) (hS2.pick [5,7] (by decide) (by simp)).2;obtain⟨E',hE'⟩:∃E',E'=WB [tp,E]:=⟨_,rfl⟩
  rw[<-hE']at hS3 hu;obtain⟨q0,hq0⟩:∃q0,q0=qs0++[((⟨w,ts⟩:PhrC),tv)]:=⟨_,rfl⟩
  have hq1:q0.map (·.1)=c.phrases:=by rw[hq0,hph,Vr];rfl
  have hq2:∀q∈q0,IsL wz E' 5 q.2 (q.1.toks.map Xy):=fun q hq=>by
   rw[hq0]at hq;rcases JR.1 hq with z|z
   ·exact(hqE q z).mono (hu E (by simp))
   ·rw[VM.1 z];exact hgt.isL (hu tp (by simp))
  have hqn:q0.length=qs0.length+1:=by rw[hq0,Jc];rfl
  have hqf:(qs0.map phC).flatten++[AVal.str w,tv]=(q0.map phC).flatten:=by rw[hq0];simp[phC]
  rw[hqf]at hS3;rw[<-hqn]at hpl hps hpc hch eb_s hS3;have nq0:∀H:AHeap,Zh Tryz.prog H 79 (.slice (.own kh) 0 q0.length ch)=⟨True, .int .i64 q0.length⟩:=fun H=>by
   have:=(hg0.isL (wz:=wz) (Vh _)).len Tryz.underlying79 H
   rwa [Jc,Jo,JA,<-hqn]at this
  have hqs:q0.length<=l.length:=by rw[hqn];have:=hfew.1;rw[hph,Jc,Jo,JA]at this;omega
  refine awp_rseq [4,6,176,177,178] (by rfl) fun K hK=>?_;simp+decide only[qa,ev,qK,qG,putD,VG,VH,VI,Ka,Kb,↓qC,qi,Zz,↓qI,Qc,qj qba,↓QB,Qo,Xr Tryz.underlying79,↓qg,qd,Qj wz eb_s,VJ,Kn,Jq,hpl];apply hK;clear hK K;refine Qb ?_;refine QN [4,6,176,177,178] (fun g:CpG=>[(4, .ptr (.own k4) 0),(6, .ptr (.own ks) 0),(176, .slice (.own kh) 0 q0.length ch),(177, .int .i64 q0.length),(178, .int .i64 g.m)]) (fun g:CpG=>g.H) (fun g:CpG=>g.m<=q0.length/\g.qs.length=q0.length/\g.qs.map (·.1)=c.phrases/\(∀q∈g.qs,IsL wz E' 5 q.2 (q.1.toks.map Xy))/\Sep [B,one kp (parB3 v j ov2),one ko ⟨(O0.map strC).flatten,0⟩,one ks (curB c (.slice (.own kh) 0 q0.length ch) bv),one kh ⟨(g.qs.map phC).flatten,0⟩,bp,E',one k4 qdp] g.H) (fun g:CpG=>q0.length-g.m) ⟨0,q0,_⟩ (by rfl) (Vh _) ⟨Jr _,rfl,hq1,hq2,hS3⟩ ?_;rintro⟨m,qm,H⟩ ⟨hm1,hm2,hm3,hm4,hS⟩;simp only at hm1 hm2 hm3 hm4 hS|-
  have eb_s:H ks=some _:=hS.at_ (i:=3) rfl;have hs_H:Sub B H:=hS.in_ (i:=0) rfl;refine awp_rseq [4,6,176,177,178,179] (by rfl) fun K hK=>?_;simp+decide only[qa,ev,putD,VG,VH,VI,Ka,Kb,↓qo,qh,qN,cond_false,qz,Xt];apply hK;clear hK K;refine qF (qM (b:=_) rfl (fun hb2=>?_) (fun hb2=>?_))
  ·try simp only[decide_eq_true_eq]at hb2
   have hmm:m<qm.length:=by omega
   have hqm:GrowV 2 (.slice (.own kh) 0 q0.length ch) (one kh ⟨(qm.map phC).flatten,0⟩) (qm.map phC):=by
    refine BD (by rw[Jo,hm2]) hch qdB (Yz.2 fun x hx=>?_) rfl;obtain⟨q,hq,rfl⟩:=JP.1 hx;show(true && (q.2.live && true))=true
    rw[(hm4 q hq).live];rfl
   obtain⟨q,hqe⟩:∃q,q=qm.getD m qbu:=⟨_,rfl⟩
   have hqmem:q∈qm:=by rw[hqe,Ko,JH hmm];exact VA hmm
   have hqL:=hqm.isL (wz:=wz) (hS.in_ (i:=4) rfl);rw[<-hm2]at hqL;obtain⟨e0,e1⟩:=qbH hqL hmm;rw[<-hqe,Jq]at e0 e1;have hqt:=(hm4 q hqmem).mono (hS.in_ (i:=6) rfl);have hql:=hqt.live;have hqs1:=hqt.scal;have hqc:=hqt.cells;have hck:=hqt.clip;have hckl:=hck.live;have hcks:=hck.scal;have hckc:=hck.cells;have eb_h:H kh=some _:=hS.at_ (i:=4) rfl;have ne_s_h:ks≠kh:=hS.ne (i:=3) (j:=4) rfl rfl (by decide);have hset:setAt (qm.map phC).flatten (m*2+1) [Zi q.2]=((qm.set m (q.1,Zi q.2)).map phC).flatten:=by
    rw[qjl [Zi q.2] qdB m 1 (by rw[Jo];exact hmm) (by simp),BG];congr 2;rw[getD_map qbu hmm,<-hqe];rfl
   have hwm:IntKind.i64.wrap ((m:Int)+1)=((m+1:Nat):Int):=by rw[wrap_i64 (by omega) (by omega)];omega
   have hmq:((m:Int)<(q0.length:Int))=True:=eq_true (by omega);have hml:(qm.map phC).flatten.length=qm.length*2:=qcL qm;refine qV ?_;change Awp _ _ _ _ _ _ _;refine qF ?_;refine Qb ?_;refine awp_rseq [4,6,16,17,176,177,178] (by rfl) fun K hK=>?_;simp+decide only[ev,putD,VG,VH,Ka,Kb,↓qg,qd,↓qZ,Qc,qA Tryz.underlying79 qab,↓qI,Qz ag84 qab,Qd,Jq,Qw,allLive,J4,e0,e1,hql,VN,Jq];repeat (with_reducible refine And.intro ?_ ?_;· first|trivial|omega|(intro hg;simp only[Ky,JF,Ji,VO,VL,VK,decide_eq_true_eq,decide_eq_false_iff_not,Xd]at hg;omega))
   refine Xb qrJ (cs:=[.str [], .nilSlice]) (by rfl) fun k29q3 hk29q3=>?_;have hn_29q3:H k29q3=none:=by first|assumption|(simp only[VU]at hk29q3;simp only[hk29q3])
   have hf_29q3:B k29q3=none:=VV hs_H hn_29q3;have ne_29q3_s:k29q3≠ks:=VW hn_29q3 eb_s;simp+decide only[ev,putD,VG,VH,Ka,Kb,↓qf,qc];refine Qi (by rfl) (by rfl) zqA qab (by rfl) (by rfl) zqD (Jr _) (by first|rfl|(simp+decide only[ev,VH,Ka,VY,QU,J4,hqs1,YT])) ?_;simp only[VX,VY];simp+decide only[qa,ev,putD,VH,VI,Ka,setAt,VZ,Kj,Jq,Jq];apply hK;clear hK K;refine qeW 8 mixed (by kernel_rfl) (by rfl) ?_;simp only[Ki,V4,Vw,Vm];simp+decide only[ev,putD,VG,VH,Ka,Kb,↓ZN,qi,Zz,↓qcG,ZF,qj qba,↓qlm,qd,UT,qj qam,YI,ne_eq,not_false_eq_true,ne_29q3_s.symm,Qj wz eb_s,XN,VJ,Kn,Jq,Xv,hql,Jq];refine qbi (V:=Zi q.2) (by rfl) (by rfl) (qgj wz _ q.2 _ (hqt.mono zqB)) ?_;simp+decide only[qdt,ev,putD,VG,VH,Ka,Kb,and_true,↓qfw,qA Tryz.underlying79 qab,Zf,↓ZN,qi,UT,Jq,hmq,VN,Jq];repeat (with_reducible refine And.intro ?_ ?_;· first|trivial|omega|(intro hg;simp only[Ky,JF,Ji,VO,VL,VK,decide_eq_true_eq,decide_eq_false_iff_not,Xd]at hg;omega))
   refine Qi (v:=Zi q.2) (by rfl) (by rfl) ((Vf _ _ (VW hn_29q3 eb_h).symm).trans eb_h) sz39 hckl (by rw[hckc];rfl) (by simp only;omega) (Jr _) (by rw[hckc];simp[QU,hcks]) ?_;simp only[hckc,hset];simp+decide only[qa,putD];change Awp _ _ _ _ _ _ _;refine Xa [4,6,176,177,178] (by rfl) ?_;simp+decide only[qa,ev,qK,qG,putD,VG,VH,VI,Ka,Kb,↓qo,qh,qE,cond_false,qz,QW,↓qg,qd,hwm];try simp only[qR]
   refine⟨⟨m+1,qm.set m (q.1,Zi q.2),(H.set k29q3 ⟨[.str q.1.words,q.2],0⟩).set kh ⟨((qm.set m (q.1,Zi q.2)).map phC).flatten,0⟩⟩,rfl,Vh _,⟨by simp only;omega,by simp only;rw[BA];exact hm2,?_,fun x hx=>?_,?_⟩,by simp only;omega⟩
   ·simp only
    rw[BG,<-hm3];have:(qm.map (·.1))[m]?=some q.1:=by
     rw[List.getElem?_map,JH hmm];have:qm[m]=q:=by rw[hqe,Ko,JH hmm];rfl
     rw[this];rfl
    refine List.ext_getElem? fun x=>?_;rw[List.getElem?_set];by_cases z:m=x
    ·subst z
     rw[if_pos rfl,if_pos (by rw[Jo];exact hmm),this]
    ·rw[if_neg z]
   ·rcases BC hx with z|z
    ·exact hm4 x z
    ·rw[z];exact(hm4 q hqmem).clip
   ·have hSa:=(hS.lay hn_29q3 ⟨[.str q.1.words,q.2],0⟩).put (i:=4) rfl ⟨((qm.set m (q.1,Zi q.2)).map phC).flatten,0⟩
    exact hSa.pick [0,1,2,3,4,5,6,7] (by decide) (by simp)
  ·try simp only[decide_eq_false_iff_not]at hb2
   have hmm:m=q0.length:=by omega
   have hqm:GrowV 2 (.slice (.own kh) 0 q0.length ch) (one kh ⟨(qm.map phC).flatten,0⟩) (qm.map phC):=by
    refine BD (by rw[Jo,hm2]) hch qdB (Yz.2 fun x hx=>?_) rfl;obtain⟨q,hq,rfl⟩:=JP.1 hx;show(true && (q.2.live && true))=true
    rw[(hm4 q hq).live];rfl
   have hu2:=XI (ps:=[one kh ⟨(qm.map phC).flatten,0⟩,bp,E']) (hS.pick [4,5,6] (by decide) (by simp)).2;obtain⟨E2,hE2⟩:∃E2,E2=WB [one kh ⟨(qm.map phC).flatten,0⟩,bp,E']:=⟨_,rfl⟩
   rw[<-hE2]at hu2;have hS4:=(BF (ps:=[one kh ⟨(qm.map phC).flatten,0⟩,bp,E']) (hS.pick [4,5,6,0,1,2,3,7] (by decide) (by simp))).pick [1,2,3,4,0,5] (by decide) (by simp);rw[<-hE2]at hS4;have hpF:PhV wz E2 (.slice (.own kh) 0 q0.length ch) c.phrases:=⟨qm,hm3.symm,hqm.isL (hu2 _ (by simp)),fun q hq=>(hm4 q hq).mono (hu2 E' (by simp))⟩
   have hbF:BdV wz (StsV wz (32-dd) E2) E2 bv c.bodies:=by
    obtain⟨bs,p1,p2,p3⟩:=hC.bd;exact⟨bs,p1,p2.isL (hu2 bp (by simp)),fun b hb=>⟨(p3 b hb).1.mono ((hu E (by simp)).trans (hu2 E' (by simp))),(p3 b hb).2.mono ((hu E (by simp)).trans (hu2 E' (by simp)))⟩⟩
   have hpH:=hpF.mono (hS4.in_ (i:=4) rfl);obtain⟨qb,hqb1,hqb2,hqb3⟩:=id (hbF.mono (S':=StsV wz (32-dd) H) (hS4.in_ (i:=4) rfl) fun _ _=>BH (hS4.in_ (i:=4) rfl));obtain⟨qp,hqp1,hqp2,hqp3⟩:=id hpH;have hcp:=hqp2.clip;have hcb:=hqb2.clip;have hcpl:=hcp.live;have hcbl:=hcb.live;have eb_4:H k4=some _:=hS4.at_ (i:=5) rfl;have ne_s_4:ks≠k4:=hS4.ne (i:=3) (j:=5) rfl rfl (by decide);refine QI ?_;change Awp _ _ _ _ _ _ _;refine qeU 7 [4,6] mixed (by kernel_rfl) (by rfl) fun K hK=>?_;simp only[Ki,V4,Vw,Vm];simp+decide only[ev,putD,VG,VH,Ka,Kb,↓ZN,qi,Zz,↓qcG,ZF,qj qba,Qj wz eb_s,VJ,Kn,Jq,hpl];refine qbi (V:=Zi (.slice (.own kh) 0 q0.length ch)) (by rfl) (by rfl) (c_clipPh wz _ _ _ hqp2) ?_;simp+decide only[ev,putD,VG,VH,Ka,Kb,↓ZN,qi,Yf,↓qcG,ZF,qj qbB,Qj wz eb_s,VJ,Kn,Jq,hbl];refine qbi (V:=Zi bv) (by rfl) (by rfl) (c_clipBd wz _ _ _ hqb2) ?_;simp+decide only[qdt,ev,putD,VG,VH,Ka,Kb,↓ZN,qi,Zz,Jq];refine Qi (v:=Zi (.slice (.own kh) 0 q0.length ch)) (by rfl) (by rfl) eb_s sz79 hcpl (by rw[hcp.cells];rfl) (by simp only[KY,JN];omega) (Jr _) (by rw[hcp.cells];simp[QU,hcp.scal]) ?_;simp only[hcp.cells,setAt,VZ,Kj];simp+decide only[ev,putD,VG,VH,Ka,Kb,↓qC,qi,Yf,Jq];refine Qi (v:=Zi bv) (by rfl) (by rfl) (Vg _ _ _) sz80 hcbl (by rw[hcb.cells];rfl) (by simp only[KY,JN];omega) (Jr _) (by rw[hcb.cells];simp[QU,hcb.scal]) ?_;simp only[hcb.cells,VX,setAt,VZ,Kj];simp+decide only[qa,putD,VI,Ka];apply hK;clear hK K;refine awp_rseq [4] (by rfl) fun K hK=>?_;simp+decide only[ev,putD,VG,VH,Ka,Kb,↓qI,Qc,Qz qeJ Yv,XN,Qd,VJ,Kn,Jq,Nat.reduceAdd,QL,Qw,allLive,J4,hcpl,hcbl];refine Qi (v:= .agg [.str c.verb, .int .i64 c.line, .int .i64 c.col,Zi (.slice (.own kh) 0 q0.length ch),Zi bv]) (by rfl) (by rfl) ((Vf _ _ ne_s_4.symm).trans eb_4) Yv (by simp+decide only[lv_agg]) (by rfl) (by simp only[qdp,KY,JN];omega) (Jr _) (by show(true && (true && (true && ((Zi (.slice (.own kh) 0 q0.length ch)).scal && ((Zi bv).scal && true)))))=true;rw[hcp.scal,hcb.scal];rfl) ?_;simp only[VY,qdp,setAt,VZ,Kj,Jq,Nat.reduceAdd];simp+decide only[qa,putD,VI,Ka];apply hK;clear hK K;refine Qn ?_;try simp only[qnk]
   refine Qu (?_) ?_
   ·simp+decide only[Wz,YU,VH,if_true,and_true,YU,Qz qeJ Yv,qfd,Qd,VJ,Kn,Jq,Nat.reduceAdd,QL,Qw,allLive,J4,Qd,VJ,Kn,Jq,Nat.reduceAdd,QL,Qw,allLive,J4,hcpl,hcbl]
   simp+decide only[VH,if_true,qiP,YU,Qz qeJ Yv,qfd,Qd,VJ,Kn,Jq,Nat.reduceAdd,QL,Qw,allLive,J4,Qd,VJ,Kn,Jq,Nat.reduceAdd,QL,Qw,allLive,J4,hcpl,hcbl];have hS6:=((hS4.put (i:=3) rfl ⟨[.str c.verb, .int .i64 c.line, .int .i64 c.col,Zi (.slice (.own kh) 0 q0.length ch),Zi bv],0⟩).put (i:=5) rfl ⟨[.str c.verb, .int .i64 c.line, .int .i64 c.col,Zi (.slice (.own kh) 0 q0.length ch),Zi bv],0⟩).pick [0,1,2,4] (by decide) (by simp);exact⟨_,Vh _,hdd,c.done,j,ov2,one ko ⟨(O0.map strC).flatten,0⟩,E2,Zi (.slice (.own kh) 0 q0.length ch),Zi bv,StR.ok (by omega) (by rw[hfo];exact hR) hb1,hij,rfl,ph_clip hpF,bd_clip hbF,⟨hv,hov2,by rw[hove];rfl,hjl⟩,hS6⟩
theorem k_stm(wz:World)(hm:MaxL wz)(ha:Asp wz)(l:List TokC)(hl:l.length<=65537)(hsh:Short l)(dd:Nat)(hdd:dd<=33)(hd0:0<dd)(hli:dd<=32->qli wz l (dd+1)):StmK wz l dd:=
 k_stmA wz l hl dd hdd fun hd32 H B kp ks k4 v ov pv bv op pp tp bp E O i hI hF hO hvi=>by
  have hfair:=qji (l.getD i noT).text;refine k_stmB wz hm ha l hl hsh dd hd32 hd0 (k_body wz hm ha l hl hsh dd hd32 hd0 (hli hd32)) B kp ks k4 qdp v (O++[(XE (l.getD i noT).text).2]) O _ _ i _ _ (hF.snoc _) (by rw[Jc,JA];exact hO) (by rw[List.getLastD_eq_getLast?,List.getLast?_concat];rfl) hfair.1.1 hfair.1.2 (fun f hf=>StR.bad (by omega) hf) ov pv bv op pp tp bp E H hI fun H ov pv bv op pp tp bp E c cl j hI hij hR=>?_;exact k_stmC wz hm ha l hl hsh dd hd32 B kp ks k4 v O _ _ i hF hO hvi rfl H ov pv bv op pp tp bp E c cl j hI hij hR
theorem k_all(wz:World)(hm:MaxL wz)(ha:Asp wz)(l:List TokC)(hl:l.length<=65537)(hsh:Short l):∀n dd:Nat,dd+n=33->0<dd->qli wz l dd
 |0,dd,hn,h0=>k_list wz hm l hl hsh dd (by omega) (k_stm wz hm ha l hl hsh dd (by omega) h0 fun h=>by omega)
 |n+1,dd,hn,h0=>k_list wz hm l hl hsh dd (by omega) (k_stm wz hm ha l hl hsh dd (by omega) h0 fun _=>k_all wz hm ha l hl hsh n (dd+1) (by omega) (by omega))
theorem c_list(wz:World)(hm:MaxL wz)(ha:Asp wz)(l:List TokC)(hl:l.length<=65537)(hsh:Short l):qli wz l 1:=k_all wz hm ha l hl hsh 32 1 (by omega) (by omega)
end Go.Proofs.YtgiadjbiimkbiaaGreatDoor
namespace Go.AM
section
variable {P:Program}
theorem Leaves.mono{fn:Func}{tmps:Array Value}{R R':Ending->World->Prop}(hr:∀e w,R e w->R' e w):∀{ds:List Deferred} {u:FrameMode} {w:World},Leaves P fn tmps R ds u w->Leaves P fn tmps R' ds u w
 |[], .returning,w,⟨v,h1,h2⟩=>⟨v,h1,hr _ _ h2⟩
 |[], .panicking ch,w,h=>hr _ _ h
 |[], .run,w,h=>h
 |d::ds,u,w,⟨hu,fv,cap,f,args,h1,h2,h3⟩=>⟨hu,fv,cap,f,args,h1,h2,h3.mono fun e u' w' q=>by
   cases e with
   |returned v=>exact Leaves.mono hr q
   |panicked ch=>exact Leaves.mono hr q
   |outgrown=>exact hr _ _ q⟩
theorem qjC{fn:Func}{R R':Ending->World->Prop}(hr:∀e w,R e w->R' e w){e:Exit}{a:Act}{w:World}(h:bodyPostD P fn R e a w):bodyPostD P fn R' e a w:=by
 cases e<;>simp only[bodyPostD]at h|- <;>first
  |exact h.elim
  |exact Leaves.mono hr h
  |exact hr _ _ h
end
def RetR(wz:World)(R:AVal->AHeap->Prop)(Ps:PMap):Ending->World->Prop:=fun e w'=>∃v,e= .returned v/\∃χ x h',Ps.le χ/\HRel wz χ h' w'/\VR χ x v/\R x h'
theorem RetR.up{wz:World}{R:AVal->AHeap->Prop}{fi Ps:PMap}(hl:fi.le Ps){e:Ending}{w:World}(h:RetR wz R Ps e w):RetR wz R fi e w:=by
 obtain⟨v,h1,χ,x,h',h2,h3⟩:=h;exact⟨v,h1,χ,x,h',Vb hl h2,h3⟩
def GC(P:Program)(wz:World)(fn:Func)(R:AVal->AHeap->Prop):Exit->PMap->Act->World->Prop:=fun e Ps a w=>bodyPostD P fn (RetR wz R Ps) e a w
theorem qpH{P:Program}{wz:World}{f:FuncId}{args:List AVal}{h:AHeap}{R:AVal->AHeap->Prop}{fn:Func}{c:Code}{rs:List ResultVar}{k:Nat}(hf:P.funcs[f]?=some fn)
 (hname:(fn.name== "runtime.NumGoroutine")=false) (hb:fn.body=some c) (hn:fn.ntmps=k) (hrs:fn.results=rs.toArray) (hargs:args.length<=k)
 (hc:Awp P wz ⟨k,[],GC P wz fn R⟩ c (fun _ _ _=>False) (Qm 0 args) h):ACall P wz f args h R:=by
 intro fi vals w hr hv;refine .inl ⟨fn,hf,hname,by rw[hb];rfl,?_⟩;have hl:=XF hv;refine calls_of_wp_defers hf hb (wp_mono (hc fi _ w hr ⟨?_,rfl,fun i=>?_⟩) fun e a' w' q=>?_)
 ·simp[hn]
  omega
 ·have:=(qav fi args vals 0 i hv).2 undef (Jr i)
  by_cases hi:i<vals.length
  ·have e:(vals.toArray++Jv (fn.ntmps-vals.toArray.size) undef).getD i undef=vals.getD i undef:=by
    simp[Ku,Jw,hi,Ko]
   rw[e];simpa using this
  ·have e:(vals.toArray++Jv (fn.ntmps-vals.toArray.size) undef).getD i undef=undef:=by
    simp[Ku,Jw,hi,Array.getElem?_replicate];split<;>simp
   rw[e];have e2:vals.getD (i-0) undef=undef:=by simp[Ko,Kr (Kt hi)]
   rw[e2]at this;exact this
 ·rcases q with⟨_,_,_,_,_,_,q⟩|⟨_,Ps,hl1,q⟩
  ·exact q.elim
  ·exact qjC (fun e w q=>q.up hl1) q
def dOf(f:FuncId)(vs:List Value):Deferred:={target:= .fn (.func f) vs.toArray,args:= #[]}
def retQ(P1:Slots->AHeap->Prop):Exit->Slots->AHeap->Prop
 | .ret,s,h=>P1 s h
 |_,_,_=>False
theorem qpv{P:Program}{wz:World}{k id:Nat}{l pre:List Oper}{x:Operand}{ts:Array TypeId}{ty:TypeId}{pos:String}{af:Array Edge}{rest:Code}{s s₀:Slots}{h:AHeap}{fn:Func}{R Rp:AVal->AHeap->Prop}{P1:Slots->AHeap->Prop}{f:FuncId}{cap:List AVal}
 (hl:l=pre++[⟨none, .defer ⟨.value x,#[],ts⟩,ty,pos,af,none⟩]) (hd:QD k l=true)
 (hc:QA P wz l pre s h (fun s' h'=>ev s' x= .func f cap/\∀d,Awp P wz ⟨k,[d],GP wz k [d] s₀ Rp⟩ rest (retQ P1) s' h'))
 (hret:∀(Ps:PMap) (vs:List Value) (s':Slots) (h':AHeap) (a:Act) (w:World) (G:Exit->PMap->Act->World->Prop),VRs Ps cap vs->HRel wz Ps h' w->SRel Ps ⟨k,[dOf f vs],G⟩ s' a->P1 s' h'->Leaves P fn a.tmps (RetR wz R Ps) [dOf f vs] .returning w)
 (hpan:∀(Ps:PMap) (vs:List Value) (v:Value) (y:AVal) (h':AHeap) (a:Act) (w:World) (G:Exit->PMap->Act->World->Prop),VRs Ps cap vs->HRel wz Ps h' w->VR Ps y v->Rp y h'->SRel Ps ⟨k,[dOf f vs],G⟩ s₀ a->Leaves P fn a.tmps (RetR wz R Ps) [dOf f vs] (.panicking [{v,recovered:=false}]) w):
 Awp P wz ⟨k,[],GC P wz fn R⟩ (.seq (.region id l.toArray false) rest) (fun _ _ _=>False) s h:=by
 have hdp:QD k pre=true:=by
  have:∀(p q:List Oper),QD k (p++q)=true->QD k p=true:=by
   intro p q hp;induction p with
   |nil=>rfl
   |cons o p ih=>
    simp only[Kh,QD,Ky]at hp|-
    exact⟨hp.1,ih hp.2⟩
  exact this pre _ (hl ▸ hd)
 intro fi a w hr hs;refine wp_seq (wp_region ?_);rw[KD,BI];have hlen:l.length=pre.length+1:=by rw[hl];simp
 rw[hlen,List.range'_concat];refine qcA (P:=P) (wz:=wz) l ⟨k,[],GC P wz fn R⟩ _ hd pre 0 fi s h a w _ _ (fun j hj=>by rw[hl,Jq,BJ hj]) hdp hc hr hs ?_;intro Ps s' h' a' w' hle hr' hs' ⟨em,hk⟩;have hat:l.toArray[0+1*pre.length]?=some ⟨none, .defer ⟨.value x,#[],ts⟩,ty,pos,af,none⟩:=by
  rw[Jq,Nat.one_mul,hl];simp
 simp only[wpOps,hat];rw[if_pos (by simp[Region.wanted])];refine .inl ?_;have hvx:=hs'.ev x;rw[em]at hvx;simp only[VR]at hvx;obtain⟨vs,hfe,hcap⟩:=hvx;have hx:(execOp a'.eval ⟨none, .defer ⟨.value x,#[],ts⟩,ty,pos,af,none⟩).run P w'= .ok (.defer (dOf f vs)) w':=by
  simp[execOp,resolve,hfe,Deferred.ofValue,dOf]
 simp only[Oper.wp,hx,Oper.upon_defer,Act.put,Exit.then];refine wp_mono (hk (dOf f vs) Ps _ w' hr' ⟨hs'.size,by rw[hs'.defers],hs'.val⟩) fun e a'' w'' q=>?_;rcases q with⟨χ,s'',h'',e1,e2,e3,e4⟩|⟨ha,χ,e1,q⟩
 ·cases e<;>simp only[retQ]at e4<;>first
   |exact e4.elim
   |skip
  refine .inr ⟨trivial,χ,Vb hle e1,?_⟩;have:=hret χ vs s'' h'' a'' w'' _ (qaa e1 _ _ hcap) e2 e3 e4;simp only[GC,bodyPostD];rw[e3.defers];exact this
 ·obtain⟨v,rfl,χ2,y,h2,g1,g2,g3,g4,g5⟩:=q
  refine .inr ⟨trivial,χ,Vb hle e1,?_⟩;have:=hpan χ2 vs v y h2 a'' w'' (fun _ _ _ _=>False) (qaa (Vb e1 g1) _ _ hcap) g2 g3 g4 g5;simp only[GC,bodyPostD];rw[g5.defers];exact Leaves.mono (fun e w q=>q.up g1) this
section
variable {P:Program} {wz:World} {n:FrameK} {s:Slots} {h:AHeap} {Q:Exit->Slots->AHeap->Prop}
theorem awp_ta{id d:Nat}{l pre post:List Oper}{x:Operand}{t ti:TypeId}{ty:TypeId}{pos:String}{af:Array Edge}
 (hl:l=pre++⟨some d, .typeAssert x t ti true,ty,pos,af,none⟩::post) (hd:QD n l=true) (hta:∀(y:Value) (w:World),(Instr.typeAssert (.iface ti y) t ti true).run P w= .ok (.tuple #[y, .bool true]) w)
 (hc:QA P wz l pre s h (fun s' h'=>∃y,ev s' x= .iface ti y/\QA P wz l post (putD s' (some d) (.tuple [y, .bool true])) h' (fun s'' h''=>Q .normal s'' h''))):
 Awp P wz n (.region id l.toArray false) Q s h:=by
 have happ:∀(p q:List Oper),QD n (p++q)=true->QD n p=true/\QD n q=true:=by
  intro p q hp;induction p with
  |nil=>exact⟨rfl,hp⟩
  |cons o p ih=>
   simp only[Kh,QD,Ky]at hp|-
   exact⟨⟨hp.1,(ih hp.2).1⟩,(ih hp.2).2⟩
 have h1:=happ pre _ (hl ▸ hd);have hdx:d<n.sz/\QD n post=true:=by
  have:=h1.2;simp only[QD,Ky,decide_eq_true_eq]at this;exact this
 intro fi a w hr hs;refine wp_region ?_;rw[KD,BI];have hlen:l.length=pre.length+(post.length+1):=by rw[hl];simp
 rw[hlen,<-List.range'_append_1];refine qcA (P:=P) (wz:=wz) l n _ hd pre 0 fi s h a w _ _ (fun j hj=>by rw[hl,Jq,BJ hj]) h1.1 hc hr hs ?_;intro Ps s' h' a' w' hle hr' hs' ⟨y,hy,hk⟩;have hat:l.toArray[0+pre.length]?=some ⟨some d, .typeAssert x t ti true,ty,pos,af,none⟩:=by
  rw[Jq,hl];simp
 rw[List.range'_succ];simp only[wpOps,hat];rw[if_pos (by simp[Region.wanted])];refine .inl ?_;have hyv:=hs'.ev x;rw[hy]at hyv;simp only[VR]at hyv;obtain⟨yv,hye,hyy⟩:=hyv;have hx:(execOp a'.eval ⟨some d, .typeAssert x t ti true,ty,pos,af,none⟩).run P w'= .ok (.value (.tuple #[yv, .bool true])) w':=by
  simp[execOp,hye,hta]
 simp only[Oper.wp,hx,Oper.upon_value];have hs2:=hs'.put d hdx.1 (x:= .tuple [y, .bool true]) (v:= .tuple #[yv, .bool true]) (by simp only[VR,VRs];exact⟨_,rfl,_,_,rfl,hyy,_,_,rfl,rfl,rfl⟩);have:=qcA (P:=P) (wz:=wz) l n [] hd post (0+pre.length+1) Ps _ h' _ w' _ (AQ wz n fi Q) (fun j hj=>by
  rw[hl,Jq,List.getElem?_append_right (by omega),show pre.length+1+j-pre.length=j+1 by omega];rfl) hdx.2 hk hr' hs2 (fun χ s'' h'' a'' w'' e1 e2 e3 e4=> .inl ⟨χ,s'',h'',Vb hle e1,e2,e3,e4⟩)
 rwa [Jz]at this
theorem qcb{ops:List Oper}{i:Nat}{o:Oper}{fi:PMap}{a:Act}{w:World}{Q:Exit->Act->World->Prop}{K:Act->World->Prop}(ho:ops[i]?=some o)(hg:o.guard=none)(hd:(match o.dst with|some d=>decide (d<n.sz)|none=>true)=true)
 (hp:(pop P wz h s o.op).pre) (hr:HRel wz fi h w) (hs:SRel fi n s a) (hK:∀a',SRel fi n (putD s o.dst (pop P wz h s o.op).val) a'->K a' w):wpOp P ops.toArray Q i K a w:=by
 obtain⟨r,h1,h2⟩:=qgK o hp hr hs;have hx:=h1 w (Same.refl w);have ho':ops.toArray[i]?=some o:=by simpa using ho
 unfold wpOp;simp only[ho'];rw[if_pos (by simp[Region.wanted,hg])];refine .inl ?_;unfold Oper.wp;rw[hx,Oper.upon_value];exact hK _ (hs.putD hd h2)
end
end Go.AM
namespace Go.Proofs.YtgiadjbiimkbiaaGreatDoor
open Go.AM
open Go.Proofs
open Go.Col (Str FaultC okF)
open Go.Tok (TokC)
open Go.Stm
open Go.RowKit (Below)
set_option maxRecDepth 100000
theorem qpk(p q:Addr)(w:World):CallsD Tryz.prog 28 #[.pointer (some p), .pointer (some q)] .returning w fun e u' w'=>e= .returned (.tuple #[])/\u'= .returning/\w'=w:=by
 refine callsD_of_wpS Tryz.func28 rfl fun c₀ cs hu=>?_;apply wpS_seq;apply wpS_region;simp[wpOpsS,go_sem,recoverD,hu,Tryz.ntmps28,Exit.thenS];apply wpS_seq;apply wpS_region;simp[wpOpsS,go_sem,Exit.thenS];refine wpS_cond (t:=false) (by simp[Act.eval,Jv]) ?_;simp only[Bool.false_eq_true,if_false];refine wpS_of_wp (wp_skip ?_);cases c₀
 simp_all [bodyPostS,results,Tryz.results28]
def ClosR(B:AHeap)(k2 k3:Nat)(f:FaultC):AVal->AHeap->Prop:=fun r h'=>r= .tuple []/\h' k2=some ⟨[.nilSlice],0⟩/\h' k3=some ⟨[.int .i64 f.e, .int .i64 f.line, .int .i64 f.col],0⟩/\Sub B h'
theorem l_clos(wz:World)(H B:AHeap)(k2 k3:Nat)(hB:Sub B H)(hB2:B k2=none)(hB3:B k3=none)(b2 b3:AVal)(y1 y2 y3:AVal)(f:FaultC)(eb_2:H k2=some ⟨[b2],0⟩)(eb_3:H k3=some ⟨[y1,y2,y3],0⟩)(ne_2_3:k2≠k3):
 Awp Tryz.prog wz 11 (Wn 1 (qbZ Tryz.f28)) (qcf Tryz.prog wz [] (ClosR B k2 k3 f)) [(0, .ptr (.own k2) 0),(1, .ptr (.own k3) 0),(2, .iface 48 (faultV f))] (H):=by
 have hs_H:Sub H H:=Vh _;change Awp _ _ _ (Code.seq _ _) _ _ _;refine awp_rseq [0,1,2,5] (by rfl) fun K hK=>?_;simp+decide only[qa,ev,qK,qG,putD,VG,VH,VI,Ka,Kb,↓qg,qd,↓qo,qh,qpa,cond_true,qoJ Tryz.underlying20,faultV];apply hK;clear hK K;refine qM (b:=_) rfl (fun hb1=>?_) (fun hb1=>?_)
 ·try simp only at hb1
  refine awp_rseq [1,2] (by rfl) fun K hK=>?_;refine Qi (by rfl) (by rfl) zqA qtt (by rfl) (by rfl) zqD (Jr _) (by rfl) ?_;simp only[VY];simp+decide only[qa,ev,qK,qG,putD,VI,Ka,setAt,VZ];apply hK;clear hK K;refine awp_ta (qgo (i:=1) (by rfl)) (by rfl) (fun y w=>?_) ?_
  ·simp[Instr.typeAssert,Qa Tryz.underlying48]
  simp only[Ki,V4,Vw,Vm];simp+decide only[qa,ev,putD,VG,VH,Ka,↓qg,qd,↓Xu,Xk,Kb];refine⟨_,rfl,?_⟩;refine⟨(by show(0:Nat)<2;decide),(by show(1:Nat)<2;decide),?_⟩;refine Qi (v:= .agg [.int .i64 f.e, .int .i64 f.line, .int .i64 f.col]) (by rfl) (by rfl) ((Vf _ _ ne_2_3.symm).trans eb_3) qdv (by rfl) (by rfl) (by simp only[KY,JN];omega) (Jr _) (by rfl) ?_;simp only[VY,setAt,VZ,Kj,Jq,Nat.reduceAdd];rw[qa];exact⟨qO,_,Vh _,rfl,(Vf _ _ ne_2_3).trans (Vg _ _ _),Vg _ _ _,(hB.off hB2 _).off hB3 _⟩
 ·cases hb1
theorem qsO(wz:World)(fi:PMap)(w:World)(H B:AHeap)(k2 k3:Nat)(hB:Sub B H)(hB2:B k2=none)(hB3:B k3=none)(b2 b3:AVal)(y1 y2 y3:AVal)(f:FaultC)(p2 p3 vf:Value)(eb_2:H k2=some ⟨[b2],0⟩)(eb_3:H k3=some ⟨[y1,y2,y3],0⟩)(ne_2_3:k2≠k3)(hr:HRel wz fi H w)
 (h2:VR fi (.ptr (.own k2) 0) p2) (h3:VR fi (.ptr (.own k3) 0) p3) (hf:VR fi (.iface 48 (faultV f)) vf):
 CallsD Tryz.prog 28 #[p2,p3] (.panicking [{v:=vf,recovered:=false}]) w fun e u' w'=>∃r,e= .returned r/\u'= .panicking [{v:=vf,recovered:=true}]/\∃Ps h',fi.le Ps/\HRel wz Ps h' w'/\h' k2=some ⟨[.nilSlice],0⟩/\h' k3=some ⟨[.int .i64 f.e, .int .i64 f.line, .int .i64 f.col],0⟩/\Sub B h':=by
 refine callsD_of_wpS Tryz.func28 rfl fun c₀ cs hu=>?_;apply wpS_seq;apply wpS_region;simp[wpOpsS,go_sem,recoverD,hu,Tryz.ntmps28,Exit.thenS];have hl:=l_clos wz H B k2 k3 hB hB2 hB3 b2 b3 y1 y2 y3 f eb_2 eb_3 ne_2_3 fi;refine wpS_of_wp (wp_mono (hl _ w hr ⟨?_,?_,fun i=>?_⟩) fun e a' w' q=>?_)
 ·simp;rfl
 ·rfl
 ·match i with
  |0=>exact h2
  |1=>exact h3
  |2=>exact hf
  |i+3=>
   have:VH [(0,AVal.ptr (.own k2) 0),(1, .ptr (.own k3) 0),(2, .iface 48 (faultV f))] (i+3)= .dead:=by simp[VH]
   rw[this];simp[VR]
 ·rcases q with⟨Ps,s',h',e1,e2,e3,e4⟩|⟨_,_,_,q⟩
  ·cases e<;>simp only[qcf]at e4<;>first
    |exact e4.elim
    |skip
   all_goals
    obtain⟨hp,h'',hsub,-,g2,g3,g4⟩:=e4;simp only[bodyPostS];refine⟨e3.defers, .panicking [{v:=vf,recovered:=true}],rfl, .tuple #[],?_,⟨_,rfl⟩,rfl,Ps,e1,h'',e2.forget hsub,g2,g3,g4⟩;simp[results,Tryz.results28]
  ·exact q.elim
end Go.Proofs.YtgiadjbiimkbiaaGreatDoor
namespace Go.AM
theorem flat_nil{es:Nat}(hes:es≠0){xs:List (List AVal)}(hw:∀x∈xs,x.length=es)(h:xs.flatten=[]):xs=[]:=by
 have:=XT hw;rw[h,JN]at this;rcases Nat.mul_eq_zero.1 this.symm with e|e
 ·exact Kg e
 ·exact absurd e hes
section
variable {P:Program} {wz:World} {ops rest:List Oper} {s:Slots} {H:AHeap} {K:Slots->AHeap->Prop} {dst:Option Tmp} {ty:TypeId} {pos:String} {af:Array Edge} {ts:Array TypeId} {t u e:TypeId} {d:TypeDesc} {x y:Operand} {v v':AVal} {p:AHeap} {es by' i:Nat} {z:Value} {xs ys:List (List AVal)} {ps:List AHeap}
theorem Zj(h0:ts[0]?=some t)(h1:ts[1]?=some u)(ht:P.underlying t=some (.slice e))(hu:P.underlying u=some d)(hd:∀k,d≠ .int k)
 (hs:ZH P e=some es) (hb:qdO P e=some by') (hz:Ua P e=some z) (hzs:z.cells.size=es) (hes:es≠0)
 (hx:ev s x=v) (hg:GrowV es v p xs) (hG:isG v=true) (hi:ps[i]?=some p) (hS:Sep ps H) (hy:ev s y=v') (hv':IsL wz H es v' ys) (hsc:QU ys.flatten=true)
 (hl:(xs.length+ys.length)*by'<=140737488355328) (hl':xs.length+ys.length<4611686018427387904)
 (hkk:∀u p' H',GrowV es u p' (xs++ys)->isG u=true->Sep (ps.set i p') H'->QA P wz ops rest (putD s dst u) H' K):
 QA P wz ops (⟨dst, .call ⟨.builtin .append,[x,y].toArray,ts⟩,ty,pos,af,none⟩::rest) s H K:=by
 have hw:∀x∈xs++ys,x.length=es:=fun x hx=>by
  rcases JR.1 hx with h|h
  ·exact hg.wide x h
  ·exact hv'.wide x h
 have hal:allLive (xs++ys).flatten=true:=by rw[Vt,Ya,(hg.isL (wz:=wz) (hS.in_ hi)).allLive,hv'.allLive];rfl
 have fin:∀(H0:AHeap) (b':Option Buf) (h':AHeap),(∀j q,j≠i->ps[j]?=some q->Sub q H0)->qhS H0 es b'->qhY b'=(xs++ys).flatten->Sub (qeI H0 b') h'->QA P wz ops rest (putD s dst (qeH es b')) h' K:=by
  intro H0 b' h' hq o1 o2 o3;cases b' with
  |none=>
   have e0:xs++ys=[]:=flat_nil hes hw o2.symm;refine hkk _ emp h' (.inl ⟨rfl,rfl,e0⟩) rfl (hS.turn (fun j c hj=>by cases hj) fun j q hj hjq=>⟨(hq j q hj hjq).trans o3,(qnC q).symm⟩)
  |some b=>
   obtain⟨kb,cells⟩:=b;obtain⟨n1,n2,n3⟩:=o1;have hcl:cells=(xs++ys).flatten:=o2;subst hcl;have hlen2:(xs++ys).flatten.length / es=(xs++ys).length:=by rw[XT hw,Vl _ (Vk hes)]
   simp only[qeH,hlen2];refine hkk _ (one kb ⟨(xs++ys).flatten,0⟩) h' (BD rfl (.inr rfl) hw hal rfl) rfl (hS.turn (fun j c hj=>by obtain⟨rfl,rfl⟩:=qiY hj;exact o3 _ _ (Vg _ _ _)) fun j q hj hjq=>?_);have hsub:=hq j q hj hjq;have hqn:q kb=none:=hsub.none n1;refine⟨(Ba (hsub.off hqn ⟨(xs++ys).flatten,0⟩) o3),fun x=>?_⟩;by_cases ex:x=kb
   ·subst ex;exact .inr hqn
   ·exact .inl (qiZ _ ex)
 rcases hg with⟨rfl,rfl,rfl⟩|⟨k,c,rfl,hc,rfl,hw1,hl1⟩
 ·refine qbc (zs:=[]) (H0:=H) (b:=none) h0 h1 ht hu hd hs hb hz hzs hes (by rw[hx];rfl) trivial rfl (fun x hx=>by cases hx) (Vh _) hy hv' hsc (by simpa using hl) (by simpa using hl') fun b' h' o1 o2 o3=>?_
  exact fin H b' h' (fun j q _ hq=>hS.in_ hq) o1 (by simpa using o2) o3
 ·have hcg:c= .grow es:=by
   rcases hc with rfl|rfl
   ·cases hG
   ·rfl
  subst hcg;have hk:=hS.at_ hi;have hlen:xs.flatten.length / es=xs.length:=by rw[XT hw1,Vl _ (Vk hes)]
  refine qbc (zs:=xs) (H0:=H.del k) (b:=some ⟨k,xs.flatten⟩) h0 h1 ht hu hd hs hb hz hzs hes (by rw[hx];simp only[qeH,hlen]) ⟨by simp[Bi],by simp only;rw[XT hw1];exact Nat.mul_mod_left _ _,hl1⟩ rfl hw1 ?_ hy hv' hsc hl hl' fun b' h' o1 o2 o3=>?_
  ·intro j d hj
   by_cases e:j=k
   ·subst e
    rw[show qeI (H.del j) (some ⟨j,xs.flatten⟩)=(H.del j).set j ⟨xs.flatten,0⟩from rfl,Vg]at hj;rw[<-hj];exact hk
   ·rw[show qeI (H.del k) (some ⟨k,xs.flatten⟩)=(H.del k).set k ⟨xs.flatten,0⟩from rfl,Vf _ _ e]at hj
    simpa[Bi,e]using hj
  ·refine fin (H.del k) b' h' (fun j q hj hq=>?_) o1 o2 o3
   have hqk:=hS.not hi hq (fun e=>hj e.symm);intro a b hab;have:a≠k:=fun e=>by subst e;rw[hqk]at hab;cases hab
   simpa[Bi,this]using hS.in_ hq _ _ hab
end
section
variable {P:Program} {wz:World} {s:Slots} {h:AHeap}
theorem qol{n:FrameK}{ops:List Oper}{i:Nat}{dst:Option Tmp}{fo:Operand}{args:Array Operand}{ts:Array TypeId}{ty:TypeId}{pos:String}{af:Array Edge}{fi:PMap}{a:Act}{w:World}{Q:Exit->Act->World->Prop}{K:Act->World->Prop}{R Rp:AVal->AHeap->Prop}{f:FuncId}{cap:List AVal}
 (hd:(match dst with|some d=>decide (d<n.sz)|none=>true)=true) (ho:ops[i]?=some ⟨dst, .call ⟨.value fo,args,ts⟩,ty,pos,af,none⟩) (hf:ev s fo= .func f cap) (hcall:ACallE P wz f (evs s args.toList++cap) h R Rp) (hr:HRel wz fi h w) (hs:SRel fi n s a)
 (hk:∀(Ps:PMap) (x:AVal) (h':AHeap) (a':Act) (w':World),fi.le Ps->HRel wz Ps h' w'->SRel Ps n (putD s dst x) a'->R x h'->K a' w')
 (hq:∀(Ps:PMap) (v:Value) (x:AVal) (h':AHeap) (w':World),fi.le Ps->HRel wz Ps h' w'->VR Ps x v->Rp x h'->Q (.panic [{v,recovered:=false}]) a w'):wpOp P ops.toArray Q i K a w:=by
 have hv:=hs.evs args.toList;have hfv:=hs.ev fo;rw[hf]at hfv;simp only[VR]at hfv;obtain⟨vs,hfe,hcap⟩:=hfv;obtain⟨fn,g1,g2,g3,g4⟩:=hcall fi (args.toList.map a.eval++vs) w hr (qao hv hcap);have hx:(execOp a.eval ⟨dst, .call ⟨.value fo,args,ts⟩,ty,pos,af,none⟩).run P w= .ok (.enter f (args.toList.map a.eval++vs).toArray) w:=by
  have hb:¬fn.body=none:=fun e=>by rw[e]at g3;cases g3
  have hn':¬fn.name= "runtime.NumGoroutine":=by simpa using g2
  have ea:args.map a.eval=(args.toList.map a.eval).toArray:=map_toArray _ _;simp only[execOp,resolve,hfe,Deferred.ofValue,Sem.run_bind,Sem.run_pure,Result.andThen_ok,invoke];rw[ea];simp[callFunc,g1,hn',hb]
 have ho':ops.toArray[i]?=some ⟨dst, .call ⟨.value fo,args,ts⟩,ty,pos,af,none⟩:=by simpa using ho
 unfold wpOp;simp only[ho'];rw[if_pos (by simp[Region.wanted])];refine .inl ?_;unfold Oper.wp;rw[hx,Oper.upon_enter];refine g4.mono fun e w' q=>?_;rcases q with⟨v,rfl,Ps,x,h'',q1,q2,q3,q4⟩|⟨v,rfl,Ps,x,h'',q1,q2,q3,q4⟩
 ·exact hk Ps x h'' _ w' q1 q2 ((hs.mono q1).putD hd q3) q4
 ·exact hq Ps v x h'' w' q1 q2 q3 q4
theorem qpA{k:Nat}{ds:List Deferred}{s₀:Slots}{R Rp:AVal->AHeap->Prop}{id:Nat}{l:List Oper}{o0 o1 o3 o4:Oper}{dst:Option Tmp}{fo:Operand}{args:Array Operand}{ts:Array TypeId}{ty:TypeId}{pos:String}{af:Array Edge}{Q:Exit->Slots->AHeap->Prop}{v0 v1:AVal}
 (hm:P.follows .mixedOrders=true) (hl:l=[o0,o1,⟨dst, .call ⟨.value fo,args,ts⟩,ty,pos,af,none⟩,o3,o4]) (hg0:o0.guard=none) (hg1:o1.guard=none) (hd:QD k l=true)
 (hr0:Region.ready .any l.toArray #[false,false,false,false,false]=[0,1]) (hr1:Region.ready .any l.toArray #[true,false,false,false,false]=[1]) (hr2:Region.ready .any l.toArray #[false,true,false,false,false]=[0,2]) (hr3:Region.ready .any l.toArray #[true,true,false,false,false]=[2])
 (hr4:Region.ready .any l.toArray #[true,true,true,false,false]=[3]) (hr5:Region.ready .any l.toArray #[false,true,true,false,false]=[0]) (hr6:Region.ready .any l.toArray #[true,true,true,true,false]=[4]) (hr7:Region.ready .any l.toArray #[true,true,true,true,true]=[])
 (hp0:∀s' h',(h'=h\/∃x,R x h')->(s'=s\/s'=putD s o1.dst v1\/∃x,s'=putD (putD s o1.dst v1) dst x)->(pop P wz h' s' o0.op).pre/\(pop P wz h' s' o0.op).val=v0)
 (hp1:∀s',(s'=s\/s'=putD s o0.dst v0)->(pop P wz h s' o1.op).pre/\(pop P wz h s' o1.op).val=v1)
 (hA:∀s',s'=putD s o1.dst v1\/s'=putD (putD s o0.dst v0) o1.dst v1\/s'=putD (putD s o1.dst v1) o0.dst v0->
   (∃f cap,ev s' fo= .func f cap/\ACallE P wz f (evs s' args.toList++cap) h R Rp)/\∀i,s₀.get i=s'.get i\/s₀.get i= .dead)
 (hK:∀s' x h',R x h'->s'=putD (putD (putD s o0.dst v0) o1.dst v1) dst x\/s'=putD (putD (putD s o1.dst v1) o0.dst v0) dst x\/s'=putD (putD (putD s o1.dst v1) dst x) o0.dst v0->QA P wz l [o3,o4] s' h' (fun s'' h''=>Q .normal s'' h'')):
 Awp P wz ⟨k,ds,GP wz k ds s₀ Rp⟩ (.region id l.toArray true) Q s h:=by
 intro fi a w hr hs;refine wp_region_any hm ?_;have hlen:l.length=5:=by rw[hl];rfl
 have ho0:l[0]?=some o0:=by rw[hl];rfl
 have ho1:l[1]?=some o1:=by rw[hl];rfl
 have ho2:l[2]?=some ⟨dst, .call ⟨.value fo,args,ts⟩,ty,pos,af,none⟩:=by rw[hl];rfl
 have hsz:l.toArray.size=5:=by simpa using hlen
 have hds:=hd;rw[hl]at hds;simp only[QD,Ky,J4]at hds;obtain⟨hd0,hd1,hd2,hd34⟩:=hds;rw[hsz];have hw:HRel wz fi h {w with drawn:=w.drawn+1}:=hr.drew;have tail:∀(Ps:PMap) (s':Slots) (h':AHeap) (a':Act) (w':World),fi.le Ps->HRel wz Ps h' w'->SRel Ps ⟨k,ds,GP wz k ds s₀ Rp⟩ s' a'->QA P wz l [o3,o4] s' h' (fun s'' h''=>Q .normal s'' h'')->
  wpAny P .any l.toArray (AQ wz ⟨k,ds,GP wz k ds s₀ Rp⟩ fi Q) 2 #[true,true,true,false,false] a' w':=by
  intro Ps s' h' a' w' hle hr' hs' hk;have:=qcA (P:=P) (wz:=wz) l ⟨k,ds,GP wz k ds s₀ Rp⟩ [] hd [o3,o4] 3 Ps s' h' a' w' _ (AQ wz ⟨k,ds,GP wz k ds s₀ Rp⟩ fi Q) (fun j hj=>by
   rw[hl];match j,hj with
   |0,_=>rfl
   |1,_=>rfl) (by simp only[QD,Ky,J4];exact hd34) hk hr' hs' (fun χ s'' h'' a'' w'' e1 e2 e3 e4=> .inl ⟨χ,s'',h'',Vb hle e1,e2,e3,e4⟩)
  rw[show List.range' 3 [o3,o4].length++[]=[3,4]from rfl,wpOps_cons]at this;refine⟨fun e=>(by rw[hr4]at e;cases e),fun i hi=>?_⟩;rw[hr4]at hi;rw[VM.1 hi];refine wpOp_mono (fun a2 w2 q=>?_) this;rw[wpOps_cons]at q;show wpAny P .any l.toArray _ 1 #[true,true,true,true,false] a2 w2
  refine⟨fun e=>(by rw[hr6]at e;cases e),fun i hi=>?_⟩;rw[hr6]at hi;rw[VM.1 hi];refine wpOp_mono (fun a3 w3 q=>?_) q;exact⟨hr7,q⟩
 have call:∀(s':Slots) (a':Act) (K:Act->World->Prop),SRel fi ⟨k,ds,GP wz k ds s₀ Rp⟩ s' a'->((∃f cap,ev s' fo= .func f cap/\ACallE P wz f (evs s' args.toList++cap) h R Rp)/\∀i,s₀.get i=s'.get i\/s₀.get i= .dead)->
  (∀(Ps:PMap) (x:AVal) (h':AHeap) (a2:Act) (w':World),fi.le Ps->HRel wz Ps h' w'->SRel Ps ⟨k,ds,GP wz k ds s₀ Rp⟩ (putD s' dst x) a2->R x h'->K a2 w')->
  wpOp P l.toArray (AQ wz ⟨k,ds,GP wz k ds s₀ Rp⟩ fi Q) 2 K a' {w with drawn:=w.drawn+1}:=by
  intro s' a' K hs' ⟨⟨f,cap,hf,hcall⟩,hs0⟩ hk;refine qol hd2 ho2 hf hcall hw hs' hk fun Ps v x h' w' q1 q2 q3 q4=> .inr ⟨trivial,Ps,q1,v,rfl,Ps,x,h',Ps.le_refl,q2,q3,q4,⟨hs'.size,hs'.defers,fun i=>?_⟩⟩;rcases hs0 i with e|e
  ·rw[e];exact YG q1 _ _ (hs'.val i)
  ·rw[e];simp[VR]
 show wpAny P .any l.toArray _ 5 #[false,false,false,false,false] a _
 refine⟨fun e=>(by rw[hr0]at e;cases e),fun i hi=>?_⟩;rw[hr0]at hi;rcases KX.1 hi with rfl|hi
 ·obtain⟨p0,e0⟩:=hp0 s h (.inl rfl) (.inl rfl)
  refine qcb ho0 hg0 hd0 p0 hw hs fun a1 hs1=>?_;rw[e0]at hs1;show wpAny P .any l.toArray _ 4 #[true,false,false,false,false] a1 _
  refine⟨fun e=>(by rw[hr1]at e;cases e),fun i hi=>?_⟩;rw[hr1]at hi;rw[VM.1 hi];obtain⟨p1,e1⟩:=hp1 _ (.inr rfl);refine qcb ho1 hg1 hd1 p1 hw hs1 fun a2 hs2=>?_;rw[e1]at hs2;show wpAny P .any l.toArray _ 3 #[true,true,false,false,false] a2 _
  refine⟨fun e=>(by rw[hr3]at e;cases e),fun i hi=>?_⟩;rw[hr3]at hi;rw[VM.1 hi];refine call _ _ _ hs2 (hA _ (.inr (.inl rfl))) fun Ps x h' a3 w' q1 q2 q3 q4=>?_;exact tail Ps _ h' a3 w' q1 q2 q3 (hK _ x h' q4 (.inl rfl))
 ·rw[VM.1 hi]
  obtain⟨p1,e1⟩:=hp1 _ (.inl rfl);refine qcb ho1 hg1 hd1 p1 hw hs fun a1 hs1=>?_;rw[e1]at hs1;show wpAny P .any l.toArray _ 4 #[false,true,false,false,false] a1 _
  refine⟨fun e=>(by rw[hr2]at e;cases e),fun i hi=>?_⟩;rw[hr2]at hi;rcases KX.1 hi with rfl|hi
  ·obtain⟨p0,e0⟩:=hp0 _ h (.inl rfl) (.inr (.inl rfl))
   refine qcb ho0 hg0 hd0 p0 hw hs1 fun a2 hs2=>?_;rw[e0]at hs2;show wpAny P .any l.toArray _ 3 #[true,true,false,false,false] a2 _
   refine⟨fun e=>(by rw[hr3]at e;cases e),fun i hi=>?_⟩;rw[hr3]at hi;rw[VM.1 hi];refine call _ _ _ hs2 (hA _ (.inr (.inr rfl))) fun Ps x h' a3 w' q1 q2 q3 q4=>?_;exact tail Ps _ h' a3 w' q1 q2 q3 (hK _ x h' q4 (.inr (.inl rfl)))
  ·rw[VM.1 hi]
   refine call _ _ _ hs1 (hA _ (.inl rfl)) fun Ps x h' a3 w' q1 q2 q3 q4=>?_;show wpAny P .any l.toArray _ 3 #[false,true,true,false,false] a3 w'
   refine⟨fun e=>(by rw[hr5]at e;cases e),fun i hi=>?_⟩;rw[hr5]at hi;rw[VM.1 hi];obtain⟨p0,e0⟩:=hp0 _ h' (.inr ⟨x,q4⟩) (.inr (.inr ⟨x,rfl⟩));refine qcb ho0 hg0 hd0 p0 q2 q3 fun a4 hs4=>?_;rw[e0]at hs4;exact tail Ps _ h' a4 w' q1 q2 hs4 (hK _ x h' q4 (.inr (.inr rfl)))
end
end Go.AM
namespace Go.Proofs.YtgiadjbiimkbiaaGreatDoor
open Go.AM
open Go.Proofs
open Go.Col (Str FaultC okF)
open Go.Tok (TokC)
open Go.Stm
open Go.RowKit (Below)
set_option maxRecDepth 100000
def qrH(wz:World)(l:List TokC)(h:AHeap):AVal->AHeap->Prop:=fun r h'=>Sub h h'/\∃L j rv,ParseR QV l XE (.ok L j)/\r= .tuple [rv,faultV okF]/\StsV wz 32 h' rv L
def qpO(l:List TokC)(h:AHeap)(k2 k3:Nat):AVal->AHeap->Prop:=fun x h'=>Sub h h'/\∃f,ParseR QV l XE (.bad f)/\x= .iface 48 (faultV f)/\(∃b,h' k2=some ⟨[b],0⟩)/\∃y1 y2 y3,h' k3=some ⟨[y1,y2,y3],0⟩
structure PaG where
 i:Nat
 ov:AVal
 op:AHeap
 qs:List (StC×AVal×AVal)
 rv:AVal
 rp:AHeap
 E:AHeap
 H:AHeap
structure PaI(wz:World)(l:List TokC)(h:AHeap)(k2 k3 kp:Nat)(v:AVal)(g:PaG):Prop where
 sep:Sep [h,one k2 ⟨[g.rv],0⟩,one k3 ⟨[.int .i64 0, .int .i64 0, .int .i64 0],0⟩,one kp (parB3 v g.i g.ov),g.op,g.rp,g.E] g.H
 par:ParS wz l h v g.ov g.op [] g.i
 row:GrowV 5 g.rv g.rp (g.qs.map qbj)
 isG:isG g.rv=true
 els:∀q∈g.qs,PhV wz g.E q.2.1 q.1.phrases/\BdV wz (StsV wz 31 g.E) g.E q.2.2 q.1.bodies
 few:g.qs.length<=g.i
 go:∀r,SentR QV l XE g.i (g.qs.map (·.1)) r->SentR QV l XE 0 [] r
theorem qiA{qs:List (StC×AVal×AVal)}(h:∀q∈qs,q.2.1.scal=true/\q.2.2.scal=true):QU (qs.map qbj).flatten=true:=by
 induction qs with
 |nil=>rfl
 |cons q qs ih=>
  obtain⟨a,b⟩:=h q Jf;rw[Ke,Vu];show(true && (true && (true && (q.2.1.scal && (q.2.2.scal && QU (qs.map qbj).flatten)))))=true
  rw[a,b,ih fun x hx=>h x (Jg _ hx)];rfl
set_option maxHeartbeats 16000000 in
theorem l_parse(wz:World)(hm:MaxL wz)(ha:Asp wz)(l:List TokC)(hl:l.length<=1000000)(hsh:Short l)(h H:AHeap)(k2 k3:Nat)(v:AVal)(d:Deferred)(hv:IsL wz h 5 v (l.map Xy))(hS:Sep [h,one k2 ⟨[.nilSlice],0⟩,one k3 ⟨[.int .i64 0, .int .i64 0, .int .i64 0],0⟩] H):
 Awp Tryz.prog wz ⟨59,[d],GP wz 59 [d] [(2, .ptr (.own k2) 0),(3, .ptr (.own k3) 0)] (qpO l h k2 k3)⟩ (Wn 2 (qbZ Tryz.f12)) (retQ fun sX hX=>qcf Tryz.prog wz [.cell 2 45, .cell 3 48] (qrH wz l h) .ret sX hX) [(0,v),(2, .ptr (.own k2) 0),(3, .ptr (.own k3) 0)] (H):=by
 have eb_2:H k2=some _:=hS.at_ (i:=1) rfl;have eb_3:H k3=some _:=hS.at_ (i:=2) rfl;have ne_2_3:k2≠k3:=hS.ne (i:=1) (j:=2) rfl rfl (by decide);have hs_H:Sub h H:=hS.in_ (i:=0) rfl;have hlv:=hv.live;have nv:=Zt hv;have hbu:YV Tryz.prog 96 [(0,v)]=⟨True, .agg [v, .int .i64 0, .nilSlice]⟩:=by generalize l.map Xy=X at hv;cases hv<;>kernel_rfl
 change Awp _ _ _ (Code.seq _ _) _ _ _;refine awp_rseq [0,2,3,4] (by rfl) fun K hK=>?_;simp+decide only[ev,qK,qG,putD,VG,VH,Ka,Kb,↓qg,qd,↓Zo,↓Xz,evP,Ke,Vj,hbu];refine Ue (v:= .agg [v, .int .i64 0, .nilSlice]) (cs:=[v, .int .i64 0, .nilSlice]) (by rfl) (by simp+decide only[lv_agg]) (by rfl) fun k2q2 hk2q2=>?_;simp+decide only[qa,ev,putD,VG,VH,VI,Ka,Kb,↓qf,qc];apply hK;clear hK K;refine qF ?_;obtain⟨H3,hH3⟩:∃H3,H3=H.set k2q2 ⟨[v, .int .i64 0, .nilSlice],0⟩:=⟨_,rfl⟩
 refine Bq (h':=H3) (by rw[hH3];exact Vh _) ?_;have hS3:=hS.lay hk2q2 ⟨[v, .int .i64 0, .nilSlice],0⟩;rw[<-hH3]at hS3;simp only[Kh,Je]at hS3;have eb_2:H3 k2=some _:=hS3.at_ (i:=1) rfl;have eb_3:H3 k3=some _:=hS3.at_ (i:=2) rfl;have eb_2q2:H3 k2q2=some _:=hS3.at_ (i:=3) rfl;have ne_2_2q2:k2≠k2q2:=hS3.ne (i:=1) (j:=3) rfl rfl (by decide);have ne_3_2q2:k3≠k2q2:=hS3.ne (i:=2) (j:=3) rfl rfl (by decide);have hs_H3:Sub h H3:=hS3.in_ (i:=0) rfl;refine awp_rseq [0,2,3,4,11] (by rfl) fun K hK=>?_;simp+decide only[qa,ev,qK,qG,putD,VG,VH,VI,Ka,Kb,↓qg,qd,↓QB,Qo,↓qo,qh,qE,cond_false,qz,Yk,nv];apply hK;clear hK K;refine qM (b:=_) rfl (fun hb1=>?_) (fun hb1=>?_)
 ·try simp only[decide_eq_true_eq]at hb1
  refine Yd 1 (by rfl) (by rfl) ?_;simp only[Ki,V4];simp+decide only[qa,ev,putD,VG,VH,Ka,Kb,↓qg,qd];refine⟨⟨_,_,by rfl,?_⟩,fun i=>match i with|0=> .inr rfl|1=> .inr rfl|2=> .inl rfl|3=> .inl rfl|i+4=> .inr (by simp[])⟩;exact(qda wz _ h k2q2 v .nilSlice l 0 3 65536 eb_2q2 hs_H3 hv hl (by omega)).mono (fun _ _ q=>q) fun x h' ⟨q1,q2⟩=>⟨hs_H3.trans q2,_,ParseR.long (by omega),q1,⟨_,q2 _ _ eb_2⟩,_,_,_,q2 _ _ eb_3⟩
 ·try simp only[decide_eq_false_iff_not]at hb1
  have hl5:l.length<=65536:=by omega
  refine qV ?_;change Awp _ _ _ _ _ _ _;refine qF ?_;refine Qb ?_;refine QN [0,2,3,4] (fun g:PaG=>[(0,v),(2, .ptr (.own k2) 0),(3, .ptr (.own k3) 0),(4, .ptr (.own k2q2) 0)]) (fun g:PaG=>g.H) (fun g:PaG=>PaI wz l h k2 k3 k2q2 v g) (fun g:PaG=>l.length-g.i) ⟨0, .nilSlice,emp,[], .nilSlice,emp,emp,H3⟩ (by rfl) (Vh _) ⟨hS3.emp.emp.emp,⟨hv, .nil,rfl,Jr _⟩, .nil,rfl,(fun q hq=>by cases hq),Jr _,fun r hr=>hr⟩ ?_;rintro⟨i,ov,op,qs,rv,rp,E,H⟩ ⟨hS,hP,hrow,hG,hels,hfew,hgo⟩;simp only at hS hP hrow hG hels hfew hgo|-
  have eb_2:H k2=some _:=hS.at_ (i:=1) rfl;have eb_3:H k3=some _:=hS.at_ (i:=2) rfl;have eb_2q2:H k2q2=some _:=hS.at_ (i:=3) rfl;have hs_H:Sub h H:=hS.in_ (i:=0) rfl;have hrl:=hrow.live;refine qF ?_;refine awp_rseq [0,2,3,4,20] (by rfl) fun K hK=>?_;simp+decide only[qa,ev,putD,VG,VH,VI,Ka,Kb,↓qg,qd,↓Qv,Qk,QE,↓qC,qi,Yp,↓qI,Qc,qj ag3,↓QB,Qo,↓qo,qh,qN,cond_false,qz,Xt,Qj wz eb_2q2,VJ,Kn,Jq,QL,nv];apply hK;clear hK K;refine qM (b:=_) rfl (fun hb2=>?_) (fun hb2=>?_)
  ·try simp only[decide_eq_true_eq]at hb2
   have hil:i<l.length:=by omega
   have hdj:[h,one k2 ⟨[rv],0⟩,one k3 ⟨[.int .i64 0, .int .i64 0, .int .i64 0],0⟩,rp,E].Pairwise disj:=(hS.pick [0,1,2,5,6] (by decide) (by simp)).2;have hu:=XI hdj;obtain⟨BB,hBB⟩:∃BB,BB=WB [h,one k2 ⟨[rv],0⟩,one k3 ⟨[.int .i64 0, .int .i64 0, .int .i64 0],0⟩,rp,E]:=⟨_,rfl⟩
   rw[<-hBB]at hu;have hcall:=(c_list wz hm ha l (by omega) hsh H BB k2q2 v ov op [] i (by rw[hBB];exact BF (ps:=[h,one k2 ⟨[rv],0⟩,one k3 ⟨[.int .i64 0, .int .i64 0, .int .i64 0],0⟩,rp,E]) (hS.pick [0,1,2,5,6,3,4] (by decide) (by simp))) ⟨hv.mono (hu h (by simp)),hP.open_,hP.isG,hP.at_⟩ (fun f hf=>by cases hf) rfl).mono (R':=qio wz l BB k2q2 v [] 1 i) (Rp':=qpO l h k2 k3) (fun _ _ q=>q) fun x h' ⟨f,q1,q2,q3⟩=>⟨(hu h (by simp)).trans q3,f,BK (by omega) (hgo _ (SentR.bad hil q1)),q2,⟨rv,q3 _ _ (hu _ (by simp) _ _ (one_at _ _))⟩,_,_,_,q3 _ _ (hu (one k3 ⟨[.int .i64 0, .int .i64 0, .int .i64 0],0⟩) (by simp) _ _ (one_at _ _))⟩
   refine qV ?_;change Awp _ _ _ _ _ _ _;refine Qb ?_;refine qF ?_;have hR2:∀x h',qio wz l BB k2q2 v [] 1 i x h'->h' k2=some ⟨[rv],0⟩:=fun x h' ⟨L,j,ov2,op2,E2,q1,q2,q3,q4,q5,q6⟩=>q6.in_ (i:=0) rfl _ _ (hu _ (by simp) _ _ (one_at _ _));refine qpA (v0:=rv) (v1:= .ptr (.own k2q2) 0) (R:=qio wz l BB k2q2 v [] 1 i) mixed (by rfl) rfl rfl (by rfl) (by kernel_rfl) (by kernel_rfl) (by kernel_rfl) (by kernel_rfl) (by kernel_rfl) (by kernel_rfl) (by kernel_rfl) (by kernel_rfl) (fun s' h' hh hs=>?_) (fun s' hs=>?_) (fun s' hs=>?_) (fun s' x h' hx hs=>?_)
   ·have e2:h' k2=some ⟨[rv],0⟩:=by
     rcases hh with rfl|⟨x,hx⟩
     ·exact eb_2
     ·exact hR2 x h' hx
    have es:VH s' 2= .ptr (.own k2) 0:=by rcases hs with rfl|rfl|⟨x,rfl⟩<;>rfl
    show(ZV Tryz.prog wz h' 45 (s'.get 2)).pre/\(ZV Tryz.prog wz h' 45 (s'.get 2)).val=rv
    rw[es,qj qhm,Qj wz e2];exact⟨hrl,rfl⟩
   ·have es:VH s' 4= .ptr (.own k2q2) 0:=by rcases hs with rfl|rfl<;>rfl
    exact⟨trivial,es⟩
   ·refine⟨⟨30,[],rfl,?_⟩,?_⟩
    ·have es:evs s' [Operand.tmp 22, .const (.int .i64 1)]=[.ptr (.own k2q2) 0, .int .i64 1]:=by rcases hs with rfl|rfl|rfl<;>rfl
     show ACallE _ _ _ (evs s' [Operand.tmp 22, .const (.int .i64 1)]++[]) _ _ _
     rw[es];exact hcall
    ·intro i
     match i with
     |0=>exact .inr rfl
     |1=>exact .inr rfl
     |2=>rcases hs with rfl|rfl|rfl<;>exact .inl rfl
     |3=>rcases hs with rfl|rfl|rfl<;>exact .inl rfl
     |i+4=>exact .inr (by simp[VH])
   obtain⟨L,j,ov2,op2,E2,hR,hij,hLn,hsts,hP2,hS2⟩:=hx;rw[hBB]at hS2;have hS2:=hS2.unfold hdj;have hse:s'=[(0,v),(2, .ptr (.own k2) 0),(3, .ptr (.own k3) 0),(4, .ptr (.own k2q2) 0),(20, .bool (decide ((i:Int)<(l.length:Int)))),(21,rv),(22, .ptr (.own k2q2) 0),(23,x)]:=by rcases hs with rfl|rfl|rfl<;>rfl
   subst hse;obtain⟨qL,hqL,hrL,hels2⟩:=(show StsV wz (31+1) E2 x L from hsts)
   have hjl:=hP2.at_;have hqn:qL.length=L.length:=by rw[hqL,Jo]
   refine Zj (es:=5) (v:=rv) (p:=rp) (xs:=qs.map qbj) (ys:=qL.map qbj) (i:=3) (by rfl) (by rfl) Tryz.underlying45 Tryz.underlying45 (fun k e=>by cases e) Yv by82 qhT (by rfl) (by decide) (by rfl) hrow hG rfl hS2 (by rfl) (hrL.mono (hS2.in_ (i:=7) rfl)) (qiA fun q hq=>⟨(hels2 q hq).1.scal,(hels2 q hq).2.scal⟩) (by simp only[Jo];omega) (by simp only[Jo];omega) fun rv2 rp2 h6 hrow2 hG2 hS6=>?_;refine Qi (v:=rv2) (by rfl) (by rfl) (hS6.at_ (i:=1) rfl) qtt hrow2.live (by rw[hrow2.cells];rfl) (by simp only[KY,JN];omega) (Jr _) (by rw[hrow2.cells];simp[QU,hrow2.scal]) ?_;simp only[hrow2.cells,setAt,VZ];rw[qa];show Awp _ _ _ _ _ _ _
   obtain⟨H7,hH7⟩:∃H7,H7=h6.set k2 ⟨[rv2],0⟩:=⟨_,rfl⟩
   refine Bq (h':=H7) (by rw[hH7];exact Vh _) ?_;have hS7:=hS6.put (i:=1) rfl ⟨[rv2],0⟩;rw[<-hH7]at hS7;simp only[VZ,Kj,Kh,Je]at hS7;have eb_2:H7 k2=some _:=hS7.at_ (i:=1) rfl;have eb_3:H7 k3=some _:=hS7.at_ (i:=2) rfl;have eb_2q2:H7 k2q2=some _:=hS7.at_ (i:=5) rfl;have hs_H7:Sub h H7:=hS7.in_ (i:=0) rfl;have hlo2:=hP2.open_.live;refine Bt [0,2,3,4] ?_;refine qF ?_;have mcase:(∃(lc:AM.Loc) (o:Nat) (cc:Cap),v= .slice lc o l.length cc/\j<l.length/\decide ((j:Int)=(l.length:Int))=false/\rd wz H7 lc (o+j*5)= .int .u8 (l.getD j noT).kind.toNat/\decide (((l.getD j noT).kind.toNat:Int)=6)=decide ((l.getD j noT).kind=6)/\decide (j=l.length\/(l.getD j noT).kind≠6)= !decide ((l.getD j noT).kind=6))\/
    (∃(lc:AM.Loc) (o:Nat) (cc:Cap),v=v/\¬j<l.length/\decide ((j:Int)=(l.length:Int))=true/\True/\True/\decide (j=l.length\/(l.getD j noT).kind≠6)=true):=by
    by_cases hlt:j<l.length
    ·obtain⟨lc,o,cc,hve⟩:=ZT hv (by omega)
     have hv2:=hv.mono hs_H7;rw[hve]at hv2;refine .inl ⟨lc,o,cc,hve,hlt,by rw[decide_eq_false_iff_not];omega,(WE hv2 hlt).1,ZY _ 6,?_⟩;by_cases q:(l.getD j noT).kind=6
     ·rw[decide_eq_true q,decide_eq_false]
      ·rfl
      ·rintro(z|z)
       ·omega
       ·exact z q
     ·rw[decide_eq_false q,decide_eq_true (.inr q)];rfl
    ·exact .inr ⟨.base 0,0, .exact 0,rfl,hlt,by rw[decide_eq_true_eq];omega,trivial,trivial,decide_eq_true (.inl (by omega))⟩
   refine awp_rseq [0,2,3,4,42] (by rfl) fun K hK=>?_;suffices hM:∀b:Bool,b=decide (j=l.length\/(l.getD j noT).kind≠6)->K [(0,v),(2, .ptr (.own k2) 0),(3, .ptr (.own k3) 0),(4, .ptr (.own k2q2) 0),(42, .bool b)] (H7) by
    rcases mcase with⟨lc,o,cc,hve,hkl,hkd,e0,hk6,hfin⟩|⟨lc,o,cc,hve,hkl,hkd,e0,hk6,hfin⟩<;>(
     simp+decide only[qa,ev,qK,qG,putD,VG,VH,VI,Ka,Kb,↓qg,qd,↓Qv,Qk,QE,↓qC,qi,Yp,↓qI,Qc,qj ag3,↓QB,Qo,Xr Tryz.underlying39,↓qo,qh,qN,cond_false,qz,XV,↓Xc,agP,Qs,qW,qP,qU,implies_true,Bd,Be,Qf,QO,forall_const,false_implies,qbo,V7,qeC,↓qbS,↓Xe,↓XJ,Xp,ZL,↓Zp,qA Tryz.underlying39 Yl,WZ,qj qjH,↓QJ,qE,WW,↓QC,Qr,Qe,XO,Qj wz eb_2q2,VJ,Kn,Jq,QL,nv,hve,hkd,e0,hk6,VN,K7,QO,Qf];repeat (with_reducible refine And.intro ?_ ?_;· first|trivial|omega|(intro hg;simp only[Ky,JF,Ji,VO,VL,VK,decide_eq_true_eq,decide_eq_false_iff_not,Xd]at hg;omega))
     first|exact hM _ hfin.symm|(rw[hve]at hM;exact hM _ hfin.symm))
   intro b hb_7;apply hK;clear hK K;refine qM (b:=_) rfl (fun hb3=>?_) (fun hb3=>?_)
   ·skip
    have hend:j=l.length\/(l.getD j noT).kind≠6:=of_decide_eq_true (by rw[<-hb_7];exact hb3);refine Yd 5 (by rfl) (by rfl) ?_;simp only[Ki,V4];simp+decide only[qa,ev,putD,VG,VH,Ka,Kb,↓qg,qd,↓Qv,Qk,QE,↓qC,qi,Yp,↓qI,Qc,qj ag3,Qj wz eb_2q2,VJ,Kn,Jq,QL];refine⟨⟨_,_,by rfl,?_⟩,fun i=>match i with|0=> .inr rfl|1=> .inr rfl|2=> .inl rfl|3=> .inl rfl|i+4=> .inr (by simp[])⟩;exact(qda wz _ h k2q2 v ov2 l j 4 j eb_2q2 hs_H7 hv hl (by omega)).mono (fun _ _ q=>q) fun x h' ⟨q1,q2⟩=>⟨hs_H7.trans q2,_,BK (by omega) (hgo _ (SentR.open hil hR hend)),q1,⟨_,q2 _ _ eb_2⟩,_,_,_,q2 _ _ eb_3⟩
   ·skip
    have hend:¬(j=l.length\/(l.getD j noT).kind≠6):=of_decide_eq_false (by rw[<-hb_7];exact hb3);have hjl2:j<l.length:=by
     rcases KU j l.length with z|z
     ·exact z
     ·exact absurd (.inl (by omega)) hend
    have hwj:IntKind.i64.wrap ((j:Int)+1)=((j+1:Nat):Int):=by rw[wrap_i64 (by omega) (by omega)];omega
    refine qV ?_;change Awp _ _ _ _ _ _ _;refine Xa [0,2,3,4] (by rfl) ?_;simp+decide only[ev,qK,qG,putD,VG,VH,Ka,Kb,↓qg,qd,↓Qv,Qk,QE,↓qC,qi,Yp,↓qI,Qc,qj ag3,↓qo,qh,qE,cond_false,qz,QW,Qj wz eb_2q2,VJ,Kn,Jq,QL,hwj];refine Qi (by rfl) (by rfl) zqA sz3 (by rfl) (by rfl) zqD (Jr _) (by rfl) ?_;simp only[VY];simp+decide only[qa,ev,putD,VH,VI,Ka,setAt,VZ,Kj];try simp only[qR,Zg]
    have hS8:=(BF (ps:=[E,E2]) ((hS7.put (i:=5) rfl (parB3 v (j+1) ov2)).pick [4,7,0,1,2,5,6,3] (by decide) (by simp))).pick [1,2,3,4,5,6,0] (by decide) (by simp);have hue:=XI (ps:=[E,E2]) (hS7.pick [4,7] (by decide) (by simp)).2;refine⟨⟨j+1,ov2,op2,qs++qL,rv2,rp2,WB [E,E2],H7.set k2q2 (parB3 v (j+1) ov2)⟩,rfl,Vh _,⟨hS8,⟨hv,hP2.open_,hP2.isG,hjl2⟩,by simp only;rw[Vr];exact hrow2,hG2,fun q hq=>?_,by simp only[Jc];omega,fun r hr=>?_⟩,by simp only;omega⟩
    ·rcases JR.1 hq with z|z
     ·exact⟨(hels q z).1.mono (hue E (by simp)),(hels q z).2.mono (hue E (by simp)) fun _ _=>BH (hue E (by simp))⟩
     ·exact⟨(hels2 q z).1.mono (hue E2 (by simp)),(hels2 q z).2.mono (hue E2 (by simp)) fun _ _=>BH (hue E2 (by simp))⟩
    ·refine hgo r (SentR.next hil hR hend ?_)
     simp only[Vr]at hr;rw[hqL];exact hr
  ·try simp only[decide_eq_false_iff_not]at hb2
   have hin:i=l.length:=by have:=hP.at_;omega
   have hRes:ParseR QV l XE (.ok (qs.map (·.1)) i):=BK (by omega) (hgo _ (SentR.stop (by omega)));have hu2:=XI (ps:=[rp,E]) (hS.pick [5,6] (by decide) (by simp)).2;have hrow3:=hrow.isL (wz:=wz) (hS.in_ (i:=5) rfl);have hck:=hrow3.clip;have hckl:=hck.live;refine QI ?_;change Awp _ _ _ _ _ _ _;refine awp_rseq [2,3] (by rfl) fun K hK=>?_;simp+decide only[ev,putD,VG,VH,Ka,Kb,↓qI,Qc,qj qhm,Qj wz eb_2,VJ,hrl];refine QS (V:=Zi rv) (by rfl) (by rfl) (qnR wz _ rv _ (hrow3.mono zqB)) ?_;simp+decide only[ev,qK,qG,putD,VG,VH,if_false,Kb,↓Zo,↓Xz,bld48_,evP,Vj];refine Qi (v:=Zi rv) (by rfl) (by rfl) eb_2 qtt hckl (by rw[hck.cells];rfl) (by simp only[KY,JN];omega) (Jr _) (by rw[hck.cells];simp[QU,hck.scal]) ?_;simp only[hck.cells,setAt,VZ];refine Qi (by rfl) (by rfl) zqA qdv (by rfl) (by rfl) zqD (Jr _) (by rfl) ?_;simp only[VY];simp+decide only[qa,ev,putD,VH,VI,Ka,setAt,VZ,Kj,Jq,Nat.reduceAdd];apply hK;clear hK K;refine Qn ?_;refine Qu (?_) ?_
   ·simp+decide only[Wz,YU,VH,Ka,and_true,YU,qj qhm,Qz qpE qdv,qfd,Qd,VJ,Kn,Jq,Nat.reduceAdd,QL,allLive,J4,YI,ne_eq,not_false_eq_true,ne_2_3,Qd,VJ,Kn,Jq,Nat.reduceAdd,QL,allLive,J4,hckl]
   simp+decide only[VH,Ka,qiO,YU,qj qhm,Qz qpE qdv,qfd,Qd,VJ,Kn,Jq,Nat.reduceAdd,QL,allLive,J4,YI,ne_eq,not_false_eq_true,ne_2_3,Qd,VJ,Kn,Jq,Nat.reduceAdd,QL,allLive,J4,hckl];have hS8:=(hS.put (i:=1) rfl ⟨[Zi rv],0⟩).put (i:=2) rfl ⟨[.int .i64 0, .int .i64 0, .int .i64 0],0⟩;exact⟨_,Vh _,hS8.in_ (i:=0) rfl,_,_,_,hRes,rfl,qs,rfl,(hrow.isL (wz:=wz) (hS8.in_ (i:=5) rfl)).clip,fun q hq=>⟨(hels q hq).1.mono (hS8.in_ (i:=6) rfl),(hels q hq).2.mono (hS8.in_ (i:=6) rfl) fun _ _=>BH (hS8.in_ (i:=6) rfl)⟩⟩
def qjT(wz:World)(l:List TokC)(h:AHeap):AVal->AHeap->Prop:=fun r h'=>Sub h h'/\((∃f,ParseR QV l XE (.bad f)/\r= .tuple [.nilSlice,faultV f])\/∃L j rv,ParseR QV l XE (.ok L j)/\r= .tuple [rv,faultV okF]/\StsV wz 32 h' rv L)
theorem qns(p2 p3:Value)(w:World):(invoke (.fn (.func 28) #[p2,p3]) #[]).run Tryz.prog w= .ok (.enter 28 #[p2,p3]) w:=by
 simp[go_sem]
set_option maxHeartbeats 4000000 in
theorem qdb(wz:World)(hm:MaxL wz)(ha:Asp wz)(l:List TokC)(hl:l.length<=1000000)(hsh:Short l)(h:AHeap)(v:AVal)(hv:IsL wz h 5 v (l.map Xy)):ACall Tryz.prog wz 12 [v] h (qjT wz l h):=by
 refine qpH (k:=59) (rs:=[.cell 2 45, .cell 3 48]) Tryz.func12 rfl rfl rfl rfl (VF rfl) ?_;simp only[Qm];refine awp_rseq [0,2,3] (by rfl) fun K hK=>?_;refine Xb ze45 (cs:=[.nilSlice]) (by rfl) fun k0q0 hk0q0=>?_;try have hf_0q0:h k0q0=none:=by first|assumption|(simp only[VU]at hk0q0;simp only[hk0q0])
 refine Xb qlk (cs:=[.int .i64 0, .int .i64 0, .int .i64 0]) (by rfl) fun k0q1 hk0q1=>?_;have ne_0q1_0q0:k0q1≠k0q0:=by simp only[VU]at hk0q1;simp only[hk0q1,ne_eq,not_false_eq_true]
 try have hf_0q1:h k0q1=none:=by first|assumption|(simp only[VU]at hk0q1;simp only[hk0q1])
 simp+decide only[qa,putD,VG,VI,Ka];apply hK;clear hK K;have hS:=(BL (BL (ps:=[h]) ⟨fun p hp=>by rw[VM.1 hp];exact Vh _,by simp⟩ hk0q0 ⟨[.nilSlice],0⟩) hk0q1 ⟨[.int .i64 0, .int .i64 0, .int .i64 0],0⟩)
 simp only[Kh,Je]at hS;refine qpv (pre:=[_]) (P1:=fun s h'=>qcf Tryz.prog wz [.cell 2 45, .cell 3 48] (qrH wz l h) .ret s h') (s₀:=[(2, .ptr (.own k0q0) 0),(3, .ptr (.own k0q1) 0)]) (Rp:=qpO l h k0q0 k0q1) (f:=28) (cap:=[.ptr (.own k0q0) 0, .ptr (.own k0q1) 0]) (by rfl) (by rfl) ?_ ?_ ?_
 ·simp+decide only[qa,ev,evs,putD,VG,VH,Ka,↓qob,qlD,Ke,Vj,Kb]
  intro d;refine Bt [0,2,3] ?_;exact l_parse wz hm ha l hl hsh h _ k0q0 k0q1 v d hv hS
 ·intro Ps vs s' h' a w G hcap hr hs hq
  simp only[VRs,VR]at hcap;obtain⟨_,_,rfl,⟨a2,-,rfl⟩,_,_,rfl,⟨a3,-,rfl⟩,rfl⟩:=hcap;obtain⟨hp,h'',hsub,hR⟩:=hq;obtain⟨vr,g1,g2⟩:=qcK hr hs Tryz.f12 hp;refine leaves_cons (f:=28) (args:= #[.pointer (some a2), .pointer (some a3)]) (by simp) (qns _ _ w) ((qpk a2 a3 w).mono ?_);rintro e u' w' ⟨rfl,rfl,rfl⟩;exact⟨vr,g1,vr,rfl,Ps,_,h'',Ps.le_refl,hr.forget hsub,g2,hR.1, .inr hR.2⟩
 ·intro Ps vs vf y h' a w G hcap hr hvf hRp hs
  simp only[VRs]at hcap;obtain⟨p2,_,rfl,h2,p3,_,rfl,h3,rfl⟩:=hcap;obtain⟨hsh',f,q1,rfl,⟨b,e2⟩,y1,y2,y3,e3⟩:=hRp;have ne:k0q0≠k0q1:=hS.ne (i:=1) (j:=2) rfl rfl (by decide);have hn1:h k0q1=none:=(Vf _ _ ne.symm).symm.trans hk0q1;refine leaves_cons (f:=28) (args:= #[p2,p3]) (by simp) (qns _ _ w) ((qsO wz Ps w h' h k0q0 k0q1 hsh' hk0q0 hn1 b b y1 y2 y3 f p2 p3 vf e2 e3 ne hr h2 h3 hvf).mono ?_);rintro e u' w' ⟨r,rfl,rfl,χ,h2',hle,hr2,g2,g3,g4⟩;have hs2:SRel χ ⟨59,[dOf 28 [p2,p3]],G⟩ [(2, .ptr (.own k0q0) 0),(3, .ptr (.own k0q1) 0)] a:=hs.mono hle;have hpr:Wz Tryz.prog wz [(2, .ptr (.own k0q0) 0),(3, .ptr (.own k0q1) 0)] h2' Tryz.f12.results.toList:=by
   show Wz Tryz.prog wz _ _ [.cell 2 45, .cell 3 48]
   simp+decide only[Wz,YU,VH,Ka,and_true,qj qhm,Qz qpE qdv,Qj wz g2,Qj wz g3,Qd,VJ,Kn,Jq,Nat.reduceAdd,qnl,QL,allLive,J4]
  have hro:qaR Tryz.prog wz [(2, .ptr (.own k0q0) 0),(3, .ptr (.own k0q1) 0)] h2' Tryz.f12.results.toList= .tuple [.nilSlice,faultV f]:=by
   show qaR Tryz.prog wz _ _ [.cell 2 45, .cell 3 48]=_
   simp+decide only[qiO,YU,VH,Ka,qj qhm,Qz qpE qdv,Qj wz g2,Qj wz g3,Qd,VJ,Kn,Jq,Nat.reduceAdd]
  obtain⟨vr,r1,r2⟩:=qcK hr2 hs2 Tryz.f12 hpr;rw[hro]at r2;exact⟨vr,r1,vr,rfl,χ,_,h2',hle,hr2,r2,g4, .inl ⟨f,q1,rfl⟩⟩
end Go.Proofs.YtgiadjbiimkbiaaGreatDoor
namespace Go.Stm
open Go.Col (Str)
open Go.Tok
def YF:Nat->List StC->Bool
 |0,l=>decide (0<l.length)
 |m+1,l=>l.any fun s=>s.bodies.any fun b=>YF m b.2.2
def Xj:Nat->List StC->Nat
 |0,l=>l.length
 |m+1,l=>l.length+(l.map fun s=>(s.bodies.map fun b=>Xj m b.2.2).sum).sum
def ZI(a b:List TokC):Bool:=decide (a.map (fun t=>(t.kind,t.text))=b.map (fun t=>(t.kind,t.text)))
def SmallS:Nat->List StC->Prop
 |0,l=>l.length<=1000000
 |m+1,l=>l.length<=1000000/\∀s∈l,s.bodies.length<=1000000/\s.phrases.length<=1000000/\(∀p∈s.phrases,p.toks.length<=1000000)/\∀b∈s.bodies,b.2.1.length<=1000000/\SmallS m b.2.2
theorem SmallS.len{m:Nat}{l:List StC}(h:SmallS m l):l.length<=1000000:=by cases m<;>first|exact h|exact h.1
end Go.Stm
namespace Go.Proofs.YtgiadjbiimkbiaaGreatDoor
open Go.AM
open Go.Proofs
open Go.Col (Str FaultC okF)
open Go.Tok (TokC)
open Go.Stm
open Go.RowKit (Below)
set_option maxRecDepth 100000
def qcO:StC×AVal×AVal:=(.mk [] 0 0 [] [], .nilSlice, .nilSlice)
theorem qcd{wz:World}{h:AHeap}{lc:AM.Loc}{o:Nat}{c:Cap}{qs:List (StC×AVal×AVal)}(ht:IsL wz h 5 (.slice lc o qs.length c) (qs.map qbj)){i:Nat}(hi:i<qs.length):
 rd wz h lc (o+i*5)= .str (qs.getD i qcO).1.verb/\rd wz h lc (o+i*5+1)= .int .i64 (qs.getD i qcO).1.line/\rd wz h lc (o+i*5+2)= .int .i64 (qs.getD i qcO).1.col/\rd wz h lc (o+i*5+3)=(qs.getD i qcO).2.1/\rd wz h lc (o+i*5+4)=(qs.getD i qcO).2.2:=by
 have he:=ht.elem (i:=i) (by rw[Jo];exact hi);rw[getD_map qcO hi]at he;simp only[Qd,qbj,List.cons.injEq,and_true]at he;exact he
theorem qcH{wz:World}{h:AHeap}{v:AVal}{qs:List (StC×AVal×AVal)}(ht:IsL wz h 5 v (qs.map qbj))(hn:0<qs.length):∃lc o c,v= .slice lc o qs.length c:=by
 obtain⟨lc,o,c,e⟩:=ht.open (fun e=>by rw[VD]at e;subst e;simp at hn);rw[Jo]at e;exact⟨lc,o,c,e⟩
theorem qgD{wz:World}{h:AHeap}{v:AVal}{qs:List (StC×AVal×AVal)}(ht:IsL wz h 5 v (qs.map qbj)):∀H:AHeap,Zh Tryz.prog H 45 v=⟨True, .int .i64 qs.length⟩:=by
 intro H;have:=ht.len Tryz.underlying45 H
 rwa [Jo]at this
structure D1G where
 j:Nat
 H:AHeap
structure D2G where
 j:Nat
 H:AHeap
theorem qjG{α β:Type}{qs:List (α×β)}{p:α->Bool}{j:Nat}{d:α×β}(hj:j<qs.length):((qs.drop j).map (·.1)).any p=(p (qs.getD j d).1||((qs.drop (j+1)).map (·.1)).any p):=by
 rw[J9 hj,Ke,List.any_cons];congr 1;simp[Ko,hj]
theorem qee{wz:World}{d:Nat}{h:AHeap}{v:AVal}{l:List StC}(hs:StsV wz d h v l)(hsm:SmallS d l):∃qs:List (StC×AVal×AVal),l=qs.map (·.1)/\IsL wz h 5 v (qs.map qbj)/\∀q∈qs,PhV wz h q.2.1 q.1.phrases/\BdV wz (StsV wz (d-1) h) h q.2.2 q.1.bodies/\q.1.bodies.length<=1000000/\q.1.phrases.length<=1000000/\(∀p∈q.1.phrases,p.toks.length<=1000000)/\∀b∈q.1.bodies,b.2.1.length<=1000000/\SmallS (d-1) b.2.2:=by
 cases d with
 |zero=>exact⟨[],hs.1,hs.2,fun q hq=>by cases hq⟩
 |succ d=>
  obtain⟨qs,e,a,b⟩:=hs;exact⟨qs,e,a,fun q hq=>⟨(b q hq).1,(b q hq).2,hsm.2 q.1 (by rw[e];exact Bp (f:=(·.1)) hq)⟩⟩
theorem c_deep0(wz:World)(d:Nat)(h:AHeap)(v:AVal)(l:List StC)(hs:StsV wz d h v l):ACall Tryz.prog wz 38 [v, .int .i64 0] h (fun r h'=>r= .bool (YF 0 l)/\Sub h h'):=by
 have nL:=qas hs;have hlv:=hs.shape.1;have hR:YF 0 l=decide (0<l.length):=rfl;rw[hR];refine Ql (n:=34) (rs:=[.tmp 4]) Tryz.func38 rfl rfl rfl rfl (VF rfl) ?_;simp only[Qm];refine awp_rseq [0,1] (by rfl) fun K hK=>?_;simp+decide only[qa,ev,qK,qG,putD,VG,VI,Ka,Kb,↓qf,qc,Jq];apply hK;clear hK K;refine qF ?_;refine awp_rseq [0,1,10] (by rfl) fun K hK=>?_;simp+decide only[qa,ev,qK,qG,putD,VG,VH,VI,Ka,Kb,↓qg,qd,↓qo,qh,qE,cond_false,qz,XV];apply hK;clear hK K;refine qM (b:=_) rfl (fun hb1=>?_) (fun hb1=>?_)
 ·try simp only[decide_eq_true_eq]at hb1
  refine awp_rseq [4] (by rfl) fun K hK=>?_;simp+decide only[qa,ev,qK,qG,putD,VG,VH,VI,Ka,Kb,↓qg,qd,↓QB,Qo,↓qo,qh,qE,cond_false,qz,Yk,↓qf,qc,nL];apply hK;clear hK K;refine Qn ?_;try simp only[QM]
  refine Xf h zqC (qJ (qO)) ?_;simp+decide only[VH,if_true,Qg];exact⟨by congr 1;rw[Bool.eq_iff_iff];simp only[decide_eq_true_eq];omega,Vh _⟩
 ·cases hb1
set_option maxHeartbeats 8000000 in
theorem c_deepS(wz:World)(m d:Nat)(h:AHeap)(v:AVal)(l:List StC)(hm:m<=1000)(hs:StsV wz d h v l)(hsm:SmallS d l)
 (ih:∀(h':AHeap) (v:AVal) (l:List StC),StsV wz (d-1) h' v l->SmallS (d-1) l->ACall Tryz.prog wz 38 [v, .int .i64 m] h' (fun r h''=>r= .bool (YF m l)/\Sub h' h'')):
 ACall Tryz.prog wz 38 [v, .int .i64 ((m+1:Nat):Int)] h (fun r h'=>r= .bool (YF (m+1) l)/\Sub h h'):=by
 obtain⟨qs,hqe,hqL,hels⟩:=qee hs hsm;have nL:=qgD hqL;have hlv:=hqL.live;have hln:qs.length<=1000000:=by have:=hsm.len;rw[hqe,Jo]at this;exact this
 have hR:YF (m+1) l=(qs.map (·.1)).any fun s=>s.bodies.any fun b=>YF m b.2.2:=by rw[<-hqe];rfl
 obtain⟨R,hRR⟩:∃R,R=YF (m+1) l:=⟨_,rfl⟩
 rw[<-hRR]at hR|-
 refine Ql (n:=34) (rs:=[.tmp 4]) Tryz.func38 rfl rfl rfl rfl (VF rfl) ?_;simp only[Qm];refine awp_rseq [0,1] (by rfl) fun K hK=>?_;simp+decide only[qa,ev,qK,qG,putD,VG,VI,Ka,Kb,↓qf,qc,Jq];apply hK;clear hK K;refine qF ?_;refine awp_rseq [0,1,10] (by rfl) fun K hK=>?_;simp+decide only[qa,ev,qK,qG,putD,VG,VH,VI,Ka,Kb,↓qg,qd,↓qo,qh,qE,cond_false,qz,XV];apply hK;clear hK K;refine qM (b:=_) rfl (fun hb1=>?_) (fun hb1=>?_)
 ·have:=of_decide_eq_true hb1;omega
 ·try simp only[decide_eq_false_iff_not]at hb1
  refine qV ?_;change Awp _ _ _ _ _ _ _;refine qF ?_;refine awp_rseq [1,14,15,16] (by rfl) fun K hK=>?_;simp+decide only[qa,ev,qK,qG,putD,VG,VH,VI,Ka,Kb,↓qg,qd,↓QB,Qo,nL];apply hK;clear hK K;refine Qb ?_;refine QN [1,14,15,16] (fun g:D1G=>[(1, .int .i64 ((m+1:Nat):Int)),(14,v),(15, .int .i64 qs.length),(16, .int .i64 g.j)]) (fun g:D1G=>g.H) (fun g:D1G=>Sub h g.H/\g.j<=qs.length/\R=((qs.drop g.j).map (·.1)).any fun s=>s.bodies.any fun b=>YF m b.2.2) (fun g:D1G=>qs.length-g.j) ⟨0,h⟩ (by rfl) (Vh _) ⟨Vh _,Jr _,hR⟩ ?_;rintro⟨j,H⟩ ⟨hs_H,hj,hg⟩;simp only at hs_H hj hg|-
  refine awp_rseq [1,14,15,16,17] (by rfl) fun K hK=>?_;simp+decide only[qa,ev,putD,VG,VH,VI,Ka,Kb,↓qo,qh,qN,cond_false,qz,Xt];apply hK;clear hK K;refine qF (qM (b:=_) rfl (fun hb2=>?_) (fun hb2=>?_))
  ·try simp only[decide_eq_true_eq]at hb2
   have hj':j<qs.length:=by omega
   obtain⟨q,hqj⟩:∃q,q=qs.getD j qcO:=⟨_,rfl⟩
   have hqm:q∈qs:=by rw[hqj,Ko,JH hj'];exact VA hj'
   obtain⟨lc,o,cc,hpe⟩:=qcH hqL (by omega);have hq2:=hqL.mono hs_H;rw[hpe]at hq2;obtain⟨e0,e1,e2,e3,e4⟩:=qcd hq2 hj';rw[<-hqj]at e0 e1 e2 e3 e4;obtain⟨hph,hbd,hbn,hpn,hpt,hbb⟩:=hels q hqm;have hst:=qjG (p:=fun s:StC=>s.bodies.any fun b=>YF m b.2.2) (d:=qcO) hj';rw[<-hg,<-hqj]at hst;have hl1:=hph.live;have hs1:=hph.scal;have hl2:=hbd.live;have hs2:=hbd.scal;have hs3:=hs1;have hs4:=hs2;obtain⟨ql,hql,hqb,hqq⟩:=id hbd;have nb:=qdc hqb;have hbn2:ql.length<=1000000:=by rw[hql,Jo]at hbn;exact hbn
   obtain⟨qs1,qp,qb⟩:=q;simp only at e0 e1 e2 e3 e4 hl1 hs1 hl2 hs2 hs3 hs4 hst nb hqb hql hbb;rw[hql]at hst;obtain⟨X,hX⟩:∃X,X=((qs.drop (j+1)).map (·.1)).any fun s=>s.bodies.any fun b=>YF m b.2.2:=⟨_,rfl⟩
   rw[<-hX]at hst;have hwj:IntKind.i64.wrap ((j:Int)+1)=((j+1:Nat):Int):=by rw[wrap_i64 (by omega) (by omega)];omega
   refine qV ?_;change Awp _ _ _ _ _ _ _;refine qF ?_;refine Qb ?_;refine awp_rseq [1,6,14,15,16] (by rfl) fun K hK=>?_;simp+decide only[ev,putD,VG,VH,Ka,Kb,↓qZ,Qc,qA Tryz.underlying45 Yv,↓qI,Qz qeJ Yv,Qd,QL,Qw,allLive,J4,hpe,e0,e1,e2,e3,e4,hl1,hl2,VN];repeat (with_reducible refine And.intro ?_ ?_;· first|trivial|omega|(intro hg;simp only[Ky,JF,Ji,VO,VL,VK,decide_eq_true_eq,decide_eq_false_iff_not,Xd]at hg;omega))
   refine Xb qhT (cs:=[.str [], .int .i64 0, .int .i64 0, .nilSlice, .nilSlice]) (by rfl) fun k5q2 hk5q2=>?_;have hn_5q2:H k5q2=none:=by first|assumption|(simp only[VU]at hk5q2;simp only[hk5q2])
   have hf_5q2:h k5q2=none:=VV hs_H hn_5q2;refine Qi (by rfl) (by rfl) zqA Yv (by rfl) (by rfl) zqD (Jr _) (by first|rfl|(simp+decide only[ev,putD,VG,VH,Ka,VY,QU,J4,hs1,hs2,qbV,YT])) ?_;simp only[VX,VY];simp+decide only[qa,ev,putD,VG,VH,VI,Ka,setAt,VZ,Kj,Jq,Nat.reduceAdd];apply hK;clear hK K;refine awp_rseq [1,14,15,16,21,22,23] (by rfl) fun K hK=>?_;simp+decide only[qa,ev,qK,qG,putD,VG,VH,VI,Ka,Kb,↓qC,qi,Yf,↓qI,Qc,qj qbB,↓QB,Qo,↓qg,qd,XN,VJ,Kn,Jq,nb,hl2];apply hK;clear hK K;refine Qb ?_;refine QN [1,14,15,16,21,22,23] (fun g:D2G=>[(1, .int .i64 ((m+1:Nat):Int)),(14,v),(15, .int .i64 qs.length),(16, .int .i64 j),(21,qb),(22, .int .i64 ql.length),(23, .int .i64 g.j)]) (fun g:D2G=>g.H) (fun g:D2G=>Sub h g.H/\g.j<=ql.length/\R=((((ql.drop g.j).map (·.1)).any fun b=>YF m b.2.2)||X)) (fun g:D2G=>ql.length-g.j) ⟨0,_⟩ (by rw[hpe];rfl) (Vh _) ⟨zqB,Jr _,hst⟩ ?_;rintro⟨a,H2⟩ ⟨hs_H2,ha,hga⟩;simp only at hs_H2 ha hga|-
   refine awp_rseq [1,14,15,16,21,22,23,24] (by rfl) fun K hK=>?_;simp+decide only[qa,ev,putD,VG,VH,VI,Ka,Kb,↓qo,qh,qN,cond_false,qz,Xt];apply hK;clear hK K;refine qF (qM (b:=_) rfl (fun hb3=>?_) (fun hb3=>?_))
   ·try simp only[decide_eq_true_eq]at hb3
    have ha':a<ql.length:=by omega
    obtain⟨b,hbe⟩:∃b,b=ql.getD a qcj:=⟨_,rfl⟩
    have hbm:b∈ql:=by rw[hbe,Ko,JH ha'];exact VA ha'
    obtain⟨lb,ob,cb,hbp⟩:=qaZ hqb (by omega);have hb2:=hqb.mono hs_H2;rw[hbp]at hb2;obtain⟨f0,f1,f2⟩:=qdT hb2 ha';rw[<-hbe]at f0 f1 f2;obtain⟨hbt,hbs⟩:=hqq b hbm;have hsb:SmallS (d-1) b.1.2.2:=(hbb b.1 (by rw[hql];exact Bp (f:=(·.1)) hbm)).2;have hst2:=qjG (p:=fun b:BodC=>YF m b.2.2) (d:=qcj) ha';rw[<-hbe]at hst2;rw[hst2]at hga;have hl3:=hbt.live;have hs3:=hbt.scal;obtain⟨hl4,hs4,hc4⟩:=hbs.shape;obtain⟨⟨bw,bt,bL⟩,btv,blv⟩:=b;simp only at f0 f1 f2 hbs hsb hga hl3 hs3 hl4 hs4;have hwa:IntKind.i64.wrap ((a:Int)+1)=((a+1:Nat):Int):=by rw[wrap_i64 (by omega) (by omega)];omega
    have hwm:IntKind.i64.wrap (((m+1:Nat):Int)-1)=(m:Int):=by rw[wrap_i64 (by omega) (by omega)];omega
    refine qV ?_;change Awp _ _ _ _ _ _ _;refine qF ?_;refine Qb ?_;refine awp_rseq [1,8,14,15,16,21,22,23] (by rfl) fun K hK=>?_;simp+decide only[ev,putD,VG,VH,Ka,Kb,↓qZ,Qc,qA Tryz.underlying80 UE,↓qI,Qz qoc UE,Qd,Qw,allLive,J4,hbp,f0,f1,f2,hl3,hl4,VN];repeat (with_reducible refine And.intro ?_ ?_;· first|trivial|omega|(intro hg;simp only[Ky,JF,Ji,VO,VL,VK,decide_eq_true_eq,decide_eq_false_iff_not,Xd]at hg;omega))
    refine Xb qjZ (cs:=[.str [], .nilSlice, .nilSlice]) (by rfl) fun k8q2 hk8q2=>?_;have hn_8q2:H2 k8q2=none:=by first|assumption|(simp only[VU]at hk8q2;simp only[hk8q2])
    have hf_8q2:h k8q2=none:=VV hs_H2 hn_8q2;refine Qi (by rfl) (by rfl) zqA UE (by rfl) (by rfl) zqD (Jr _) (by first|rfl|(simp+decide only[ev,putD,VG,VH,Ka,VY,QU,J4,hs3,hs4,YT])) ?_;simp only[VX,VY];simp+decide only[qa,ev,putD,VG,VH,VI,Ka,setAt,VZ,Kj,Jq,Nat.reduceAdd];apply hK;clear hK K;refine awp_rseq [1,14,15,16,21,22,23,31] (by rfl) fun K hK=>?_;simp+decide only[ev,qK,qG,putD,VG,VH,Ka,Kb,↓qC,qi,qcS,↓qI,Qc,qj qhm,↓qg,qd,↓qo,qh,qE,cond_false,qz,Wl,XN,VJ,Kn,Jq,hl4,hwm];refine qY (by rfl) (by rfl) (ih _ blv bL (hbs.mono zqB) hsb) fun x9q4 h9q4 hx9q4=>?_;obtain⟨rfl,hs9⟩:=hx9q4;have hs_h9q4:Sub h h9q4:=Ba zqC hs9;have hr_h9q4:Sub H2 h9q4:=Ba zqC hs9;have eb_8q2:=hs9 k8q2 _ zqA;simp+decide only[qa,putD,VG,VI,Ka];apply hK;clear hK K;refine qM (b:=_) rfl (fun hb4=>?_) (fun hb4=>?_)
    ·skip
     refine awp_rseq [4] (by rfl) fun K hK=>?_;simp+decide only[qa,ev,qK,qG,putD,VG,VI,Ka,Kb,↓qf,qc];apply hK;clear hK K;refine Qn ?_;try simp only[QM,Xl]
     refine Qu (qJ (qO)) ?_;simp+decide only[VH,if_true,Qg];rw[hga,hb4];exact⟨h,by assumption,rfl,Vh _⟩
    ·skip
     rw[hb4,V7]at hga;refine qV ?_;change Awp _ _ _ _ _ _ _;refine Xa [1,14,15,16,21,22,23] (by rfl) ?_;simp+decide only[qa,ev,qK,qG,putD,VG,VH,VI,Ka,Kb,↓qo,qh,qE,cond_false,qz,QW,↓qg,qd,hwa];try simp only[qR]
     exact⟨⟨a+1,h9q4⟩,by rw[hbp];rfl,Vh _,⟨by assumption,ha',hga⟩,by simp only;omega⟩
   ·try simp only[decide_eq_false_iff_not]at hb3
    have haq:a=ql.length:=by omega
    rw[haq,J8]at hga;have hgX:R=X:=by rw[hga];rfl
    refine QI ?_;change Awp _ _ _ _ _ _ _;refine Xa [1,14,15,16] (by rfl) ?_;simp+decide only[qa,ev,qK,qG,putD,VG,VH,VI,Ka,Kb,↓qo,qh,qE,cond_false,qz,QW,↓qg,qd,hwj];try simp only[qR]
    exact⟨⟨j+1,H2⟩,rfl,Vh _,⟨hs_H2,hj',by rw[hgX,hX]⟩,by simp only;omega⟩
  ·try simp only[decide_eq_false_iff_not]at hb2
   have hjq:j=qs.length:=by omega
   rw[hjq,J8]at hg;refine QI ?_;change Awp _ _ _ _ _ _ _;refine awp_rseq [4] (by rfl) fun K hK=>?_;simp+decide only[qa,ev,qK,qG,putD,VG,VI,Ka,Kb,↓qf,qc];apply hK;clear hK K;refine Qn ?_;refine Qu (qJ (qO)) ?_;simp+decide only[VH,if_true,Qg];rw[hg];exact⟨H,Vh _,rfl,hs_H⟩
theorem qjw(wz:World):∀(m d:Nat) (h:AHeap) (v:AVal) (l:List StC),m<=1000->StsV wz d h v l->SmallS d l->ACall Tryz.prog wz 38 [v, .int .i64 m] h (fun r h'=>r= .bool (YF m l)/\Sub h h')
 |0,d,h,v,l,_,hs,hsm=>c_deep0 wz d h v l hs
 |m+1,d,h,v,l,hm,hs,hsm=>c_deepS wz m d h v l (by omega) hs hsm fun h' v l hs hsm=>qjw wz m (d-1) h' v l (by omega) hs hsm
structure C1G where
 j:Nat
 n:Nat
 H:AHeap
theorem qmN{α β:Type}{qs:List (α×β)}{f:α->Nat}{j:Nat}{d:α×β}(hj:j<qs.length):(((qs.drop j).map (·.1)).map f).sum=f (qs.getD j d).1+(((qs.drop (j+1)).map (·.1)).map f).sum:=by
 rw[J9 hj,Ke,Ke,List.sum_cons];congr 2;simp[Ko,hj]
theorem sts0{wz:World}{h:AHeap}{v:AVal}{l:List StC}(hs:StsV wz 0 h v l):l=[]/\IsL wz h 5 v []:=hs
theorem c_cnt0(wz:World)(h:AHeap)(v:AVal)(hv:IsL wz h 5 v []):ACall Tryz.prog wz 49 [v] h (fun r h'=>r= .int .i64 0/\Sub h h'):=by
 have nL:∀H:AHeap,Zh Tryz.prog H 45 v=⟨True, .int .i64 0⟩:=fun H=>hv.len Tryz.underlying45 H;have hlv:=hv.live;refine Ql (n:=31) (rs:=[.tmp 2]) Tryz.func49 rfl rfl rfl rfl (VF rfl) ?_;simp only[Qm];refine awp_rseq [0] (by rfl) fun K hK=>?_;simp+decide only[qa,ev,qK,qG,putD,VG,VI,Ka,Kb,↓qf,qc];apply hK;clear hK K;refine awp_rseq [0,3] (by rfl) fun K hK=>?_;simp+decide only[qa,ev,putD,VG,VH,VI,Ka,Kb,↓qg,qd,↓QB,Qo,↓qf,qc,nL];apply hK;clear hK K;refine qF ?_;refine awp_rseq [3,10,11,12] (by rfl) fun K hK=>?_;simp+decide only[qa,ev,qK,qG,putD,VG,VH,VI,Ka,Kb,↓qg,qd,↓QB,Qo,nL];apply hK;clear hK K;refine Qb ?_;refine QN [3,10,11,12] (fun z:Unit=>[(3, .int .i64 0),(10,v),(11, .int .i64 0),(12, .int .i64 0)]) (fun z:Unit=>h) (fun z:Unit=>True) (fun z:Unit=>0) () (by rfl) (Vh _) trivial ?_;intro z _;refine awp_rseq [3,10,11,12,13] (by rfl) fun K hK=>?_;simp+decide only[qa,ev,putD,VG,VH,VI,Ka,Kb,↓qo,qh,qN,cond_false,qz,Xt];apply hK;clear hK K;refine qF (qM (b:=_) rfl (fun hb1=>?_) (fun hb1=>?_))
 ·cases hb1
 ·try simp only[decide_eq_false_iff_not]at hb1
  refine QI ?_;change Awp _ _ _ _ _ _ _;refine awp_rseq [2] (by rfl) fun K hK=>?_;simp+decide only[qa,ev,putD,VG,VH,VI,Ka,Kb,↓qg,qd,↓qf,qc];apply hK;clear hK K;refine Qn ?_;refine Xf h zqC (qJ (qO)) ?_;simp+decide only[VH,if_true,Kb,Qg];exact Vh _
set_option maxHeartbeats 8000000 in
theorem c_cntS(wz:World)(d:Nat)(h:AHeap)(v:AVal)(l:List StC)(hs:StsV wz (d+1) h v l)(hsm:SmallS (d+1) l)(hT:Xj (d+1) l<=1000000000000)
 (ih:∀(h':AHeap) (v:AVal) (l:List StC),StsV wz d h' v l->SmallS d l->Xj d l<=1000000000000->ACall Tryz.prog wz 49 [v] h' (fun r h''=>r= .int .i64 (Xj d l)/\Sub h' h'')):
 ACall Tryz.prog wz 49 [v] h (fun r h'=>r= .int .i64 (Xj (d+1) l)/\Sub h h'):=by
 obtain⟨qs,hqe,hqL,hels⟩:=qee hs hsm;rw[BM]at hels;have nL:=qgD hqL;have hlv:=hqL.live;have hln:qs.length<=1000000:=by have:=hsm.len;rw[hqe,Jo]at this;exact this
 have hR:Xj (d+1) l=qs.length+((qs.map (·.1)).map fun s=>(s.bodies.map fun b=>Xj d b.2.2).sum).sum:=by
  rw[<-hqe];show l.length+_=qs.length+_
  rw[hqe,Jo]
 obtain⟨R,hRR⟩:∃R,R=Xj (d+1) l:=⟨_,rfl⟩
 rw[<-hRR]at hR hT|-
 refine Ql (n:=31) (rs:=[.tmp 2]) Tryz.func49 rfl rfl rfl rfl (VF rfl) ?_;simp only[Qm];refine awp_rseq [0] (by rfl) fun K hK=>?_;simp+decide only[qa,ev,qK,qG,putD,VG,VI,Ka,Kb,↓qf,qc];apply hK;clear hK K;refine awp_rseq [0,3] (by rfl) fun K hK=>?_;simp+decide only[qa,ev,putD,VG,VH,VI,Ka,Kb,↓qg,qd,↓QB,Qo,↓qf,qc,nL];apply hK;clear hK K;refine qF ?_;refine awp_rseq [3,10,11,12] (by rfl) fun K hK=>?_;simp+decide only[qa,ev,qK,qG,putD,VG,VH,VI,Ka,Kb,↓qg,qd,↓QB,Qo,nL];apply hK;clear hK K;refine Qb ?_;refine QN [3,10,11,12] (fun g:C1G=>[(3, .int .i64 g.n),(10,v),(11, .int .i64 qs.length),(12, .int .i64 g.j)]) (fun g:C1G=>g.H) (fun g:C1G=>Sub h g.H/\g.j<=qs.length/\R=g.n+(((qs.drop g.j).map (·.1)).map fun s=>(s.bodies.map fun b=>Xj d b.2.2).sum).sum) (fun g:C1G=>qs.length-g.j) ⟨0,qs.length,h⟩ (by rfl) (Vh _) ⟨Vh _,Jr _,hR⟩ ?_;rintro⟨j,n,H⟩ ⟨hs_H,hj,hg⟩;simp only at hs_H hj hg|-
 refine awp_rseq [3,10,11,12,13] (by rfl) fun K hK=>?_;simp+decide only[qa,ev,putD,VG,VH,VI,Ka,Kb,↓qo,qh,qN,cond_false,qz,Xt];apply hK;clear hK K;refine qF (qM (b:=_) rfl (fun hb1=>?_) (fun hb1=>?_))
 ·try simp only[decide_eq_true_eq]at hb1
  have hj':j<qs.length:=by omega
  obtain⟨q,hqj⟩:∃q,q=qs.getD j qcO:=⟨_,rfl⟩
  have hqm:q∈qs:=by rw[hqj,Ko,JH hj'];exact VA hj'
  obtain⟨lc,o,cc,hpe⟩:=qcH hqL (by omega);have hq2:=hqL.mono hs_H;rw[hpe]at hq2;obtain⟨e0,e1,e2,e3,e4⟩:=qcd hq2 hj';rw[<-hqj]at e0 e1 e2 e3 e4;obtain⟨hph,hbd,hbn,hpn,hpt,hbb⟩:=hels q hqm;have hst:=qmN (f:=fun s:StC=>(s.bodies.map fun b=>Xj d b.2.2).sum) (d:=qcO) hj';rw[<-hqj]at hst;rw[hst,<-Kw]at hg;have hl1:=hph.live;have hs1:=hph.scal;have hl2:=hbd.live;have hs2:=hbd.scal;have hs3:=hs1;have hs4:=hs2;obtain⟨ql,hql,hqb,hqq⟩:=id hbd;have nb:=qdc hqb;have hbn2:ql.length<=1000000:=by rw[hql,Jo]at hbn;exact hbn
  obtain⟨qs1,qp,qb⟩:=q;simp only at e0 e1 e2 e3 e4 hl1 hs1 hl2 hs2 hs3 hs4 hg nb hqb hql hbb;rw[hql]at hg;obtain⟨X,hX⟩:∃X,X=(((qs.drop (j+1)).map (·.1)).map fun s=>(s.bodies.map fun b=>Xj d b.2.2).sum).sum:=⟨_,rfl⟩
  rw[<-hX]at hg;have hwj:IntKind.i64.wrap ((j:Int)+1)=((j+1:Nat):Int):=by rw[wrap_i64 (by omega) (by omega)];omega
  refine qV ?_;change Awp _ _ _ _ _ _ _;refine qF ?_;refine Qb ?_;refine awp_rseq [3,5,10,11,12] (by rfl) fun K hK=>?_;simp+decide only[ev,putD,VG,VH,Ka,Kb,↓qZ,Qc,qA Tryz.underlying45 Yv,↓qI,Qz qeJ Yv,Qd,QL,Qw,allLive,J4,hpe,e0,e1,e2,e3,e4,hl1,hl2,VN];repeat (with_reducible refine And.intro ?_ ?_;· first|trivial|omega|(intro hg;simp only[Ky,JF,Ji,VO,VL,VK,decide_eq_true_eq,decide_eq_false_iff_not,Xd]at hg;omega))
  refine Xb qhT (cs:=[.str [], .int .i64 0, .int .i64 0, .nilSlice, .nilSlice]) (by rfl) fun k4q2 hk4q2=>?_;have hn_4q2:H k4q2=none:=by first|assumption|(simp only[VU]at hk4q2;simp only[hk4q2])
  have hf_4q2:h k4q2=none:=VV hs_H hn_4q2;refine Qi (by rfl) (by rfl) zqA Yv (by rfl) (by rfl) zqD (Jr _) (by first|rfl|(simp+decide only[ev,putD,VG,VH,Ka,VY,QU,J4,hs1,hs2,qbV,YT])) ?_;simp only[VX,VY];simp+decide only[qa,ev,putD,VG,VH,VI,Ka,setAt,VZ,Kj,Jq,Nat.reduceAdd];apply hK;clear hK K;refine awp_rseq [3,10,11,12,17,18,19] (by rfl) fun K hK=>?_;simp+decide only[qa,ev,qK,qG,putD,VG,VH,VI,Ka,Kb,↓qC,qi,Yf,↓qI,Qc,qj qbB,↓QB,Qo,↓qg,qd,XN,VJ,Kn,Jq,nb,hl2];apply hK;clear hK K;refine Qb ?_;refine QN [3,10,11,12,17,18,19] (fun g:C1G=>[(3, .int .i64 g.n),(10,v),(11, .int .i64 qs.length),(12, .int .i64 j),(17,qb),(18, .int .i64 ql.length),(19, .int .i64 g.j)]) (fun g:C1G=>g.H) (fun g:C1G=>Sub h g.H/\g.j<=ql.length/\R=g.n+(((ql.drop g.j).map (·.1)).map fun b=>Xj d b.2.2).sum+X) (fun g:C1G=>ql.length-g.j) ⟨0,n,_⟩ (by rw[hpe];rfl) (Vh _) ⟨zqB,Jr _,hg⟩ ?_;rintro⟨a,n2,H2⟩ ⟨hs_H2,ha,hga⟩;simp only at hs_H2 ha hga|-
  refine awp_rseq [3,10,11,12,17,18,19,20] (by rfl) fun K hK=>?_;simp+decide only[qa,ev,putD,VG,VH,VI,Ka,Kb,↓qo,qh,qN,cond_false,qz,Xt];apply hK;clear hK K;refine qF (qM (b:=_) rfl (fun hb2=>?_) (fun hb2=>?_))
  ·try simp only[decide_eq_true_eq]at hb2
   have ha':a<ql.length:=by omega
   obtain⟨b,hbe⟩:∃b,b=ql.getD a qcj:=⟨_,rfl⟩
   have hbm:b∈ql:=by rw[hbe,Ko,JH ha'];exact VA ha'
   obtain⟨lb,ob,cb,hbp⟩:=qaZ hqb (by omega);have hb2:=hqb.mono hs_H2;rw[hbp]at hb2;obtain⟨f0,f1,f2⟩:=qdT hb2 ha';rw[<-hbe]at f0 f1 f2;obtain⟨hbt,hbs⟩:=hqq b hbm;have hsb:SmallS d b.1.2.2:=(hbb b.1 (by rw[hql];exact Bp (f:=(·.1)) hbm)).2;have hst2:=qmN (f:=fun b:BodC=>Xj d b.2.2) (d:=qcj) ha';rw[<-hbe]at hst2;rw[hst2,<-Kw]at hga;have hl3:=hbt.live;have hs3:=hbt.scal;obtain⟨hl4,hs4,hc4⟩:=hbs.shape;obtain⟨⟨bw,bt,bL⟩,btv,blv⟩:=b;simp only at f0 f1 f2 hbs hsb hga hl3 hs3 hl4 hs4;have hwa:IntKind.i64.wrap ((a:Int)+1)=((a+1:Nat):Int):=by rw[wrap_i64 (by omega) (by omega)];omega
   have hwm:IntKind.i64.wrap ((n2:Int)+(Xj d bL:Int))=((n2+Xj d bL:Nat):Int):=by rw[wrap_i64 (by omega) (by omega)];omega
   refine qV ?_;change Awp _ _ _ _ _ _ _;refine qF ?_;refine Qb ?_;refine awp_rseq [3,7,10,11,12,17,18,19] (by rfl) fun K hK=>?_;simp+decide only[ev,putD,VG,VH,Ka,Kb,↓qZ,Qc,qA Tryz.underlying80 UE,↓qI,Qz qoc UE,Qd,Qw,allLive,J4,hbp,f0,f1,f2,hl3,hl4,VN];repeat (with_reducible refine And.intro ?_ ?_;· first|trivial|omega|(intro hg;simp only[Ky,JF,Ji,VO,VL,VK,decide_eq_true_eq,decide_eq_false_iff_not,Xd]at hg;omega))
   refine Xb qjZ (cs:=[.str [], .nilSlice, .nilSlice]) (by rfl) fun k7q2 hk7q2=>?_;have hn_7q2:H2 k7q2=none:=by first|assumption|(simp only[VU]at hk7q2;simp only[hk7q2])
   have hf_7q2:h k7q2=none:=VV hs_H2 hn_7q2;refine Qi (by rfl) (by rfl) zqA UE (by rfl) (by rfl) zqD (Jr _) (by first|rfl|(simp+decide only[ev,putD,VG,VH,Ka,VY,QU,J4,hs3,hs4,YT])) ?_;simp only[VX,VY];simp+decide only[qa,ev,putD,VG,VH,VI,Ka,setAt,VZ,Kj,Jq,Nat.reduceAdd];apply hK;clear hK K;refine Xa [3,10,11,12,17,18,19] (by rfl) ?_;simp+decide only[ev,putD,VG,VH,Ka,Kb,↓qg,qd,↓qC,qi,qcS,↓qI,Qc,qj qhm,XN,VJ,Kn,Jq,hl4];refine qY (by rfl) (by rfl) (ih _ blv bL (hbs.mono zqB) hsb (by omega)) fun x8q3 h8q3 hx8q3=>?_;obtain⟨rfl,hs8⟩:=hx8q3;have hs_h8q3:Sub h h8q3:=Ba zqC hs8;have hr_h8q3:Sub H2 h8q3:=Ba zqC hs8;have eb_7q2:=hs8 k7q2 _ zqA;simp+decide only[qa,ev,putD,VG,VH,VI,Ka,Kb,↓qo,qh,qN,cond_false,qz,QW,↓qf,qc,hwm];change Awp _ _ _ _ _ _ _;refine Xa [3,10,11,12,17,18,19] (by rfl) ?_;simp+decide only[qa,ev,qK,qG,putD,VG,VH,VI,Ka,Kb,↓qo,qh,qE,cond_false,qz,QW,↓qg,qd,hwa];try simp only[qR]
   exact⟨⟨a+1,n2+Xj d bL,h8q3⟩,by rw[hbp];rfl,Vh _,⟨by assumption,ha',hga⟩,by simp only;omega⟩
  ·try simp only[decide_eq_false_iff_not]at hb2
   have haq:a=ql.length:=by omega
   rw[haq,J8]at hga;refine QI ?_;change Awp _ _ _ _ _ _ _;refine Xa [3,10,11,12] (by rfl) ?_;simp+decide only[qa,ev,qK,qG,putD,VG,VH,VI,Ka,Kb,↓qo,qh,qE,cond_false,qz,QW,↓qg,qd,hwj];try simp only[qR]
   exact⟨⟨j+1,n2,H2⟩,rfl,Vh _,⟨hs_H2,hj',by simp only;rw[hga,hX];simp⟩,by simp only;omega⟩
 ·try simp only[decide_eq_false_iff_not]at hb1
  have hjq:j=qs.length:=by omega
  rw[hjq,J8]at hg;refine QI ?_;change Awp _ _ _ _ _ _ _;refine awp_rseq [2] (by rfl) fun K hK=>?_;simp+decide only[qa,ev,putD,VG,VH,VI,Ka,Kb,↓qg,qd,↓qf,qc];apply hK;clear hK K;refine Qn ?_;refine Qu (qJ (qO)) ?_;simp+decide only[VH,if_true,Qg];refine⟨H,Vh _,?_,hs_H⟩;rw[hg];simp
theorem c_cnt(wz:World):∀(d:Nat) (h:AHeap) (v:AVal) (l:List StC),StsV wz d h v l->SmallS d l->Xj d l<=1000000000000->ACall Tryz.prog wz 49 [v] h (fun r h'=>r= .int .i64 (Xj d l)/\Sub h h')
 |0,h,v,l,hs,hsm,hT=>by
  obtain⟨rfl,hv⟩:=sts0 hs;exact c_cnt0 wz h v hv
 |d+1,h,v,l,hs,hsm,hT=>c_cntS wz d h v l hs hsm hT fun h' v l hs hsm hT=>c_cnt wz d h' v l hs hsm hT
def qmF(d:Nat)(l:List StC):Nat:=if YF 32 l=true then 0 else Xj d l
theorem c_Count(wz:World)(d:Nat)(h:AHeap)(v:AVal)(l:List StC)(hs:StsV wz d h v l)(hsm:SmallS d l)(hT:Xj d l<=1000000000000):ACall Tryz.prog wz 26 [v] h (fun r h'=>r= .int .i64 (qmF d l)/\Sub h h'):=by
 have hlv:=hs.shape.1;refine Ql (n:=7) (rs:=[.tmp 2]) Tryz.func26 rfl rfl rfl rfl (VF rfl) ?_;simp only[Qm];refine awp_rseq [0] (by rfl) fun K hK=>?_;simp+decide only[qa,ev,qK,qG,putD,VG,VI,Ka,Kb,↓qf,qc];apply hK;clear hK K;refine qF ?_;refine awp_rseq [0,4] (by rfl) fun K hK=>?_;simp+decide only[ev,putD,VG,VH,Ka,Kb,↓qg,qd];refine qY (by rfl) (by rfl) (qjw wz 32 d _ v l (by decide) hs hsm) fun x1q1 h1q1 hx1q1=>?_;obtain⟨rfl,hs1⟩:=hx1q1;have hs_h1q1:Sub h h1q1:=Ba zqC hs1;have hr_h1q1:=hs_h1q1;simp+decide only[qa,putD,VG,VI,Ka];apply hK;clear hK K;refine qM (b:=_) rfl (fun hb1=>?_) (fun hb1=>?_)
 ·skip
  refine awp_rseq [2] (by rfl) fun K hK=>?_;simp+decide only[qa,ev,qK,qG,putD,VG,VI,Ka,Kb,↓qf,qc];apply hK;clear hK K;refine Qn ?_;try simp only[QM]
  refine Qu (qJ (qO)) ?_;simp+decide only[VH,if_true,Qg];exact⟨h,by assumption,by unfold qmF;rw[if_pos hb1];rfl,Vh _⟩
 ·skip
  refine qV ?_;change Awp _ _ _ _ _ _ _;refine awp_rseq [2] (by rfl) fun K hK=>?_;simp+decide only[ev,putD,VG,VH,Ka,Kb,↓qg,qd];refine qY (by rfl) (by rfl) (c_cnt wz d _ v l (hs.mono zqB) hsm hT) fun x3q1 h3q1 hx3q1=>?_;obtain⟨rfl,hs3⟩:=hx3q1;have hs_h3q1:Sub h h3q1:=Ba zqC hs3;have hr_h3q1:Sub h1q1 h3q1:=Ba zqC hs3;simp+decide only[qa,ev,putD,VG,VH,VI,Ka,Kb,↓qf,qc];apply hK;clear hK K;refine Qn ?_;refine Qu (qJ (qO)) ?_;simp+decide only[VH,if_true,Qg];exact⟨h,by assumption,by unfold qmF;rw[if_neg (by rw[hb1];decide)],Vh _⟩
theorem tk_step{a b:List TokC}{j:Nat}(ha:j<a.length)(hb:j<b.length):ZI (a.drop j) (b.drop j)=(decide ((a.getD j noT).kind=(b.getD j noT).kind) && (decide ((a.getD j noT).text=(b.getD j noT).text) && ZI (a.drop (j+1)) (b.drop (j+1)))):=by
 unfold ZI;rw[J9 ha,J9 hb];simp only[Ke,List.cons.injEq,Prod.mk.injEq,Ko,JH ha,JH hb,Option.getD_some];by_cases h1:a[j].kind=b[j].kind<;>by_cases h2:a[j].text=b[j].text<;>simp[h1,h2]
set_option maxHeartbeats 4000000 in
theorem qnL(wz:World)(h:AHeap)(v w:AVal)(a b:List TokC)(hv:IsL wz h 5 v (a.map Xy))(hw:IsL wz h 5 w (b.map Xy))(ha:a.length<=1000000):
 ACall Tryz.prog wz 65 [v,w] h (fun r h'=>r= .bool (ZI a b)/\h'=h):=by
 have hlv:=hv.live;have hlw:=hw.live;have nv:=Zt hv;have nw:=Zt hw;refine Ql (n:=41) (rs:=[.tmp 4]) Tryz.func65 rfl rfl rfl rfl (VF rfl) ?_;simp only[Qm];refine awp_rseq [0,1] (by rfl) fun K hK=>?_;simp+decide only[qa,ev,qK,qG,putD,VG,VI,Ka,Kb,↓qf,qc,Jq];apply hK;clear hK K;refine qF ?_;refine awp_rseq [0,1,10] (by rfl) fun K hK=>?_;simp+decide only[qa,ev,putD,VG,VH,VI,Ka,Kb,↓qg,qd,↓QB,Qo,↓qo,qh,qN,cond_false,qz,WW,nv,nw];apply hK;clear hK K;refine qM (b:=_) rfl (fun hb1=>?_) (fun hb1=>?_)
 ·try simp only[decide_eq_false_iff_not,Ji]at hb1
  have hne:a.length≠b.length:=by omega
  refine awp_rseq [4] (by rfl) fun K hK=>?_;simp+decide only[qa,ev,qK,qG,putD,VG,VI,Ka,Kb,↓qf,qc];apply hK;clear hK K;refine Qn ?_;try simp only[QM]
  refine Xf h zqC (qJ (qO)) ?_;simp+decide only[VH,if_true,and_true,Qg];have:ZI a b=false:=by
   unfold ZI;rw[decide_eq_false];intro e;have:=congrArg List.length e;rw[Jo,Jo]at this;exact hne this
  rw[this]
 ·try simp only[decide_eq_true_eq,VK]at hb1
  have heq:a.length=b.length:=by omega
  refine qV ?_;change Awp _ _ _ _ _ _ _;refine qF ?_;refine awp_rseq [0,1,12,13] (by rfl) fun K hK=>?_;simp+decide only[qa,ev,qK,qG,putD,VG,VH,VI,Ka,Kb,↓qg,qd,↓QB,Qo,nv];apply hK;clear hK K;refine Qb ?_;refine QN [0,1,12,13] (fun j:Nat=>[(0,v),(1,w),(12, .int .i64 a.length),(13, .int .i64 j)]) (fun j:Nat=>h) (fun j:Nat=>j<=a.length/\ZI a b=ZI (a.drop j) (b.drop j)) (fun j:Nat=>a.length-j) 0 (by rfl) (Vh _) ⟨Jr _,rfl⟩ ?_;rintro j ⟨hj,hg⟩;refine awp_rseq [0,1,12,13,14] (by rfl) fun K hK=>?_;simp+decide only[qa,ev,putD,VG,VH,VI,Ka,Kb,↓qo,qh,qN,cond_false,qz,Xt];apply hK;clear hK K;refine qF (qM (b:=_) rfl (fun hb2=>?_) (fun hb2=>?_))
  ·try simp only[decide_eq_true_eq]at hb2
   have hj1:j<a.length:=by omega
   have hj2:j<b.length:=by omega
   obtain⟨lc,o,c,hve⟩:=ZT hv (by omega);obtain⟨lw,ow,cw,hwe⟩:=ZT hw (by omega);have hv2:=hv;have hw2:=hw;rw[hve]at hv2;rw[hwe]at hw2;obtain⟨e0,e1,-⟩:=WE hv2 hj1;obtain⟨f0,f1,-⟩:=WE hw2 hj2;have hst:=tk_step hj1 hj2;obtain⟨t,ht⟩:∃t,t=a.getD j noT:=⟨_,rfl⟩
   obtain⟨u,hu⟩:∃u,u=b.getD j noT:=⟨_,rfl⟩
   rw[<-ht]at e0 e1 hst;rw[<-hu]at f0 f1 hst;have hk:=ZY t.kind u.kind;have hjb:((j:Int)<(b.length:Int))=True:=eq_true (by omega);have hja:((j:Int)<(a.length:Int))=True:=eq_true (by omega);have hwj:IntKind.i64.wrap ((j:Int)+1)=((j+1:Nat):Int):=by rw[wrap_i64 (by omega) (by omega)];omega
   refine qV ?_;change Awp _ _ _ _ _ _ _;refine qF ?_;refine Qb ?_;refine awp_rseq [0,1,5,12,13] (by rfl) fun K hK=>?_;simp+decide only[qa,ev,putD,VG,VH,VI,Ka,Kb,↓qg,qd,↓qf,qc];apply hK;clear hK K;refine WP [0,1,12,13,39] mixed (by kernel_rfl) (by rfl) (by rfl) fun K hK=>?_;simp+decide only[qa,ev,qK,qG,putD,VG,VH,VI,Ka,Kb,and_true,↓qg,qd,↓qZ,Qc,qA Tryz.underlying39 Yl,↓qC,qi,WZ,↓qI,qj qjH,↓qo,qh,qN,cond_false,qz,WW,↓Xc,agP,Qs,qW,qP,qU,implies_true,BN,↓Zp,Xp,ZL,agL_il5,agL_ir5,↓Xe,qbw,Wo,Wp,↓XJ,qmy,qj ag9,↓QJ,XL,UV,XM,UW,Qp,Um,↓QC,Qr,Qe,qau,XO,QL,Qw,hve,hwe,e0,e1,f0,f1,hk,hjb,hja,VN,K7];repeat (with_reducible refine And.intro ?_ ?_;· first|trivial|omega|(intro hg;simp only[Ky,JF,Ji,VO,VL,VK,decide_eq_true_eq,decide_eq_false_iff_not,Xd]at hg;omega))
   apply hK;clear hK K;refine qM (b:=_) rfl (fun hb3=>?_) (fun hb3=>?_)
   ·try simp only[decide_eq_false_iff_not,Ji,JF]at hb3
    refine awp_rseq [4] (by rfl) fun K hK=>?_;simp+decide only[qa,ev,qK,qG,putD,VG,VI,Ka,Kb,↓qf,qc];apply hK;clear hK K;refine Qn ?_;try simp only[QM,Xl]
    refine Xf h zqC (qJ (qO)) ?_;simp+decide only[VH,if_true,and_true,Qg];rw[hg,hst];rcases hb3 with z|z
    ·rw[decide_eq_false z];rfl
    ·rw[decide_eq_false z,BO,Bf]
   ·try simp only[decide_eq_true_eq,VK,VL]at hb3
    refine qV ?_;change Awp _ _ _ _ _ _ _;refine Xa [0,1,12,13] (by rfl) ?_;simp+decide only[qa,ev,qK,qG,putD,VG,VH,VI,Ka,Kb,↓qo,qh,qE,cond_false,qz,QW,↓qg,qd,hwj];try simp only[qR]
    refine⟨j+1,by rw[hve,hwe];rfl,Vh _,⟨hj1,?_⟩,by omega⟩;obtain⟨z1,z2⟩:=hb3;rw[hg,hst,decide_eq_true z1,decide_eq_true z2,VP,VP]
  ·try simp only[decide_eq_false_iff_not]at hb2
   refine QI ?_;change Awp _ _ _ _ _ _ _;refine awp_rseq [4] (by rfl) fun K hK=>?_;simp+decide only[qa,ev,qK,qG,putD,VG,VI,Ka,Kb,↓qf,qc];apply hK;clear hK K;refine Qn ?_;refine Xf h zqC (qJ (qO)) ?_;simp+decide only[VH,if_true,and_true,Qg];rw[hg,V8 (by omega),V8 (by omega)];rfl
def spT(w:Str):TokC:=⟨if w=[61]then 5 else 1,w,0,0,false⟩
def WU(s:Str):List TokC:=(Lib.fields s).map spT
structure SlG where
 i:Nat
 rv:AVal
 rp:AHeap
 H:AHeap
set_option maxHeartbeats 4000000 in
theorem qml(wz:World)(ha:Asp wz)(h:AHeap)(s:Str)(hl:s.length<=1000000)(has:asciiB s=true):
 ACall Tryz.prog wz 68 [.str s] h (fun r h'=>IsL wz h' 5 r ((WU s).map Xy)/\Sub h h'):=by
 obtain⟨ws,hws⟩:∃ws,ws=Lib.fields s:=⟨_,rfl⟩
 have hwl:ws.length<=1000001:=by rw[hws];exact Vd (fields_few s) (by omega)
 have hR:WU s=ws.map spT:=by rw[hws];rfl
 rw[hR];refine Ql (n:=25) (rs:=[.tmp 2]) Tryz.func68 rfl rfl rfl rfl (VF rfl) ?_;simp only[Qm];refine awp_rseq [0] (by rfl) fun K hK=>?_;simp+decide only[qa,ev,qK,qG,putD,VG,VI,Ka,Kb,↓qf,qc];apply hK;clear hK K;refine awp_rseq [0,3] (by rfl) fun K hK=>?_;simp+decide only[qa,ev,qK,qG,putD,VG,VI,Ka,Kb,↓qf,qc];apply hK;clear hK K;refine qF ?_;refine awp_rseq [3,8,9,10] (by rfl) fun K hK=>?_;simp+decide only[ev,putD,VG,VH,Ka,Kb,↓qg,qd];refine qY (by rfl) (by rfl) (qcu wz ha _ s (by omega) has) fun x2q1 h2q1 hx2q1=>?_;obtain⟨kw,hkw,rfl,e2⟩:=hx2q1;rw[<-hws]at e2|-
 have hS0:=BL (ps:=[h]) ⟨fun p hp=>by rw[VM.1 hp];exact Vh _,by simp⟩ hkw ⟨ws.map AVal.str,0⟩;rw[<-e2]at hS0;simp only[Kh,Je]at hS0;have lw:=UF (qbD (wz:=wz) (hS0.at_ (i:=1) rfl));simp+decide only[qa,ev,qK,qG,putD,VG,VH,VI,Ka,Kb,↓QB,Qo,Xr Tryz.underlying22,↓qg,qd];apply hK;clear hK K;refine Qb ?_;refine QN [3,8,9,10] (fun g:SlG=>[(3,g.rv),(8, .slice (.own kw) 0 ws.length (.exact ws.length)),(9, .int .i64 ws.length),(10, .int .i64 g.i)]) (fun g:SlG=>g.H) (fun g:SlG=>g.i<=ws.length/\Sep [h,one kw ⟨ws.map AVal.str,0⟩,g.rp] g.H/\GrowV 5 g.rv g.rp (((ws.take g.i).map spT).map Xy)) (fun g:SlG=>ws.length-g.i) ⟨0, .nilSlice,emp,h2q1⟩ (by rfl) (Vh _) ⟨Jr _,hS0.emp, .nil⟩ ?_;rintro⟨i,rv,rp,H⟩ ⟨hi,hS,hrow⟩;simp only at hi hS hrow|-
 have eb_w:H kw=some _:=hS.at_ (i:=1) rfl;have hs_H:Sub h H:=hS.in_ (i:=0) rfl;have hrl:=hrow.live;refine awp_rseq [3,8,9,10,11] (by rfl) fun K hK=>?_;simp+decide only[qa,ev,putD,VG,VH,VI,Ka,Kb,↓qo,qh,qN,cond_false,qz,Xt];apply hK;clear hK K;refine qF (qM (b:=_) rfl (fun hb1=>?_) (fun hb1=>?_))
 ·try simp only[decide_eq_true_eq]at hb1
  have hi':i<ws.length:=by omega
  obtain⟨w,hw⟩:∃w,w=ws.getD i []:=⟨_,rfl⟩
  have ew:=qdw (wz:=wz) eb_w hi';rw[<-hw,Qj wz eb_w]at ew;have htk:ws.take (i+1)=ws.take i++[w]:=by rw[Vq,JH hi',hw];simp[Ko,hi']
  have hwi:IntKind.i64.wrap ((i:Int)+1)=((i+1:Nat):Int):=by rw[wrap_i64 (by omega) (by omega)];omega
  refine qV ?_;change Awp _ _ _ _ _ _ _;refine qF ?_;refine Qb ?_;refine awp_rseq [3,5,8,9,10] (by rfl) fun K hK=>?_;simp+decide only[qa,ev,putD,VG,VH,VI,Ka,Kb,↓qZ,Qc,qA Tryz.underlying22 sz9,↓qI,qj ag9,↓qf,qc,Qj wz eb_w,Jq,Qw,ew,VN,V5,Jq];repeat (with_reducible refine And.intro ?_ ?_;· first|trivial|omega|(intro hg;simp only[Ky,JF,Ji,VO,VL,VK,decide_eq_true_eq,decide_eq_false_iff_not,Xd]at hg;omega))
  apply hK;clear hK K;refine awp_rseq [3,5,6,8,9,10] (by rfl) fun K hK=>?_;simp+decide only[ev,qK,qG,putD,VG,VH,Ka,Kb,↓qg,qd,↓Zo,↓Xz,qhk,evP,Ke,Vj];refine Xb qdo (cs:=[.int .u8 0, .str [], .int .i64 0, .int .i64 0, .bool false]) (by rfl) fun k5q2 hk5q2=>?_;have hn_5q2:H k5q2=none:=by first|assumption|(simp only[VU]at hk5q2;simp only[hk5q2])
  have hf_5q2:h k5q2=none:=VV hs_H hn_5q2;have ne_5q2_w:k5q2≠kw:=VW hn_5q2 eb_w;refine Qi (by rfl) (by rfl) zqA Yl (by rfl) (by rfl) zqD (Jr _) (by rfl) ?_;simp only[VX,VY];simp+decide only[qa,ev,putD,VG,VH,VI,Ka,setAt,VZ,Kj,Jq,Nat.reduceAdd];apply hK;clear hK K;refine qF ?_;refine awp_rseq [3,6,8,9,10,17] (by rfl) fun K hK=>?_;simp+decide only[qa,ev,qK,qG,putD,VG,VH,VI,Ka,Kb,↓qg,qd,↓qo,qh,Qy,cond_false,Qp,XP];apply hK;clear hK K;refine qM (b:=_) rfl (fun hb2=>?_) (fun hb2=>?_)
  ·try simp only[decide_eq_true_eq]at hb2
   have hcs:[AVal.int .u8 5, .str w, .int .i64 0, .int .i64 0, .bool false]=Xy (spT w):=by unfold spT;rw[if_pos hb2];rfl
   refine Xa [3,6,8,9,10] (by rfl) ?_;simp+decide only[ev,putD,VG,VH,Ka,Kb,↓qC,qi,WZ,Jq];refine Qi (by rfl) (by rfl) zqA sz40 (by rfl) (by rfl) zqD (Jr _) (by rfl) ?_;simp only[VX,VY];simp+decide only[qa,ev,qK,qG,putD,VI,Ka,setAt,VZ];change Awp _ _ _ _ _ _ _;refine Xa [3,8,9,10] (by rfl) ?_;simp+decide only[ev,putD,VG,VH,Ka,Kb,↓qg,qd,↓qI,Qc,Qz qhZ Yl,XN,Qd,VJ,Kn,Jq,Nat.reduceAdd,YP,QL,Qw,allLive,J4]
   (refine Qh (cs:=[.int .u8 5, .str w, .int .i64 0, .int .i64 0, .bool false]) (by rfl) fun k8q2 hk8q2=>?_)
   rw[hcs]at hk8q2|-
   refine ZM (es:=5) (v:=rv) (p:=rp) (xs:=((ws.take i).map spT).map Xy) (ys:=[Xy (spT w)]) (i:=2) (by rfl) (by rfl) Tryz.underlying39 Tryz.underlying39 (fun k e=>by cases e) Yl qfo qdo (by rfl) (by decide) (by rfl) hrow rfl (hS.forget ((Vi hn_5q2).trans (Vi hk8q2))) (by rfl) (Bh (Vg _ _ _) (fun x hx=>by rw[VM.1 hx];rfl) (by simp) (by rfl) (.exact 1) (KM _)) (by rfl) (by simp) (by simp only[Jo,K5,JA];omega) (by simp only[Jo,K5,JA];omega) fun rv2 rp2 h8 hrow2 _ hS2=>?_;simp+decide only[qa,ev,putD,VG,VH,VI,Ka,Kb,↓qf,qc];change Awp _ _ _ _ _ _ _;refine Xa [3,8,9,10] (by rfl) ?_;simp+decide only[qa,ev,qK,qG,putD,VG,VH,VI,Ka,Kb,↓qo,qh,qE,cond_false,qz,QW,↓qg,qd,hwi];try simp only[qR]
   exact⟨⟨i+1,rv2,rp2,h8⟩,rfl,Vh _,⟨hi',hS2,by simp only;rw[htk,Vr,Vr];exact hrow2⟩,by simp only;omega⟩
  ·try simp only[decide_eq_false_iff_not]at hb2
   have hcs:[AVal.int .u8 1, .str w, .int .i64 0, .int .i64 0, .bool false]=Xy (spT w):=by unfold spT;rw[if_neg hb2];rfl
   refine qV ?_;change Awp _ _ _ _ _ _ _;refine Xa [3,8,9,10] (by rfl) ?_;simp+decide only[ev,putD,VG,VH,Ka,Kb,↓qg,qd,↓qI,Qc,Qz qhZ Yl,XN,Qd,VJ,Kn,Jq,Nat.reduceAdd,YP,QL,Qw,allLive,J4]
   (refine Qh (cs:=[.int .u8 1, .str w, .int .i64 0, .int .i64 0, .bool false]) (by rfl) fun k8q2 hk8q2=>?_)
   rw[hcs]at hk8q2|-
   refine ZM (es:=5) (v:=rv) (p:=rp) (xs:=((ws.take i).map spT).map Xy) (ys:=[Xy (spT w)]) (i:=2) (by rfl) (by rfl) Tryz.underlying39 Tryz.underlying39 (fun k e=>by cases e) Yl qfo qdo (by rfl) (by decide) (by rfl) hrow rfl (hS.forget ((Vi hn_5q2).trans (Vi hk8q2))) (by rfl) (Bh (Vg _ _ _) (fun x hx=>by rw[VM.1 hx];rfl) (by simp) (by rfl) (.exact 1) (KM _)) (by rfl) (by simp) (by simp only[Jo,K5,JA];omega) (by simp only[Jo,K5,JA];omega) fun rv2 rp2 h8 hrow2 _ hS2=>?_;simp+decide only[qa,ev,putD,VG,VH,VI,Ka,Kb,↓qf,qc];change Awp _ _ _ _ _ _ _;refine Xa [3,8,9,10] (by rfl) ?_;simp+decide only[qa,ev,qK,qG,putD,VG,VH,VI,Ka,Kb,↓qo,qh,qE,cond_false,qz,QW,↓qg,qd,hwi];try simp only[qR]
   exact⟨⟨i+1,rv2,rp2,h8⟩,rfl,Vh _,⟨hi',hS2,by simp only;rw[htk,Vr,Vr];exact hrow2⟩,by simp only;omega⟩
 ·try simp only[decide_eq_false_iff_not]at hb1
  have hin:i=ws.length:=by omega
  rw[hin,Jp]at hrow;refine QI ?_;change Awp _ _ _ _ _ _ _;refine awp_rseq [2] (by rfl) fun K hK=>?_;simp+decide only[qa,ev,putD,VG,VH,VI,Ka,Kb,↓qg,qd,↓qf,qc];apply hK;clear hK K;refine Qn ?_;refine Qu (qJ (qO)) ?_;simp+decide only[VH,if_true,Qg];exact⟨H,Vh _,hrow.isL (hS.in_ (i:=2) rfl),hs_H⟩
end Go.Proofs.YtgiadjbiimkbiaaGreatDoor
namespace Go.Stm
open Go.Col (Str FaultC okF)
open Go.Tok
theorem qkK:∀(a b:List Str) (i:Nat),qaE i (a++b)=qaE i a++qaE (i+a.length) b
 |[],b,i=>by rw[Je,JN,K7];rfl
 |w::a,b,i=>by
  rw[Kh,qaE,qaE,qkK a b (i+1),KY,Kh,show i+1+a.length=i+(a.length+1) by omega]
theorem qen:∀(a:List Str) (i:Nat),(qaE i a).length=a.length
 |[],_=>rfl
 |w::a,i=>by rw[qaE,KY,KY,qen a]
theorem qoS{ws:List Str}{i:Nat}(hi:i<ws.length):qaE 0 (ws.take (i+1))=qaE 0 (ws.take i)++[qag i (ws.getD i [])]:=by
 rw[Vq,JH hi,Option.toList,qkK,K5,Nat.min_eq_left (by omega),Jq];simp[qaE,Ko,hi]
theorem qdI(s:Str):(Xg s).length=(Lib.fields s).length:=qen _ _
end Go.Stm
namespace Go.Proofs.YtgiadjbiimkbiaaGreatDoor
open Go.AM
open Go.Proofs
open Go.Col (Str FaultC okF)
open Go.Tok (TokC)
open Go.Stm
open Go.RowKit (Below)
set_option maxRecDepth 100000
structure LtG where
 i:Nat
 rv:AVal
 rp:AHeap
 H:AHeap
theorem trimB_le(s:Str)(c:UInt8):(Lib.trimB s c).length<=s.length:=by
 have hd:∀(p:UInt8->Bool) (s:Str),(s.dropWhile p).length<=s.length:=by
  intro p s;induction s with
  |nil=>exact KM _
  |cons b s ih=>
   rw[BP];split
   ·rw[KY];omega
   ·exact KM _
 unfold Lib.trimB
 (unfold Lib.trimLeftB Lib.trimRightB;have h1:=hd (· ==c) s.reverse;have h2:=hd (· ==c) (List.dropWhile (· ==c) s.reverse).reverse;rw[BQ]at h1 h2;omega)
theorem qoR{s:Str}{n:Nat}(h:s.length<=n)(i:Nat):(qag i s).text.length<=n:=by
 unfold qag;repeat' split
 all_goals first|exact Vd (trimB_le _ _) h|exact h
theorem qhE{n:Nat}:∀(l:List Str) (i:Nat),(∀w∈l,w.length<=n)->∀t∈qaE i l,t.text.length<=n
 |[],_,_,t,ht=>by cases ht
 |w::l,i,h,t,ht=>by
  rcases KX.1 ht with rfl|ht
  ·exact qoR (h w Jf) _
  ·exact qhE l _ (fun w hw=>h w (Jg _ hw)) t ht
theorem Ww{s:Str}(hl:s.length<=1000000):Short (Xg s):=qhE _ _ fun w hw=>Vd (fields_small w hw) hl
theorem Uv{s:Str}(hl:s.length<=999999):(Xg s).length<=1000000:=by rw[qdI];exact Vd (fields_few s) (by omega)
set_option maxHeartbeats 8000000 in
theorem qct(wz:World)(hm:MaxL wz)(ha:Asp wz)(h:AHeap)(s:Str)(hl:s.length<=999999)(has:asciiB s=true):
 ACall Tryz.prog wz 16 [.str s] h (fun r h'=>∃p,GrowV 5 r p ((Xg s).map Xy)/\isG r=true/\Sep [h,p] h'):=by
 obtain⟨ws,hws⟩:∃ws,ws=Lib.fields s:=⟨_,rfl⟩
 have hwl:ws.length<=1000000:=by rw[hws];exact Vd (fields_few s) (by omega)
 have hwa:∀w∈ws,w.length<=1000000/\w≠[]:=fun w hw=>by
  rw[hws]at hw;exact⟨Vd (fields_small w hw) (by omega),qfi w hw⟩
 have hR:Xg s=qaE 0 ws:=by rw[hws];rfl
 rw[hR];refine Ql (n:=66) (rs:=[.tmp 2]) Tryz.func16 rfl rfl rfl rfl (VF rfl) ?_;simp only[Qm];refine awp_rseq [0] (by rfl) fun K hK=>?_;simp+decide only[qa,ev,qK,qG,putD,VG,VI,Ka,Kb,↓qf,qc];apply hK;clear hK K;refine awp_rseq [0,3] (by rfl) fun K hK=>?_;simp+decide only[qa,ev,qK,qG,putD,VG,VI,Ka,Kb,↓qf,qc];apply hK;clear hK K;refine awp_rseq [3,4] (by rfl) fun K hK=>?_;simp+decide only[ev,putD,VG,VH,Ka,Kb,↓qg,qd];refine qY (by rfl) (by rfl) (qcu wz ha _ s (by omega) has) fun x2q1 h2q1 hx2q1=>?_;obtain⟨kw,hkw,rfl,e2⟩:=hx2q1;rw[<-hws]at e2|-
 have hS0:=BL (ps:=[h]) ⟨fun p hp=>by rw[VM.1 hp];exact Vh _,by simp⟩ hkw ⟨ws.map AVal.str,0⟩;rw[<-e2]at hS0;simp only[Kh,Je]at hS0;have lw:=UF (qbD (wz:=wz) (hS0.at_ (i:=1) rfl));simp+decide only[qa,ev,putD,VG,VH,VI,Ka,Kb,↓qf,qc];apply hK;clear hK K;refine qF ?_;refine awp_rseq [3,4,5] (by rfl) fun K hK=>?_;simp+decide only[qa,ev,qK,qG,putD,VG,VI,Ka,Kb,↓qf,qc];apply hK;clear hK K;refine Qb ?_;refine QN [3,4,5] (fun g:LtG=>[(3,g.rv),(4, .slice (.own kw) 0 ws.length (.exact ws.length)),(5, .int .i64 g.i)]) (fun g:LtG=>g.H) (fun g:LtG=>g.i<=ws.length/\Sep [h,one kw ⟨ws.map AVal.str,0⟩,g.rp] g.H/\GrowV 5 g.rv g.rp ((qaE 0 (ws.take g.i)).map Xy)/\isG g.rv=true) (fun g:LtG=>ws.length-g.i) ⟨0, .nilSlice,emp,h2q1⟩ (by rfl) (Vh _) ⟨Jr _,hS0.emp, .nil,rfl⟩ ?_;rintro⟨i,rv,rp,H⟩ ⟨hi,hS,hrow,hG⟩;simp only at hi hS hrow hG|-
 have eb_w:H kw=some _:=hS.at_ (i:=1) rfl;have hs_H:Sub h H:=hS.in_ (i:=0) rfl;have hrl:=hrow.live;refine qF ?_;refine awp_rseq [3,4,5,13] (by rfl) fun K hK=>?_;simp+decide only[qa,ev,putD,VG,VH,VI,Ka,Kb,↓qg,qd,↓QB,Qo,Xr Tryz.underlying22,↓qo,qh,qN,cond_false,qz,Xt];apply hK;clear hK K;refine qM (b:=_) rfl (fun hb1=>?_) (fun hb1=>?_)
 ·try simp only[decide_eq_true_eq]at hb1
  have hi':i<ws.length:=by omega
  obtain⟨w,hw⟩:∃w,w=ws.getD i []:=⟨_,rfl⟩
  have ew:=qdw (wz:=wz) eb_w hi';rw[<-hw,Qj wz eb_w]at ew;have hst:=qoS hi';rw[<-hw]at hst;obtain⟨hwn,hwp⟩:=hwa w (by rw[hw,Ko,JH hi'];exact VA hi');have hwi:IntKind.i64.wrap ((i:Int)+1)=((i+1:Nat):Int):=by rw[wrap_i64 (by omega) (by omega)];omega
  have hw0:((0:Int)<w.length)=True:=eq_true (by have:=Bc.2 hwp;omega);have h34:∀c:UInt8,decide ((c.toNat:Int)=34)=decide (c=34):=fun c=>ZY c 34;have h48:∀c:UInt8,decide ((c.toNat:Int) >= 48)=decide (48<=c):=fun c=>by rw[decide_eq_decide,BR];exact BS
  have h57:∀c:UInt8,decide ((c.toNat:Int)<=57)=decide (c<=57):=fun c=>by rw[decide_eq_decide,BR];exact BS
  refine qV ?_;change Awp _ _ _ _ _ _ _;refine qF ?_;refine Qb ?_;refine awp_rseq [3,4,5,6] (by rfl) fun K hK=>?_;simp+decide only[ev,qK,qG,putD,VG,VH,Ka,Kb,↓qg,qd,↓qZ,Qc,qA Tryz.underlying22 sz9,↓qI,qj ag9,↓qo,qh,qE,cond_false,qz,QW,↓Zo,↓Xz,qlf,evP,Ke,Vj,qnZ,Qj wz eb_w,Jq,Qw,ew,VN,V5,Jq,hwi];repeat (with_reducible refine And.intro ?_ ?_;· first|trivial|omega|(intro hg;simp only[Ky,JF,Ji,VO,VL,VK,decide_eq_true_eq,decide_eq_false_iff_not,Xd]at hg;omega))
  refine Xb qdo (cs:=[.int .u8 0, .str [], .int .i64 0, .int .i64 0, .bool false]) (by rfl) fun k6q8 hk6q8=>?_;have hn_6q8:H k6q8=none:=by first|assumption|(simp only[VU]at hk6q8;simp only[hk6q8])
  have hf_6q8:h k6q8=none:=VV hs_H hn_6q8;have ne_6q8_w:k6q8≠kw:=VW hn_6q8 eb_w;refine Qi (by rfl) (by rfl) zqA Yl (by rfl) (by rfl) zqD (Jr _) (by rfl) ?_;simp only[VX,VY];simp+decide only[qa,ev,putD,VG,VH,VI,Ka,setAt,VZ,Kj,Jq,Nat.reduceAdd,Jq];apply hK;clear hK K;refine qF ?_;refine awp_rseq [3,4,5,6,7] (by rfl) fun K hK=>?_;simp+decide only[qa,ev,qK,qG,putD,VG,VH,VI,Ka,Kb,and_true,↓qg,qd,↓qZ,Qc,qA Tryz.underlying22 sz9,↓qI,qj ag9,↓qjF,qgL,qff Tryz.underlying9,↓qf,qc,YI,ne_eq,not_false_eq_true,ne_6q8_w.symm,Qj wz eb_w,Jq,Qw,ew,VN,V5,Jq,hw0];repeat (with_reducible refine And.intro ?_ ?_;· first|trivial|omega|(intro hg;simp only[Ky,JF,Ji,VO,VL,VK,decide_eq_true_eq,decide_eq_false_iff_not,Xd]at hg;omega))
  apply hK;clear hK K;refine Yy [3,4,5,6] (fun t:TokC=>[(3,rv),(4, .slice (.own kw) 0 ws.length (.exact ws.length)),(5, .int .i64 i),(6, .ptr (.own k6q8) 0)]) (fun t:TokC=>H.set k6q8 ⟨Xy t,0⟩) (fun t:TokC=>t=qag i w) ?_ ?_
  ·refine Qb ?_
   refine awp_rseq [3,4,5,6,7,29] (by rfl) fun K hK=>?_;simp+decide only[qa,ev,qK,qG,putD,VG,VH,VI,Ka,Kb,↓qg,qd,↓qo,qh,qE,cond_false,qz,XV,↓qf,qc,h34];apply hK;clear hK K;refine qM (b:=_) rfl (fun hb2=>?_) (fun hb2=>?_)
   ·try simp only[decide_eq_true_eq]at hb2
    have hT:qag i w=⟨3,Lib.trimB w 34,(i+1:Nat),8,false⟩:=by unfold qag;exact if_pos hb2
    refine awp_rseq [3,4,5,6] (by rfl) fun K hK=>?_;simp+decide only[ev,putD,VG,VH,Ka,Kb,↓qC,qi,WZ,Jq];refine Qi (by rfl) (by rfl) zqA sz40 (by rfl) (by rfl) zqD (Jr _) (by rfl) ?_;simp only[VX,VY];simp+decide only[qa,ev,qK,qG,putD,VI,Ka,setAt,VZ];apply hK;clear hK K;refine Xa [3,4,5,6] (by rfl) ?_;simp+decide only[ev,putD,VG,VH,Ka,Kb,↓qg,qd,↓qZ,Qc,qA Tryz.underlying22 sz9,↓qI,qj ag9,YI,ne_eq,not_false_eq_true,ne_6q8_w.symm,Qj wz eb_w,Jq,Qw,ew,VN,V5,Jq];repeat (with_reducible refine And.intro ?_ ?_;· first|trivial|omega|(intro hg;simp only[Ky,JF,Ji,VO,VL,VK,decide_eq_true_eq,decide_eq_false_iff_not,Xd]at hg;omega))
    refine QS (V:= .str (Lib.trimB w 34)) (by rfl) (by rfl) (c_trim1 wz _ w 34 (by omega) (by decide)) ?_;simp+decide only[ev,putD,VG,VH,Ka,Kb,↓qC,qi,qbw,Jq,Jq];refine Qi (by rfl) (by rfl) zqA sz9 (by rfl) (by rfl) zqD (Jr _) (by rfl) ?_;simp only[VX,VY];simp+decide only[qa,ev,putD,VH,VI,Ka,setAt,VZ,Kj];try simp only[qR,Zg]
    exact⟨qag i w,rfl,by rw[hT];exact Vh _,rfl⟩
   ·try simp only[decide_eq_false_iff_not]at hb2
    refine awp_rseq [3,4,5,6,39] (by rfl) fun K hK=>?_;simp+decide only[qa,ev,qK,qG,putD,VG,VH,VI,Ka,Kb,↓qg,qd,↓qo,qh,qE,cond_false,qz,qiV,↓Xc,agP,Qs,qW,qP,qH,implies_true,↓QJ,XL,XM,qoK,↓QC,Qr,Qe,QT,QH,↓qf,qc,h48,h57];apply hK;clear hK K;refine qM (b:=_) rfl (fun hb3=>?_) (fun hb3=>?_)
    ·try simp only[decide_eq_true_eq,Ky]at hb3
     have hT:qag i w=⟨2,w,(i+1:Nat),8,false⟩:=by unfold qag;exact(if_neg hb2).trans (if_pos hb3)
     refine Xa [3,4,5,6] (by rfl) ?_;simp+decide only[ev,putD,VG,VH,Ka,Kb,↓qC,qi,WZ,Jq];refine Qi (by rfl) (by rfl) zqA sz40 (by rfl) (by rfl) zqD (Jr _) (by rfl) ?_;simp only[VX,VY];simp+decide only[qa,ev,qK,qG,putD,VI,Ka,setAt,VZ];try simp only[qR,Zg]
     exact⟨qag i w,rfl,by rw[hT];exact Vh _,rfl⟩
    ·try simp only[decide_eq_false_iff_not,VO]at hb3
     have hn3:¬(48<=w.getD 0 0/\w.getD 0 0<=57):=fun hh=>by rcases hb3 with z|z;exact z hh.1;exact z hh.2
     refine awp_rseq [3,4,5,6,47] (by rfl) fun K hK=>?_;simp+decide only[qa,ev,qK,qG,putD,VG,VH,VI,Ka,Kb,↓qg,qd,↓qZ,Qc,qA Tryz.underlying22 sz9,↓qI,qj ag9,↓qo,qh,Qy,cond_false,Qp,XP,↓qf,qc,YI,ne_eq,not_false_eq_true,ne_6q8_w.symm,Qj wz eb_w,Jq,Qw,ew,VN,V5,Jq];repeat (with_reducible refine And.intro ?_ ?_;· first|trivial|omega|(intro hg;simp only[Ky,JF,Ji,VO,VL,VK,decide_eq_true_eq,decide_eq_false_iff_not,Xd]at hg;omega))
     apply hK;clear hK K;refine qM (b:=_) rfl (fun hb4=>?_) (fun hb4=>?_)
     ·try simp only[decide_eq_true_eq]at hb4
      have hT:qag i w=⟨6,w,(i+1:Nat),8,false⟩:=by unfold qag;exact(if_neg hb2).trans ((if_neg hn3).trans (if_pos hb4))
      refine Xa [3,4,5,6] (by rfl) ?_;simp+decide only[ev,putD,VG,VH,Ka,Kb,↓qC,qi,WZ,Jq];refine Qi (by rfl) (by rfl) zqA sz40 (by rfl) (by rfl) zqD (Jr _) (by rfl) ?_;simp only[VX,VY];simp+decide only[qa,ev,qK,qG,putD,VI,Ka,setAt,VZ];try simp only[qR,Zg]
      exact⟨qag i w,rfl,by rw[hT];exact Vh _,rfl⟩
     ·try simp only[decide_eq_false_iff_not]at hb4
      refine awp_rseq [3,4,5,6,54] (by rfl) fun K hK=>?_;simp+decide only[ev,putD,VG,VH,Ka,Kb,↓qg,qd,↓qZ,Qc,qA Tryz.underlying22 sz9,↓qI,qj ag9,YI,ne_eq,not_false_eq_true,ne_6q8_w.symm,Qj wz eb_w,Jq,Qw,ew,VN,V5,Jq];repeat (with_reducible refine And.intro ?_ ?_;· first|trivial|omega|(intro hg;simp only[Ky,JF,Ji,VO,VL,VK,decide_eq_true_eq,decide_eq_false_iff_not,Xd]at hg;omega))
      refine QS (V:= .bool (Lib.contains qoz w)) (by rfl) (by rfl) (YM wz hm _ qoz w (by decide)) ?_;simp+decide only[qa,ev,putD,VG,VH,VI,Ka,Kb,↓qf,qc];apply hK;clear hK K;refine qM (b:=_) rfl (fun hb5=>?_) (fun hb5=>?_)
      ·skip
       have hT:qag i w=⟨5,w,(i+1:Nat),8,false⟩:=by unfold qag;exact(if_neg hb2).trans ((if_neg hn3).trans ((if_neg hb4).trans (if_pos hb5)))
       refine Xa [3,4,5,6] (by rfl) ?_;simp+decide only[ev,putD,VG,VH,Ka,Kb,↓qC,qi,WZ,Jq];refine Qi (by rfl) (by rfl) zqA sz40 (by rfl) (by rfl) zqD (Jr _) (by rfl) ?_;simp only[VX,VY];simp+decide only[qa,ev,qK,qG,putD,VI,Ka,setAt,VZ];try simp only[qR,Zg]
       exact⟨qag i w,rfl,by rw[hT];exact Vh _,rfl⟩
      ·skip
       have hT:qag i w=⟨1,w,(i+1:Nat),8,false⟩:=by unfold qag;exact(if_neg hb2).trans ((if_neg hn3).trans ((if_neg hb4).trans (if_neg (by rw[hb5];decide))))
       refine qV ?_;try simp only[qR,Zg]
       exact⟨qag i w,rfl,by rw[hT];exact Vh _,rfl⟩
  ·rintro t rfl
   refine Xa [3,4,5] (by rfl) ?_;simp+decide only[ev,putD,VG,VH,Ka,Kb,↓qg,qd,↓qI,Qc,Qz qhZ Yl,XN,Qd,VJ,Kn,Jq,Nat.reduceAdd,YP,QL,Qw,allLive,J4,Xy];refine Qh (cs:=Xy (qag i w)) (by rfl) fun k17q2 hk17q2=>?_;have ne_17q2_6q8:k17q2≠k6q8:=by simp only[VU]at hk17q2;simp only[hk17q2,ne_eq,not_false_eq_true]
   have hn_17q2:H k17q2=none:=by first|assumption|(simp only[VU]at hk17q2;simp only[hk17q2])
   have hf_17q2:h k17q2=none:=VV hs_H hn_17q2;have ne_17q2_w:k17q2≠kw:=VW hn_17q2 eb_w;refine ZM (es:=5) (v:=rv) (p:=rp) (xs:=(qaE 0 (ws.take i)).map Xy) (ys:=[Xy (qag i w)]) (i:=2) (by rfl) (by rfl) Tryz.underlying39 Tryz.underlying39 (fun k e=>by cases e) Yl qfo qdo (by rfl) (by decide) (by rfl) hrow rfl (hS.forget ((Vi hn_6q8).trans (Vi hk17q2))) (by rfl) (Bh (Vg _ _ _) (fun x hx=>by rw[VM.1 hx];rfl) (by simp) (by rfl) (.exact 1) (KM _)) (by rfl) (by simp) (by simp only[Jo,qen,K5,JA];omega) (by simp only[Jo,qen,K5,JA];omega) fun rv2 rp2 h8 hrow2 hG2 hS2=>?_;simp+decide only[qa,ev,putD,VG,VH,VI,Ka,Kb,↓qf,qc];change Awp _ _ _ _ _ _ _;refine Xa [3,4,5] (by rfl) ?_;simp+decide only[qa,ev,qK,qG,putD,VG,VH,VI,Ka,Kb,↓qg,qd,↓qo,qh,qE,cond_false,qz,QW,↓qf,qc,hwi];try simp only[qR]
   exact⟨⟨i+1,rv2,rp2,h8⟩,rfl,Vh _,⟨hi',hS2,by simp only;rw[hst,Vr];exact hrow2,hG2⟩,by simp only;omega⟩
 ·try simp only[decide_eq_false_iff_not]at hb1
  have hin:i=ws.length:=by omega
  rw[hin,Jp]at hrow;refine QI ?_;change Awp _ _ _ _ _ _ _;refine awp_rseq [2] (by rfl) fun K hK=>?_;simp+decide only[qa,ev,putD,VG,VH,VI,Ka,Kb,↓qg,qd,↓qf,qc];apply hK;clear hK K;refine Qn ?_;refine Qu (qJ (qO)) ?_;simp+decide only[VH,if_true,Qg];exact⟨H,Vh _,rp,hrow,hG,hS.sub (by simp)⟩
theorem qsM(wz:World)(H:AHeap)(k:Nat)(b:UInt8):qch Tryz.prog wz (H.set k ⟨byteCells [b],0⟩) 32 9 (.slice (.own k) 0 1 (.exact 1))=⟨True, .str [b]⟩:=by
 rw[qnh Tryz.underlying32 Tryz.underlying9 Tryz.underlying5,qhR (Vg _ _ _) 0 1 (by simp[byteCells])];have h1:=qjA [b];have h2:=qjz [b];have h3:((byteCells [b]).drop 0).take 1=byteCells [b]:=rfl;simp only[h3,h1,h2]
theorem qrK(k:UInt8):IntKind.u8.wrap (48+(k.toNat:Int))=((48+k:UInt8).toNat:Int):=by
 unfold IntKind.wrap;rw[UInt8.toNat_add];simp[IntKind.bits,IntKind.signed]
theorem qgC(l:List Str):QU (l.map strC).flatten=true:=by
 induction l with
 |nil=>rfl
 |cons s l ih=>rw[Ke,Vu];exact ih
set_option maxHeartbeats 4000000 in
theorem qru(wz:World)(h:AHeap)(v:AVal)(l:List TokC)(hv:IsL wz h 5 v (l.map Xy))(hl:l.length<=1000000)(hsh:Short l):
 ACall Tryz.prog wz 43 [v] h (fun r h'=>∃p,GrowV 1 r p ((l.map ZU).map strC)/\isG r=true/\Sep [h,p] h'):=by
 have hlv:=hv.live;have nv:=Zt hv;have hS0:Sep [h,emp] h:=BU (ps:=[h]) ⟨fun p hp=>by rw[VM.1 hp];exact Vh _,by simp⟩;refine Ql (n:=29) (rs:=[.tmp 2]) Tryz.func43 rfl rfl rfl rfl (VF rfl) ?_;simp only[Qm];refine awp_rseq [0] (by rfl) fun K hK=>?_;simp+decide only[qa,ev,qK,qG,putD,VG,VI,Ka,Kb,↓qf,qc];apply hK;clear hK K;refine awp_rseq [0,3] (by rfl) fun K hK=>?_;simp+decide only[qa,ev,qK,qG,putD,VG,VI,Ka,Kb,↓qf,qc];apply hK;clear hK K;refine qF ?_;refine awp_rseq [0,3,4] (by rfl) fun K hK=>?_;simp+decide only[qa,ev,qK,qG,putD,VG,VI,Ka,Kb,↓qf,qc];apply hK;clear hK K;refine Qb ?_;refine QN [0,3,4] (fun g:LtG=>[(0,v),(3,g.rv),(4, .int .i64 g.i)]) (fun g:LtG=>g.H) (fun g:LtG=>g.i<=l.length/\Sep [h,g.rp] g.H/\GrowV 1 g.rv g.rp (((l.take g.i).map ZU).map strC)/\isG g.rv=true) (fun g:LtG=>l.length-g.i) ⟨0, .nilSlice,emp,h⟩ (by rfl) (Vh _) ⟨Jr _,hS0, .nil,rfl⟩ ?_;rintro⟨i,rv,rp,H⟩ ⟨hi,hS,hrow,hG⟩;simp only at hi hS hrow hG|-
 have hs_H:Sub h H:=hS.in_ (i:=0) rfl;have hrl:=hrow.live;refine qF ?_;refine awp_rseq [0,3,4,8] (by rfl) fun K hK=>?_;simp+decide only[qa,ev,putD,VG,VH,VI,Ka,Kb,↓qg,qd,↓QB,Qo,↓qo,qh,qN,cond_false,qz,Xt,nv];apply hK;clear hK K;refine qM (b:=_) rfl (fun hb1=>?_) (fun hb1=>?_)
 ·try simp only[decide_eq_true_eq]at hb1
  have hi':i<l.length:=by omega
  obtain⟨lc,o,c,hve⟩:=ZT hv (by omega);obtain⟨t,ht⟩:∃t,t=l.getD i noT:=⟨_,rfl⟩
  have hv2:=hv.mono hs_H;rw[hve]at hv2;obtain⟨e0,e1,-⟩:=WE hv2 hi';rw[<-ht]at e0 e1;have e2:∀(k:Nat) (b:Blk),H k=none->rd wz (H.set k b) lc (o+i*5+1)= .str t.text:=fun k b hk=>by
   obtain⟨-,q,-⟩:=WE (hv2.mono (Vi hk)) hi';rw[q,<-ht]
  have htk:l.take (i+1)=l.take i++[t]:=by rw[Vq,JH hi',ht];simp[Ko,hi']
  have hwi:IntKind.i64.wrap ((i:Int)+1)=((i+1:Nat):Int):=by rw[wrap_i64 (by omega) (by omega)];omega
  have hwk:=qrK t.kind;have hts:t.text.length<=1000000:=by rw[ht];exact hsh.at hi'
  refine qV ?_;change Awp _ _ _ _ _ _ _;refine qF ?_;refine Qb ?_;refine qfs 16 [] mixed (by kernel_rfl) (by rfl) ?_;simp only[Ki,V4,Vw,Vm];simp+decide only[ev,qK,qG,putD,VG,VH,Ka,Kb,↓qaw,qd,↓Wm,ZF,qA Tryz.underlying39 Yl,Zf,↓YE,qi,WZ,↓qay,qj qjH,↓qfW,qh,qN,cond_false,qz,QW,QL,hve,e0,hwk,VN,K7];repeat (with_reducible refine And.intro ?_ ?_;· first|trivial|omega|(intro hg;simp only[Ky,JF,Ji,VO,VL,VK,decide_eq_true_eq,decide_eq_false_iff_not,Xd]at hg;omega))
  refine UU (by rfl) ?_;refine Qh (cs:=byteCells [48+t.kind]) (by kernel_rfl) fun k5q7 hk5q7=>?_;have hn_5q7:H k5q7=none:=by first|assumption|(simp only[VU]at hk5q7;simp only[hk5q7])
  have hf_5q7:h k5q7=none:=VV hs_H hn_5q7;rw[qa];simp+decide only[ev,putD,VG,VH,Ka,Kb,↓qpc _ _ _ (es_str Tryz.underlying32 Tryz.underlying9),qaC,↓qaw,qd,↓Wm,ZF,qA Tryz.underlying39 Yl,Zf,↓YE,qi,qbw,↓qay,qj ag9,↓qfW,qh,qN,cond_false,Qp,YK,Jq,Qw,VN,qsM,KY,JN,e2 _ _ hk5q7];repeat (with_reducible refine And.intro ?_ ?_;· first|trivial|omega|(intro hg;simp only[Ky,JF,Ji,VO,VL,VK,decide_eq_true_eq,decide_eq_false_iff_not,Xd]at hg;omega))
  refine UU (by rfl) ?_;refine Qh (cs:=[.str (ZU t)]) (by kernel_rfl) fun k5q15 hk5q15=>?_;have ne_5q15_5q7:k5q15≠k5q7:=by simp only[VU]at hk5q15;simp only[hk5q15,ne_eq,not_false_eq_true]
  have hn_5q15:H k5q15=none:=by first|assumption|(simp only[VU]at hk5q15;simp only[hk5q15])
  have hf_5q15:h k5q15=none:=VV hs_H hn_5q15;rw[qa];try simp only[qaG]
  refine ZM (es:=1) (v:=rv) (p:=rp) (xs:=((l.take i).map ZU).map strC) (ys:=[strC (ZU t)]) (i:=1) (by rfl) (by rfl) Tryz.underlying22 Tryz.underlying22 (fun k e=>by cases e) sz9 by9 ze9 (by rfl) (by decide) (by rfl) hrow rfl (hS.forget ((Vi hk5q7).trans (Vi hk5q15))) (by rfl) (Bh (Vg _ _ _) (fun x hx=>by rw[VM.1 hx];rfl) (by rfl) (by rfl) (.exact 1) (KM _)) (by rfl) (by simp) (by simp only[Jo,K5,JA];omega) (by simp only[Jo,K5,JA];omega) fun rv2 rp2 h8 hrow2 hG2 hS2=>?_;simp+decide only[qa,ev,putD,VG,VH,Ka,Kb,↓qf,qc];change Awp _ _ _ _ _ _ _;refine Xa [0,3,4] (by rfl) ?_;simp+decide only[qa,ev,qK,qG,putD,VG,VH,VI,Ka,Kb,↓qg,qd,↓qo,qh,qE,cond_false,qz,QW,↓qf,qc,hwi];try simp only[qR]
  exact⟨⟨i+1,rv2,rp2,h8⟩,by first|rfl|(rw[hve];rfl),Vh _,⟨hi',hS2,by simp only;rw[htk,Vr,Vr];exact hrow2,hG2⟩,by simp only;omega⟩
 ·try simp only[decide_eq_false_iff_not]at hb1
  have hin:i=l.length:=by omega
  rw[hin,Jp]at hrow;refine QI ?_;change Awp _ _ _ _ _ _ _;refine awp_rseq [2] (by rfl) fun K hK=>?_;simp+decide only[qa,ev,putD,VG,VH,VI,Ka,Kb,↓qg,qd,↓qf,qc];apply hK;clear hK K;refine Qn ?_;refine Qu (qJ (qO)) ?_;simp+decide only[VH,if_true,Qg];exact⟨H,Vh _,rp,hrow,hG,hS⟩
end Go.Proofs.YtgiadjbiimkbiaaGreatDoor
namespace Go.AM
open Go.RowKit (Below)
section
variable {P:Program} {wz:World} {n:FrameK} {g₀:AHeap}
def qac(P:Program)(wz:World)(l:List Oper)(g₀:AHeap):List Oper->Nat->List Nat->Slots->AHeap->(Slots->AHeap->Prop)->Prop
 |[],_,_,s,h,K=>K s h
 |o::r,0,_,s,h,K=>QA P wz l [o] s h fun s' h'=>Sub g₀ h'/\qac P wz l g₀ r 0 [] s' h' K
 |o::r,m+1,1::bs,s,h,K=>∃V,(∀g,Sub h g->QA P wz l [o] s g fun s' h'=>s'=putD s o.dst V/\h'=g)/\qac P wz l g₀ r m bs (putD s o.dst V) h K
 |o::r,m+1,2::bs,s,h,K=>QA P wz l [o] s g₀ fun s' _=>qac P wz l g₀ r m bs s' h K
 |o::r,m+1,bs,s,h,K=>QA P wz l [o] s h fun s' h'=>Sub h h'/\qac P wz l g₀ r m (bs.drop 1) s' h' K
theorem Ub{l:List Oper}{m:Nat}{bs:List Nat}{s:Slots}{h:AHeap}{K:Slots->AHeap->Prop}:qac P wz l g₀ [] m bs s h K=K s h:=by cases m<;>rfl
theorem Uy{l:List Oper}{m:Nat}{bs:List Nat}{o:Oper}{r:List Oper}{s:Slots}{h:AHeap}{K:Slots->AHeap->Prop}:qac P wz l g₀ (o::r) (m+1) (0::bs) s h K=QA P wz l [o] s h fun s' h'=>Sub h h'/\qac P wz l g₀ r m bs s' h' K:=rfl
theorem WO{l:List Oper}{bs:List Nat}{o:Oper}{r:List Oper}{s:Slots}{h:AHeap}{K:Slots->AHeap->Prop}:qac P wz l g₀ (o::r) 0 bs s h K=QA P wz l [o] s h fun s' h'=>Sub g₀ h'/\qac P wz l g₀ r 0 [] s' h' K:=rfl
theorem Uw{l:List Oper}{m:Nat}{bs:List Nat}{o:Oper}{r:List Oper}{s:Slots}{h:AHeap}{K:Slots->AHeap->Prop}:qac P wz l g₀ (o::r) (m+1) (2::bs) s h K=QA P wz l [o] s g₀ fun s' _=>qac P wz l g₀ r m bs s' h K:=rfl
theorem qkL{l:List Oper}{m:Nat}{bs:List Nat}(h1:bs.getD 0 0≠1)(h2:bs.getD 0 0≠2){o:Oper}{r:List Oper}{s:Slots}{h:AHeap}{K:Slots->AHeap->Prop}(hj:qac P wz l g₀ (o::r) (m+1) bs s h K):QA P wz l [o] s h fun s' h'=>Sub h h'/\qac P wz l g₀ r m (bs.drop 1) s' h' K:=by
 match bs,h1,h2,hj with
 |[],_,_,hj=>exact hj
 |0::bs,_,_,hj=>exact hj
 |1::bs,h1,_,_=>exact absurd rfl h1
 |2::bs,_,h2,_=>exact absurd rfl h2
 |(k+3)::bs,_,_,hj=>exact hj
theorem qoV{l:List Oper}{m:Nat}{bs:List Nat}(hb:bs.getD 0 0=1){o:Oper}{r:List Oper}{s:Slots}{h:AHeap}{K:Slots->AHeap->Prop}(hj:qac P wz l g₀ (o::r) (m+1) bs s h K):∃V,(∀g,Sub h g->QA P wz l [o] s g fun s' h'=>s'=putD s o.dst V/\h'=g)/\qac P wz l g₀ r m (bs.drop 1) (putD s o.dst V) h K:=by
 match bs,hb,hj with
 |[],hb,_=>simp at hb
 |1::bs,_,hj=>exact hj
 |0::bs,hb,_=>simp at hb
 |(k+2)::bs,hb,_=>simp at hb
theorem qoU{l:List Oper}{m:Nat}{bs:List Nat}(hb:bs.getD 0 0=2){o:Oper}{r:List Oper}{s:Slots}{h:AHeap}{K:Slots->AHeap->Prop}(hj:qac P wz l g₀ (o::r) (m+1) bs s h K):QA P wz l [o] s g₀ fun s' _=>qac P wz l g₀ r m (bs.drop 1) s' h K:=by
 match bs,hb,hj with
 |[],hb,_=>simp at hb
 |2::bs,_,hj=>exact hj
 |0::bs,hb,_=>simp at hb
 |1::bs,hb,_=>simp at hb
 |(k+3)::bs,hb,_=>simp at hb
theorem qoT{l:List Oper}{bs bs':List Nat}{r:List Oper}{s:Slots}{h:AHeap}{K:Slots->AHeap->Prop}:qac P wz l g₀ r 0 bs s h K=qac P wz l g₀ r 0 bs' s h K:=by cases r<;>rfl
theorem qah{l:List Oper}{K K':Slots->AHeap->Prop}(hk:∀s h,K s h->K' s h):∀{r:List Oper} {m:Nat} {bs:List Nat} {s:Slots} {h:AHeap},qac P wz l g₀ r m bs s h K->qac P wz l g₀ r m bs s h K'
 |[],m,bs,s,h,ha=>by rw[Ub]at ha|-;exact hk _ _ ha
 |o::r,0,bs,s,h,ha=>qan (fun s' h' hx=>⟨hx.1,qah hk hx.2⟩) ha
 |o::r,m+1,1::bs,s,h,ha=>by
  obtain⟨V,h1,h2⟩:=ha;exact⟨V,h1,qah hk h2⟩
 |o::r,m+1,2::bs,s,h,ha=>qan (fun s' h' hx=>qah hk hx) ha
 |o::r,m+1,[],s,h,ha=>qan (fun s' h' hx=>⟨hx.1,qah hk hx.2⟩) ha
 |o::r,m+1,0::bs,s,h,ha=>qan (fun s' h' hx=>⟨hx.1,qah hk hx.2⟩) ha
 |o::r,m+1,(k+3)::bs,s,h,ha=>qan (fun s' h' hx=>⟨hx.1,qah hk hx.2⟩) ha
def isL(P:Program)(l:List Oper)(π:List Nat)(fl:List Nat)(m q:Nat):Bool:=decide (q<m) && (fl.getD q 0==1||isF P l (π.getD q 0))
def qlS(P:Program)(l:List Oper)(π:List Nat)(fl:List Nat)(ws:List (Option Nat))(m:Nat):Bool:=
 Un l && ((KQ m).all fun q=> !(fl.getD q 0==2)||isF P l (π.getD q 0)) && (π.all fun i=>decide (i<l.length)) && ((KQ l.length).all fun i=>π.contains i) &&
 ((KQ π.length).all fun q=>(KQ π.length).all fun r=>decide (q=r)|| !(π.getD q 0==π.getD r 0)) &&
 ((KQ π.length).all fun q=>match ws.getD q none with
   |none=>(KQ q).all fun c=>isL P l π fl m c
   |some r=>decide (r<q) && Region.waitsFor .any l.toArray (π.getD q 0) (π.getD r 0) && (KQ q).all fun c=>decide (c<=r)||isL P l π fl m c) &&
 ((KQ π.length).all fun q=>match l[π.getD q 0]? with
   |none=>true
   |some o=>(KQ π.length).all fun r=>match l[π.getD r 0]? with
    |none=>true
    |some oj=>(match oj.dst with
     |none=>true
     |some t=> !(QF l o).contains t||(decide (q<r) && decide (m<=r) && !(fl.getD q 0==2))||(decide (r<q) && Region.waitsFor .any l.toArray (π.getD q 0) (π.getD r 0)))) &&
 decide (m<=π.length) && ((KQ π.length).all fun q=>decide (q<m)|| !isL P l π fl m q) &&
 (decide (m=π.length)||(KQ m).all fun q=>(fl.getD q 0==2)||(KQ (m+1)).any fun r=>decide (q<r) && (decide (r=m)|| !(fl.getD r 0==2)) && Region.waitsFor .any l.toArray (π.getD r 0) (π.getD q 0))
structure FloatL(P:Program)(l:List Oper)(π:List Nat)(fl:List Nat)(m:Nat):Prop where
 order:Un l=true
 lateF:∀q,q<m->fl.getD q 0=2->isF P l (π.getD q 0)=true
 inr:∀q,q<π.length->π.getD q 0<l.length
 onto:∀i,i<l.length->∃q,q<π.length/\π.getD q 0=i
 inj:∀q r,q<π.length->r<π.length->π.getD q 0=π.getD r 0->q=r
 wait:∀q c,q<π.length->c<q->isL P l π fl m c=false->∃r,c<=r/\r<q/\Region.waitsFor .any l.toArray (π.getD q 0) (π.getD r 0)=true
 data:∀q r o oj t,q<π.length->r<π.length->l[π.getD q 0]?=some o->l[π.getD r 0]?=some oj->oj.dst=some t->t∈QF l o->(q<r/\m<=r/\fl.getD q 0≠2)\/(r<q/\Region.waitsFor .any l.toArray (π.getD q 0) (π.getD r 0)=true)
 mle:m<=π.length
 tail:∀q,m<=q->q<π.length->isL P l π fl m q=false
 sink:m<π.length->∀q,q<m->fl.getD q 0≠2->∃r,q<r/\r<=m/\(r=m\/fl.getD r 0≠2)/\Region.waitsFor .any l.toArray (π.getD r 0) (π.getD q 0)=true
theorem qnu{l:List Oper}{π:List Nat}{fl:List Nat}{ws:List (Option Nat)}{m:Nat}(h:qlS P l π fl ws m=true):FloatL P l π fl m:=by
 unfold qlS at h;simp only[Ky]at h;obtain⟨⟨⟨⟨⟨⟨⟨⟨⟨h1,hL⟩,h2⟩,h3⟩,h4⟩,h5⟩,h6⟩,h7⟩,h8⟩,h9⟩:=h;simp only[JC,JD]at hL h2 h3 h4 h5 h6 h8;refine⟨h1,fun q hq e=>by
  have z:=hL q hq;rw[JF]at z;rcases z with z|z
  ·rw[e]at z;simp at z
  ·exact z,fun q hq=>?_,fun i hi=>?_,fun q r hq hr e=>?_,fun q c hq hc hf=>?_,fun q r o oj t hq hr ho hoj hd ht=>?_,by simpa using h7,fun q hm hq=>?_,fun hm q hq hq2=>?_⟩
 ·have:=h2 (π.getD q 0) (by rw[Ko,JH hq];exact VA hq)
  simpa using this
 ·have:=h3 i hi
  rw[List.contains_iff_mem]at this;obtain⟨q,hq,e⟩:=List.getElem_of_mem this;exact⟨q,hq,by rw[Ko,JH hq];exact e⟩
 ·have:=h4 q hq r hr
  rw[JF,decide_eq_true_eq]at this;rcases this with e'|e'
  ·exact e'
  ·rw[e]at e';simp at e'
 ·have:=h5 q hq
  split at this
  ·rw[JC]at this
   rw[this c (JD.2 hc)]at hf;cases hf
  ·rename_i r _
   simp only[Ky,decide_eq_true_eq,JC,JD,JF]at this;obtain⟨⟨t1,t2⟩,t3⟩:=this;rcases t3 c hc with e|e
   ·exact⟨r,e,t1,t2⟩
   ·rw[e]at hf;cases hf
 ·have:=h6 q hq
  rw[ho]at this;simp only[JC,JD]at this;have:=this r hr;rw[hoj]at this;simp only[hd,JF,Ky,decide_eq_true_eq,Ji]at this;rcases this with(e|e)|e
  ·have hm:(QF l o).contains t=true:=by simpa using ht
   rw[hm]at e;cases e
  ·exact .inl ⟨e.1.1,e.1.2,by simpa using e.2⟩
  ·exact .inr e
 ·have:=h8 q hq
  simp only[JF,decide_eq_true_eq,Ji]at this;rcases this with e|e
  ·omega
  ·exact e
 ·rw[JF,decide_eq_true_eq]at h9
  rcases h9 with e|e
  ·omega
  ·rw[JC]at e
   have:=e q (JD.2 hq);rw[JF]at this;rcases this with this|this
   ·exact absurd (by simpa using this) hq2
   rw[List.any_eq_true]at this;obtain⟨r,hr,hw⟩:=this;rw[JD]at hr;simp only[Ky,JF,decide_eq_true_eq]at hw;exact⟨r,hw.1.1,by omega,hw.1.2.imp id (fun z=>by simpa using z),hw.2⟩
theorem qod{l:List Oper}(hall:QD n l=true){π:List Nat}{fl:List Nat}{m:Nat}(F:FloatL P l π fl m){K:Slots->AHeap->Prop}{g:AHeap}(hg₀:Sub g₀ g):∀(d p:Nat) (S:Slots),π.length-p=d->p<=π.length->qac P wz l g₀ ((Yi l π).drop p) (m-p) (fl.drop p) S g K->
 ∃p' S',p<=p'/\p'<=π.length/\(p'<π.length->isL P l π fl m p'=false)/\(∀q,p<=q->q<p'->isL P l π fl m q=true)/\qac P wz l g₀ ((Yi l π).drop p') (m-p') (fl.drop p') S' g K/\
  (∀q o,p<=q->q<p'->l[π.getD q 0]?=some o->∃V,(∀t,o.dst=some t->S'.get t=V)/\FactC P wz n l g S' o V/\(fl.getD q 0=2->FactC P wz n l g₀ S' o V))/\
  (∀t,(∀q o,p<=q->q<p'->l[π.getD q 0]?=some o->o.dst≠some t)->S'.get t=S.get t):=by
 intro d;induction d with
 |zero=>
  intro p S hd hp ha;exact⟨p,S,KM _,hp,fun h=>by omega,fun q h1 h2=>by omega,ha,fun q o h1 h2=>by omega,fun t _=>rfl⟩
 |succ d ih=>
  intro p S hd hp ha;have hpl:p<π.length:=by omega
  cases hf:isL P l π fl m p with
  |false=>exact⟨p,S,KM _,hp,fun _=>hf,fun q h1 h2=>by omega,ha,fun q o h1 h2=>by omega,fun t _=>rfl⟩
  |true=>
   have hpm:p<m:=by
    refine JZ fun h=>?_;rw[F.tail p h hpl]at hf;cases hf
   obtain⟨o,ho⟩:∃o,l[π.getD p 0]?=some o:=⟨_,JH (F.inr p hpl)⟩
   rw[qcN F.inr hpl ho,show m-p=(m-(p+1))+1 by omega]at ha;have hfl:(fl.drop p).getD 0 0=fl.getD p 0:=by simp[Ko,Kq]
   have hfd:(fl.drop p).drop 1=fl.drop (p+1):=by rw[BV]
   obtain⟨V,hv,hfact,hfact₀⟩:∃V,qac P wz l g₀ ((Yi l π).drop (p+1)) (m-(p+1)) (fl.drop (p+1)) (putD S o.dst V) g K/\FactC P wz n l g S o V/\(fl.getD p 0=2->FactC P wz n l g₀ S o V):=by
    by_cases hb2:fl.getD p 0=2
    ·have ha:=qoU (by rw[hfl,hb2]) ha
     rw[hfd]at ha;have hk2:YD P o.op=2:=by
      have:=F.lateF p hpm hb2;unfold isF at this;rw[ho]at this;simpa using this
     obtain⟨V,hv,hfact⟩:=qlW hall hk2 ha;exact⟨V,hv,hfact.toC.sub hg₀,fun _=>hfact.toC⟩
    ·by_cases hb1:fl.getD p 0=1
     ·obtain⟨V,h1,h2⟩:=qoV (by rw[hfl,hb1]) ha
      rw[hfd]at h2;exact⟨V,h2,qsD hall h1,fun e=>absurd e hb2⟩
     ·have hk2:YD P o.op=2:=by
       unfold isL isF at hf;rw[ho]at hf;simp only[Ky,JF,beq_iff_eq,hb1,false_or]at hf;simpa using hf.2
      have ha:=qkL (by rw[hfl];exact hb1) (by rw[hfl];exact hb2) ha;rw[hfd]at ha;obtain⟨V,⟨_,hv⟩,hfact⟩:=qlW hall hk2 ha;exact⟨V,hv,hfact.toC,fun e=>absurd e hb2⟩
   obtain⟨p',S',a1,a2,a3,a4,a5,a6,a7⟩:=ih (p+1) (putD S o.dst V) (by omega) (by omega) hv;have notlook:∀q oq t,p<=q->q<p'->l[π.getD q 0]?=some oq->oq.dst=some t->t∉QF l o:=fun q oq t h1 h2 h3 h4 ht=>by
    rcases F.data p q o oq t hpl (by omega) ho h3 h4 ht with⟨c1,c2,_⟩|⟨c1,_⟩
    ·have:=a4 q (by omega) h2
     rw[F.tail q c2 (by omega)]at this;cases this
    ·omega
   have uniq:∀q oq t,p<q->q<π.length->l[π.getD q 0]?=some oq->oq.dst=some t->o.dst≠some t:=fun q oq t h1 h2 h3 h4 e=>by
    have:=((XR F.order ho).2 _ oq t h3 h4).1 e;have:=F.inj p q hpl h2 this;omega
   refine⟨p',S',by omega,a2,a3,fun q h1 h2=>?_,a5,fun q oq h1 h2 hq=>?_,fun t ht=>?_⟩
   ·rcases JB h1 with e|e
    ·rw[<-e];exact hf
    ·exact a4 q e h2
   ·rcases JB h1 with e|e
    ·subst e
     rw[ho]at hq;obtain rfl:=Option.some.inj hq;have hsl:∀t∈QF l o,S'.get t=S.get t:=fun t ht=>by
      rw[a7 t fun q oq h3 h4 h5 h6=>notlook q oq t (by omega) (by omega) h5 h6 ht,Yb,if_neg fun e=>notlook p o t (KM _) (by omega) ho e ht]
     refine⟨V,fun t ht=>?_,hfact.slots hsl,fun e=>(hfact₀ e).slots hsl⟩;rw[a7 t fun q oq h3 h4 h5 h6=>uniq q oq t h3 (by omega) h5 h6 ht,Yb,if_pos ht]
    ·exact a6 q oq e h2 hq
   ·rw[a7 t fun q oq h3 h4 h5=>ht q oq (by omega) h4 h5,Yb,if_neg (ht p o (KM _) (by omega) ho)]
def PhaseL(P:Program)(wz:World)(n:FrameK)(g₀:AHeap)(l:List Oper)(π:List Nat)(fl:List Nat)(m:Nat)(K:Slots->AHeap->Prop)(listed:Array Bool)(Ps:PMap)(a:Act)(w:World):Prop:=
 listed.size=l.length/\(∀j oj,l[j]?=some oj->listed.getD j false=true->∀e∈oj.after,Region.binds .any e=true->listed.getD e.on false=true)/\a.tmps.size=n/\a.defers=n.dfr/\
 ∃p S g,p<=π.length/\(p<π.length->isL P l π fl m p=false)/\(∀q,p<=q->q<π.length->listed.getD (π.getD q 0) false=false)/\(∀q,q<p->isL P l π fl m q=false->listed.getD (π.getD q 0) false=true)/\
  (m<p->∀q,q<p->fl.getD q 0≠2->listed.getD (π.getD q 0) false=true)/\Sub g₀ g/\HRel wz Ps g w/\qac P wz l g₀ ((Yi l π).drop p) (m-p) (fl.drop p) S g K/\
  (∀q o,q<p->l[π.getD q 0]?=some o->listed.getD (π.getD q 0) false=false->∃V,(∀t,o.dst=some t->S.get t=V)/\FactC P wz n l g S o V/\(fl.getD q 0=2->FactC P wz n l g₀ S o V))/\
  ∀t,(∃q o,q<p/\l[π.getD q 0]?=some o/\o.dst=some t/\listed.getD (π.getD q 0) false=false)\/VR Ps (S.get t) (a.tmps.getD t undef)
theorem any_okL{l:List Oper}(hall:QD n l=true){π:List Nat}{fl:List Nat}{m:Nat}(F:FloatL P l π fl m){K:Slots->AHeap->Prop}{fi:PMap}{Q:Exit->Act->World->Prop}
 (hq:∀Ps S g a w,fi.le Ps->HRel wz Ps g w->SRel Ps n S a->K S g->Q .normal a w):∀(fuel:Nat) (listed:Array Bool) (a:Act) (w:World) (Ps:PMap),fi.le Ps->PhaseL P wz n g₀ l π fl m K listed Ps a w->
 (listed.toList.filter (!·)).length<=fuel->wpAny P .any l.toArray Q fuel listed a w:=by
 have hB:=F.order;have fin:∀(listed:Array Bool) (a:Act) (w:World) (Ps:PMap),fi.le Ps->PhaseL P wz n g₀ l π fl m K listed Ps a w->Region.ready .any l.toArray listed=[]->Q .normal a w:=by
  rintro listed a w Ps hle ⟨i1,i2,i3,i4,p,S,g,p1,p2,p3,p4,p5,pg,p6,p7,p8,p9⟩ hrd;have hal:=qde hB i1 hrd;have hp:p=π.length:=by
   rcases JB p1 with e|e
   ·exact e
   ·have:=p3 p (KM _) e
    rw[hal _ (F.inr p e)]at this;cases this
  subst hp;rw[show(Yi l π).drop π.length=[] by rw[<-qcM F.inr];simp,Ub]at p7;refine hq Ps S g a w hle p6 ⟨i3,i4,fun t=>?_⟩ p7;rcases p9 t with⟨q,o,c1,c2,c3,c4⟩|c
  ·rw[hal _ (F.inr q c1)]at c4;cases c4
  ·exact c
 intro fuel;induction fuel with
 |zero=>
  intro listed a w Ps hle inv hc;have hrd:Region.ready .any l.toArray listed=[]:=by
   cases hrd:Region.ready .any l.toArray listed with
   |nil=>rfl
   |cons i r=>
    exfalso;have hm:i∈Region.ready .any l.toArray listed:=by rw[hrd];exact Jf
    obtain⟨h1,o,ho,_⟩:=mem_ready.1 hm;have hi:i<listed.size:=by
     have:l[i]?=some o:=by simpa using ho
     rw[inv.1];exact(Jy.1 this).1
    have h2:listed.toList[i]?=some false:=by
     simp[JJ,hi]at h1;simp[hi,h1]
    have:=List.mem_of_getElem? h2;have hmem:false∈listed.toList.filter (!·):=by simp[List.mem_filter,this]
    have:=List.length_pos_of_mem hmem;omega
  exact⟨hrd,fin listed a w Ps hle inv hrd⟩
 |succ fuel ih=>
  intro listed a w Ps hle inv hc;refine⟨fun hrd=>fin listed a w Ps hle inv hrd,fun i hi=>?_⟩;obtain⟨i1,i2,i3,i4,p,S,g,p1,p2,p3,p4,p5,pg,p6,p7,p8,p9⟩:=inv;obtain⟨h1,o,ho,hedges⟩:=mem_ready.1 hi;have hol:l[i]?=some o:=by simpa using ho
  have hilt:i<l.length:=(Jy.1 hol).1;have hisz:i<listed.size:=by rw[i1];exact hilt
  have hif:listed.getD i false=false:=by simp[JJ,hisz]at h1|-;exact h1
  have hcount:((listed.setIfInBounds i true).toList.filter (!·)).length<=fuel:=by
   have h2:listed.toList[i]?=some false:=by
    simp[JJ,hisz]at h1;simp[hisz,h1]
   have:=qbg listed.toList i h2;have e:(listed.setIfInBounds i true).toList=listed.toList.set i true:=by simp
   rw[e];omega
  have hdn:∀d,o.dst=some d->d<n:=fun d hd=>qbW l i d hall (by rw[ZJ,hol];exact hd);obtain⟨q,hql,hqi⟩:=F.onto i hilt;have hoq:l[π.getD q 0]?=some o:=by rw[hqi];exact hol
  have looks:LookOk Ps n l o S a:=⟨i3,i4,fun t ht=>by
   rcases p9 t with⟨r,oj,c1,c2,c3,c4⟩|c
   ·exfalso
    rcases F.data q r o oj t hql (by omega) hoq c2 c3 ht with⟨d1,d2,d3⟩|⟨_,this⟩
    ·have:=p5 (by omega) q (by omega) d3
     rw[hqi,hif]at this;cases this
    ·rw[hqi]at this
     rw[qap hol hedges this]at c4;cases c4
   ·exact c⟩
  have closed':∀j oj,l[j]?=some oj->(listed.setIfInBounds i true).getD j false=true->∀e∈oj.after,Region.binds .any e=true->(listed.setIfInBounds i true).getD e.on false=true:=fun j oj hj hl e he hb=>by
   by_cases e1:e.on=i
   ·rw[e1];exact set_self hisz
   ·rw[XB e1]
    by_cases e2:j=i
    ·subst e2
     rw[hol]at hj;obtain rfl:=Option.some.inj hj;exact hedges e he hb
    ·rw[XB e2]at hl
     exact i2 j oj hj hl e he hb
  have other:∀r,r<π.length->r≠q->(listed.setIfInBounds i true).getD (π.getD r 0) false=listed.getD (π.getD r 0) false:=fun r hr hne=>XB fun e=>hne (F.inj r q hr hql (by rw[e,hqi]));have nobehind:p<q->False:=fun hpq=>by
   obtain⟨r,r1,r2,r3⟩:=F.wait q p hql hpq (p2 (by omega));rw[hqi]at r3;have:=qap hol hedges r3;rw[p3 r r1 (by omega)]at this;cases this
  have goal:(if Region.wanted o (yielded l.toArray a.tmps)=true then o.wp P a w (wpAny P .any l.toArray Q fuel (listed.setIfInBounds i true)) Q else wpAny P .any l.toArray Q fuel (listed.setIfInBounds i true) (a.put o.dst undef) w):=by
   rcases KU q p with hqp|hqp
   ·
    obtain⟨V,v1,v2,-⟩:=p8 q o hqp hoq (by rw[hqi];exact hif);refine v2 Ps w a g _ Q (Vh g) p6 looks fun ψ₂ v wx hle₂ hr₂ hv=>?_;refine ih _ _ _ ψ₂ (Vb hle hle₂) ⟨by simp[i1],closed',by rw[qdA];exact i3,by rw[put_defers];exact i4,p,S,g,p1,p2,fun r r1 r2=>?_,fun r r1 r2=>?_,fun hm r r1 r2=>?_,pg,hr₂,p7,fun r oj r1 r2 r3=>?_,fun t=>?_⟩ hcount
    ·rw[other r r2 (by omega)];exact p3 r r1 r2
    ·by_cases e:r=q
     ·rw[e,hqi];exact set_self hisz
     ·rw[other r (by omega) e];exact p4 r r1 r2
    ·by_cases e:r=q
     ·rw[e,hqi];exact set_self hisz
     ·rw[other r (by omega) e];exact p5 hm r r1 r2
    ·by_cases e:r=q
     ·rw[e,hqi,set_self hisz]at r3;cases r3
     ·rw[other r (by omega) e]at r3
      exact p8 r oj r1 r2 r3
    ·by_cases hod:o.dst=some t
     ·right
      rw[v1 t hod,Ul a hod (by rw[i3];exact hdn t hod)];exact hv t hod
     ·rcases p9 t with⟨r,oj,c1,c2,c3,c4⟩|c
      ·refine .inl ⟨r,oj,c1,c2,c3,?_⟩
       rw[other r (by omega) fun e=>by subst e;rw[hoq]at c2;obtain rfl:=Option.some.inj c2;exact hod c3];exact c4
      ·right
       rw[WG a hod];exact YG hle₂ _ _ c
   ·have hqe:q=p:=by
     rcases JB hqp with e|e
     ·exact e.symm
     ·exact(nobehind e).elim
    subst hqe;have all_m:m<=q->∀r,r<q->fl.getD r 0≠2->listed.getD (π.getD r 0) false=true:=fun hm r hr hr2=>by
     rcases JB hm with e|e
     ·subst e
      have key:∀d r,r+d=m->r<m->fl.getD r 0≠2->listed.getD (π.getD r 0) false=true:=by
       intro d;induction d using Nat.strongRecOn with
       |ind d ihd=>
        intro r hd hr hr2;obtain⟨r',s1,s2,s4,s3⟩:=F.sink hql r hr hr2;rcases JB s2 with e|e
        ·subst e
         rw[hqi]at s3;exact qap hol hedges s3
        ·have hl:=ihd (m-r') (by omega) r' (by omega) e (s4.resolve_left (by omega))
         obtain⟨oj,hoj⟩:∃oj,l[π.getD r' 0]?=some oj:=⟨_,JH (F.inr r' (by omega))⟩
         exact qap hoj (i2 _ oj hoj hl) s3
      exact key (m-r) r (by omega) hr hr2
     ·exact p5 e r hr hr2
    obtain⟨K',ha,hnext⟩:∃K':Slots->AHeap->Prop,QA P wz l [o] S g K'/\∀s' h',K' s' h'->(q<m->Sub g h')/\Sub g₀ h'/\qac P wz l g₀ ((Yi l π).drop (q+1)) (m-(q+1)) (fl.drop (q+1)) s' h' K:=by
     rw[qcN F.inr hql hoq]at p7;have hfl:(fl.drop q).getD 0 0=fl.getD q 0:=by simp[Ko,Kq]
     have hfd:(fl.drop q).drop 1=fl.drop (q+1):=by rw[BV]
     by_cases c:q<m
     ·have hfb:fl.getD q 0≠1/\fl.getD q 0≠2:=by
       have:=p2 hql;unfold isL at this;rw[decide_eq_true c,VP,VL]at this;refine⟨by simpa using this.1,fun e=>?_⟩;rw[F.lateF q c e]at this;cases this.2
      rw[show m-q=(m-(q+1))+1 by omega]at p7;have p7:=qkL (by rw[hfl];exact hfb.1) (by rw[hfl];exact hfb.2) p7;rw[hfd]at p7;exact⟨_,p7,fun s' h' hx=>⟨fun _=>hx.1,pg.trans hx.1,hx.2⟩⟩
     ·rw[show m-q=0 by omega,WO]at p7
      refine⟨_,p7,fun s' h' hx=>⟨fun hc=>absurd hc c,hx.1,?_⟩⟩;rw[show m-(q+1)=0 by omega,qoT (bs':=[])];exact hx.2
    refine qoM hall ha p6 looks fun ψ' x h' v w' e1 e2 e3 hk=>?_;obtain⟨k1,kg,k2⟩:=hnext _ _ hk;obtain⟨p',S',a1,a2,a3,a4,a5,a6,a7⟩:=qod hall F kg (π.length-(q+1)) (q+1) (putD S o.dst x) rfl (by omega) k2;have keep:∀r or t,r<q->l[π.getD r 0]?=some or->listed.getD (π.getD r 0) false=false->(or.dst=some t\/t∈QF l or)->S'.get t=S.get t:=fun r or t hr hor hun ht=>by
     have nd:∀u ou,q<=u->u<max p' (q+1)->u<π.length->l[π.getD u 0]?=some ou->ou.dst≠some t:=fun u ou h1 hup h2 h3 h4=>by
      rcases ht with ht|ht
      ·have:=((XR hB hor).2 _ ou t h3 h4).1 ht
       have:=F.inj r u (by omega) h2 this;omega
      ·rcases F.data r u or ou t (by omega) h2 hor h3 h4 ht with⟨c1,c2,c3⟩|⟨c1,_⟩
       ·rcases JB h1 with e|e
        ·subst e
         rw[all_m c2 r hr c3]at hun;cases hun
        ·have:=a4 u e (by omega)
         rw[F.tail u c2 h2]at this;cases this
       ·omega
     rw[a7 t fun u ou h1 h2 h3=>nd u ou (by omega) (by omega) (by omega) h3,Yb,if_neg (nd q o (KM _) (by omega) hql hoq)]
    refine ih _ _ _ ψ' (Vb hle e1) ⟨by simp[i1],closed',by rw[qdA];exact i3,by rw[put_defers];exact i4,p',S',h',a2,a3,fun r r1 r2=>?_,fun r r1 r2=>?_,fun hm r r1 rl=>?_,kg,e2,a5,fun r oj r1 r2 r3=>?_,fun t=>?_⟩ hcount
    ·rw[other r r2 (by omega)];exact p3 r (by omega) r2
    ·by_cases e:r=q
     ·rw[e,hqi];exact set_self hisz
     ·rw[other r (by omega) e]
      rcases KU r q with c|c
      ·exact p4 r c r2
      ·rw[a4 r (by omega) r1]at r2;cases r2
    ·have hmq:m<=q:=by
      refine Kt fun hc=>?_;have hmp:m<π.length:=by omega
      have:=a4 m (by omega) hm;rw[F.tail m (KM _) hmp]at this;cases this
     by_cases e:r=q
     ·rw[e,hqi];exact set_self hisz
     ·rw[other r (by omega) e]
      rcases KU r q with c|c
      ·exact all_m hmq r c rl
      ·have:=a4 r (by omega) r1
       rw[F.tail r (by omega) (by omega)]at this;cases this
    ·by_cases e:r=q
     ·rw[e,hqi,set_self hisz]at r3;cases r3
     ·rw[other r (by omega) e]at r3
      rcases KU r q with c|c
      ·obtain⟨V,v1,v2,v3⟩:=p8 r oj c r2 r3
       have hsl:∀t∈QF l oj,S'.get t=S.get t:=fun t ht=>keep r oj t c r2 r3 (.inr ht);refine⟨V,fun t ht=>(keep r oj t c r2 r3 (.inl ht)).trans (v1 t ht),?_,fun e=>(v3 e).slots hsl⟩;by_cases e2:fl.getD r 0=2
       ·exact((v3 e2).sub kg).slots hsl
       ·have hqm:q<m:=by
         refine JZ fun hm=>?_;rw[all_m hm r c e2]at r3;cases r3
        exact(v2.sub (k1 hqm)).slots hsl
      ·exact a6 r oj (by omega) r1 r2
    ·by_cases hod:o.dst=some t
     ·right
      rw[a7 t fun u ou h1 h2 h3 h4=>by
       have:=((XR hB hoq).2 _ ou t h3 h4).1 hod;have:=F.inj q u hql (by omega) this;omega,Yb,if_pos hod,Ul a hod (by rw[i3];exact hdn t hod)]
      exact e3
     ·by_cases hw:∃r or,q+1<=r/\r<p'/\l[π.getD r 0]?=some or/\or.dst=some t
      ·obtain⟨r,or,w1,w2,w3,w4⟩:=hw
       exact .inl ⟨r,or,w2,w3,w4,by rw[other r (by omega) (by omega)];exact p3 r (by omega) (by omega)⟩
      ·have hS:S'.get t=S.get t:=by
        rw[a7 t fun u ou h1 h2 h3 h4=>hw ⟨u,ou,h1,h2,h3,h4⟩,Yb,if_neg hod]
       rcases p9 t with⟨r,oj,c1,c2,c3,c4⟩|c
       ·exact .inl ⟨r,oj,by omega,c2,c3,by rw[other r (by omega) (by omega)];exact c4⟩
       ·right
        rw[hS,WG a hod];exact YG e1 _ _ c
  simp only[wpOp,ho];split
  ·rename_i hw
   rw[if_pos hw]at goal;exact .inl goal
  ·rename_i hw
   rw[if_neg hw]at goal;exact goal
theorem qak{Q:Exit->Slots->AHeap->Prop}{s:Slots}{h:AHeap}{id:Nat}{l:List Oper}(π:List Nat)(fl:List Nat)(ws:List (Option Nat))(m:Nat)(g₀:AHeap)(hm:P.follows .mixedOrders=true)(hB:qlS P l π fl ws m=true)(hd:QD n l=true)(hg₀:Sub g₀ h)
 (hc:qac P wz l g₀ (Yi l π) m fl s h fun s' h'=>Q .normal s' h'):Awp P wz n (.region id l.toArray true) Q s h:=by
 refine Awp.of0 ?_;intro fi a w hr hs;have F:=qnu hB;refine wp_region_any hm ?_;have hf:∀j,(Jv l.toArray.size false).getD j false=false:=fun j=>by simp[JJ]
 obtain⟨p',S',a1,a2,a3,a4,a5,a6,a7⟩:=qod hd F hg₀ π.length 0 s rfl (Jr _) (by rw[BX,Vm];exact hc);refine any_okL (fi:=fi) hd F (K:=fun s' h'=>Q .normal s' h') (fun Ps S g a' w' hle h1 h2 h3=>⟨Ps,S,g,hle,h1,h2,h3⟩) _ _ _ _ fi fi.le_refl
  ⟨by simp,fun j oj _ hl=>(by rw[hf]at hl;cases hl),hs.size,hs.defers,p',S',h,a2,a3,fun r _ _=>hf _,fun r r1 r2=>?_,fun hm' r r1 _=>?_,hg₀,hr.drew,a5,fun r oj r1 r2 _=>a6 r oj (Jr _) r1 r2,fun t=>?_⟩ ?_
 ·rw[a4 r (Jr _) r1]at r2;cases r2
 ·have:=a4 m (Jr _) hm'
  rw[F.tail m (KM _) (by omega)]at this;cases this
 ·by_cases hw:∃r or,r<p'/\l[π.getD r 0]?=some or/\or.dst=some t
  ·obtain⟨r,or,w2,w3,w4⟩:=hw
   exact .inl ⟨r,or,w2,w3,w4,hf _⟩
  ·right
   rw[a7 t fun u ou _ h2 h3 h4=>hw ⟨u,ou,h2,h3,h4⟩];exact hs.val t
 ·have:=List.length_filter_le (!·) (Jv l.toArray.size false).toList
  simpa using this
theorem qfr{Q:Exit->Slots->AHeap->Prop}{s:Slots}{h:AHeap}{id:Nat}{l:List Oper}{y:Code}(π:List Nat)(fl:List Nat)(ws:List (Option Nat))(m:Nat)(g₀:AHeap)(L:List Nat)(hm:P.follows .mixedOrders=true)(hB:qlS P l π fl ws m=true)(hd:QD n l=true)(hg₀:Sub g₀ h)
 (hc:∀K:Slots->AHeap->Prop,(∀s h,Awp P wz n y Q s h->K s h)->qac P wz l g₀ (Yi l π) m fl s h fun s' h'=>K (s'.keep L) h'):Awp P wz n (.seq (.region id l.toArray true) y) Q s h:=
 qF (qak π fl ws m g₀ hm hB hd hg₀ (qah (fun _ _ hk=>Bt L hk) (hc (fun s h=>Awp P wz n y Q s h) (fun _ _ hk=>hk))))
end
end Go.AM
namespace Go.AM
theorem Sep.nest{ps qs:List AHeap}{H h:AHeap}(h1:Sep ps H)(h2:Sep (H::qs) h):Sep (ps++qs) h:=by
 obtain⟨d1,d2⟩:=List.pairwise_cons.1 h2.2;refine⟨fun p hp=>?_,List.pairwise_append.2 ⟨h1.2,d2,fun p hp q hq k=>?_⟩⟩
 ·rcases JR.1 hp with hp|hp
  ·exact(h1.1 p hp).trans (h2.1 _ Jf)
  ·exact h2.1 p (Jg _ hp)
 ·rcases d1 q hq k with z|z
  ·exact .inl ((h1.1 p hp).none z)
  ·exact .inr z
end Go.AM
namespace Go.Stm
open Go.Col (Str)
open Go.Tok
def spP(p:PhrC):List Str:=(60::(p.words++[62]))::p.toks.map ZU
def spB(m:Nat)(b:BodC):List Str:=(91::(b.1++[93]))::(b.2.1.map ZU++QG m b.2.2)
def spS(m:Nat)(s:StC):List Str:=(123::s.verb)::((s.phrases.map spP).flatten++(s.bodies.map (spB m)).flatten)++[[125]]
end Go.Stm
namespace Go.Proofs.YtgiadjbiimkbiaaGreatDoor
open Go.AM
open Go.Proofs
open Go.Col (Str FaultC okF)
open Go.Tok (TokC)
open Go.Stm
open Go.RowKit (Below)
set_option maxRecDepth 100000
structure SpG where
 i:Nat
 A:List Str
 rv:AVal
 rp:AHeap
 H:AHeap
def TxS:Nat->List StC->Prop
 |0,_=>True
 |m+1,l=>∀s∈l,s.verb.length<=1000000/\(∀p∈s.phrases,p.words.length<=1000000/\Short p.toks)/\∀b∈s.bodies,b.1.length<=1000000/\Short b.2.1/\TxS m b.2.2
theorem qgW{α β γ:Type}{qs:List (α×β)}{f:α->List γ}{j:Nat}{d:α×β}(hj:j<qs.length):(((qs.drop j).map (·.1)).map f).flatten=f (qs.getD j d).1++(((qs.drop (j+1)).map (·.1)).map f).flatten:=by
 rw[J9 hj,Ke,Ke,Vu];congr 2;simp[Ko,hj]
theorem qlM{R A B:List Str}(h:R=A++B)(hR:R.length<=1000000000000):A.length+B.length<=1000000000000:=by rw[h,Jc]at hR;exact hR
def qjR(wz:World)(m:Nat)(h:AHeap)(l:List StC):AVal->AHeap->Prop:=fun r h'=>∃p,GrowV 1 r p ((QG m l).map strC)/\isG r=true/\Sep [h,p] h'
theorem qpo(wz:World)(h:AHeap)(v:AVal)(hv:IsL wz h 5 v []):ACall Tryz.prog wz 20 [v] h (qjR wz 0 h []):=by
 have nL:∀H:AHeap,Zh Tryz.prog H 45 v=⟨True, .int .i64 0⟩:=fun H=>hv.len Tryz.underlying45 H;have hlv:=hv.live;refine Ql (n:=109) (rs:=[.tmp 2]) Tryz.func20 rfl rfl rfl rfl (VF rfl) ?_;simp only[Qm];refine awp_rseq [0] (by rfl) fun K hK=>?_;simp+decide only[qa,ev,qK,qG,putD,VG,VI,Ka,Kb,↓qf,qc];apply hK;clear hK K;refine awp_rseq [0,3] (by rfl) fun K hK=>?_;simp+decide only[qa,ev,qK,qG,putD,VG,VI,Ka,Kb,↓qf,qc];apply hK;clear hK K;refine qF ?_;refine awp_rseq [0,3,4] (by rfl) fun K hK=>?_;simp+decide only[qa,ev,qK,qG,putD,VG,VI,Ka,Kb,↓qf,qc];apply hK;clear hK K;refine Qb ?_;refine QN [0,3,4] (fun z:Unit=>[(0,v),(3, .nilSlice),(4, .int .i64 0)]) (fun z:Unit=>h) (fun z:Unit=>True) (fun z:Unit=>0) () (by rfl) (Vh _) trivial ?_;intro z _;refine qF ?_;refine awp_rseq [0,3,4,10] (by rfl) fun K hK=>?_;simp+decide only[qa,ev,putD,VG,VH,VI,Ka,Kb,↓qg,qd,↓QB,Qo,↓qo,qh,qN,cond_false,qz,Xt,nL];apply hK;clear hK K;refine qM (b:=_) rfl (fun hb1=>?_) (fun hb1=>?_)
 ·cases hb1
 ·try simp only[decide_eq_false_iff_not]at hb1
  refine QI ?_;change Awp _ _ _ _ _ _ _;refine awp_rseq [2] (by rfl) fun K hK=>?_;simp+decide only[qa,ev,putD,VG,VH,VI,Ka,Kb,↓qg,qd,↓qf,qc];apply hK;clear hK K;refine Qn ?_;refine Xf h zqC (qJ (qO)) ?_;simp+decide only[VH,if_true,Qg];exact⟨emp, .nil,rfl,BU (ps:=[h]) ⟨fun p hp=>by rw[VM.1 hp];exact Vh _,by simp⟩⟩
set_option maxHeartbeats 16000000 in
theorem qpn(wz:World)(d:Nat)(h:AHeap)(v:AVal)(l:List StC)(hs:StsV wz (d+1) h v l)(hsm:SmallS (d+1) l)(htx:TxS (d+1) l)(hT:(QG (d+1) l).length<=1000000000000)
 (ih:∀(h':AHeap) (v:AVal) (l:List StC),StsV wz d h' v l->SmallS d l->TxS d l->(QG d l).length<=1000000000000->ACall Tryz.prog wz 20 [v] h' (qjR wz d h' l)):
 ACall Tryz.prog wz 20 [v] h (qjR wz (d+1) h l):=by
 obtain⟨qs,hqe,hqL,hels⟩:=qee hs hsm;rw[BM]at hels;have nL:=qgD hqL;have hlv:=hqL.live;have hln:qs.length<=1000000:=by have:=hsm.len;rw[hqe,Jo]at this;exact this
 have hR:QG (d+1) l=((qs.map (·.1)).map (spS d)).flatten:=by rw[<-hqe];rfl
 unfold qjR;obtain⟨R,hRR⟩:∃R,R=QG (d+1) l:=⟨_,rfl⟩
 rw[<-hRR]at hR hT|-
 have hS0:Sep [h,emp] h:=BU (ps:=[h]) ⟨fun p hp=>by rw[VM.1 hp];exact Vh _,by simp⟩;refine Ql (n:=109) (rs:=[.tmp 2]) Tryz.func20 rfl rfl rfl rfl (VF rfl) ?_;simp only[Qm];refine awp_rseq [0] (by rfl) fun K hK=>?_;simp+decide only[qa,ev,qK,qG,putD,VG,VI,Ka,Kb,↓qf,qc];apply hK;clear hK K;refine awp_rseq [0,3] (by rfl) fun K hK=>?_;simp+decide only[qa,ev,qK,qG,putD,VG,VI,Ka,Kb,↓qf,qc];apply hK;clear hK K;refine qF ?_;refine awp_rseq [0,3,4] (by rfl) fun K hK=>?_;simp+decide only[qa,ev,qK,qG,putD,VG,VI,Ka,Kb,↓qf,qc];apply hK;clear hK K;refine Qb ?_;refine QN [0,3,4] (fun g:SpG=>[(0,v),(3,g.rv),(4, .int .i64 g.i)]) (fun g:SpG=>g.H) (fun g:SpG=>g.i<=qs.length/\Sep [h,g.rp] g.H/\GrowV 1 g.rv g.rp (g.A.map strC)/\isG g.rv=true/\R=g.A++(((qs.drop g.i).map (·.1)).map (spS d)).flatten) (fun g:SpG=>qs.length-g.i) ⟨0,[], .nilSlice,emp,h⟩ (by rfl) (Vh _) ⟨Jr _,hS0, .nil,rfl,hR⟩ ?_;rintro⟨i,A,rv,rp,H⟩ ⟨hi,hS,hrow,hG,hg⟩;simp only at hi hS hrow hG hg|-
 have hs_H:Sub h H:=hS.in_ (i:=0) rfl;have hrl:=hrow.live;refine qF ?_;refine awp_rseq [0,3,4,10] (by rfl) fun K hK=>?_;simp+decide only[qa,ev,putD,VG,VH,VI,Ka,Kb,↓qg,qd,↓QB,Qo,↓qo,qh,qN,cond_false,qz,Xt,nL];apply hK;clear hK K;refine qM (b:=_) rfl (fun hb1=>?_) (fun hb1=>?_)
 ·try simp only[decide_eq_true_eq]at hb1
  have hi':i<qs.length:=by omega
  obtain⟨q,hqj⟩:∃q,q=qs.getD i qcO:=⟨_,rfl⟩
  have hqm:q∈qs:=by rw[hqj,Ko,JH hi'];exact VA hi'
  obtain⟨lc,o,cc,hpe⟩:=qcH hqL (by omega);have hq2:=hqL.mono hs_H;rw[hpe]at hq2;obtain⟨e0,e1,e2,e3,e4⟩:=qcd hq2 hi';rw[<-hqj]at e0 e1 e2 e3 e4;obtain⟨hph,hbd,hbn,hpn,hpt,hbb⟩:=hels q hqm;obtain⟨hx1,hx2,hx3⟩:=htx q.1 (by rw[hqe];exact Bp (f:=(·.1)) hqm);have hst:=qgW (f:=spS d) (d:=qcO) hi';rw[<-hqj]at hst;rw[hst]at hg;have hpl:=hph.live;have hbl:=hbd.live;obtain⟨pl,hplq,hpq,hpt2⟩:=id hph;obtain⟨ql,hql,hqb,hqq⟩:=id hbd;have np:=qfe hpq;have nb:=qdc hqb;have hbn2:ql.length<=1000000:=by rw[hql,Jo]at hbn;exact hbn
  have hpn2:pl.length<=1000000:=by rw[hplq,Jo]at hpn;exact hpn
  obtain⟨qs1,qp,qb⟩:=q;obtain⟨vb,sln,scl,sph,sbd⟩:=qs1;simp only[BZ,Ea,Eb]at e0 e1 e2 e3 e4 hpl hbl hg np nb hpq hqb hql hplq hbb hpt hpt2 hqq hx1 hx2 hx3;obtain⟨X,hX⟩:∃X,X=(((qs.drop (i+1)).map (·.1)).map (spS d)).flatten:=⟨_,rfl⟩
  rw[<-hX]at hg;have hg5:R=(A++[123::vb])++((sph.map spP).flatten++((sbd.map (spB d)).flatten++([125]::X))):=by rw[hg];simp[spS,Eb,BZ,Ea]
  have hA5:=qlM hg5 hT;rw[Jc,JA]at hA5;have hwi:IntKind.i64.wrap ((i:Int)+1)=((i+1:Nat):Int):=by rw[wrap_i64 (by omega) (by omega)];omega
  refine qV ?_;change Awp _ _ _ _ _ _ _;refine qF ?_;refine Qb ?_;refine awp_rseq [0,3,4] (by rfl) fun K hK=>?_;simp+decide only[ev,qK,qG,putD,VG,VH,Ka,Kb,↓qg,qd,↓qZ,Qc,qA Tryz.underlying45 Yv,↓qC,qi,WY,↓qI,qj ag9,↓qo,qh,qN,cond_false,Qp,YK,Jq,Qw,hpe,e0,VN,K7,Kh,Je,KY,JN];repeat (with_reducible refine And.intro ?_ ?_;· first|trivial|omega|(intro hg;simp only[Ky,JF,Ji,VO,VL,VK,decide_eq_true_eq,decide_eq_false_iff_not,Xd]at hg;omega))
  refine Qh (cs:=[.str (List.cons 123 vb)]) (by kernel_rfl) fun k5q7 hk5q7=>?_;have hn_5q7:H k5q7=none:=by first|assumption|(simp only[VU]at hk5q7;simp only[hk5q7])
  have hf_5q7:h k5q7=none:=VV hs_H hn_5q7;refine Zj (es:=1) (v:=rv) (p:=rp) (xs:=A.map strC) (ys:=[strC (123::vb)]) (i:=1) (by rfl) (by rfl) Tryz.underlying22 Tryz.underlying22 (fun k e=>by cases e) sz9 by9 ze9 (by rfl) (by decide) (by rfl) hrow hG rfl (hS.forget (Vi hk5q7)) (by rfl) (Bh (Vg _ _ _) (fun x hx=>by rw[VM.1 hx];rfl) (by rfl) (by rfl) (.exact 1) (KM _)) (by rfl) (by simp only[Jo,JA];omega) (by simp only[Jo,JA];omega) fun rv5 rp5 h5 hrow5 hG5 hS5=>?_;have hrow5:GrowV 1 rv5 rp5 ((A++[123::vb]).map strC):=by rw[Vr];exact hrow5
  simp+decide only[qa,ev,putD,VG,VH,VI,Ka,Kb,↓qf,qc];apply hK;clear hK K;refine qF ?_;refine awp_rseq [0,3,4,5] (by rfl) fun K hK=>?_;simp+decide only[qa,ev,qK,qG,putD,VG,VI,Ka,Kb,↓qf,qc];apply hK;clear hK K;refine Qb ?_;refine QN [0,3,4,5] (fun g:SpG=>[(0,v),(3,g.rv),(4, .int .i64 i),(5, .int .i64 g.i)]) (fun g:SpG=>g.H) (fun g:SpG=>g.i<=pl.length/\Sep [h,g.rp] g.H/\GrowV 1 g.rv g.rp (g.A.map strC)/\isG g.rv=true/\R=g.A++((((pl.drop g.i).map (·.1)).map spP).flatten++((sbd.map (spB d)).flatten++([125]::X)))) (fun g:SpG=>pl.length-g.i) ⟨0,A++[123::vb],rv5,rp5,h5⟩ (by first|rfl|(rw[hpe];rfl)) (Vh _) ⟨Jr _,hS5,hrow5,hG5,by rw[hg5,hplq];rfl⟩ ?_;rintro⟨a,A2,rv,rp,H⟩ ⟨ha,hS,hrow,hG,hg⟩;simp only at ha hS hrow hG hg|-
  have hs_H:Sub h H:=hS.in_ (i:=0) rfl;have hrl:=hrow.live;have hq2:=hqL.mono hs_H;rw[hpe]at hq2;obtain⟨e0,e1,e2,e3,e4⟩:=qcd hq2 hi';rw[<-hqj]at e0 e1 e2 e3 e4;simp only[Eb]at e0 e1 e2 e3 e4;refine qF ?_;refine awp_rseq [0,3,4,5,29] (by rfl) fun K hK=>?_;simp+decide only[qa,ev,putD,VG,VH,VI,Ka,Kb,↓qg,qd,↓qZ,Qc,qA Tryz.underlying45 Yv,↓qC,qi,Zz,↓qI,qj qba,↓QB,Qo,↓qo,qh,qN,cond_false,qz,Xt,hpe,e3,np,hpl,VN];repeat (with_reducible refine And.intro ?_ ?_;· first|trivial|omega|(intro hg;simp only[Ky,JF,Ji,VO,VL,VK,decide_eq_true_eq,decide_eq_false_iff_not,Xd]at hg;omega))
  apply hK;clear hK K;refine qM (b:=_) rfl (fun hb2=>?_) (fun hb2=>?_)
  ·try simp only[decide_eq_true_eq]at hb2
   have ha':a<pl.length:=by omega
   obtain⟨p,hpj⟩:∃p,p=pl.getD a qbu:=⟨_,rfl⟩
   have hpm:p∈pl:=by rw[hpj,Ko,JH ha'];exact VA ha'
   obtain⟨lb,ob,cb,hpb⟩:=UK hpq (by omega);have hp2:=hpq.mono hs_H;rw[hpb]at hp2;obtain⟨f0,f1⟩:=qbH hp2 ha';rw[<-hpj]at f0 f1;have htk:=hpt2 p hpm;have htl:=htk.live;obtain⟨hy1,hy2⟩:=hx2 p.1 (by rw[hplq];exact Bp (f:=(·.1)) hpm);have htn:p.1.toks.length<=1000000:=hpt _ (by rw[hplq];exact Bp (f:=(·.1)) hpm);have hst2:=qgW (f:=spP) (d:=qbu) ha';rw[<-hpj]at hst2;rw[hst2]at hg;obtain⟨⟨pw,pt⟩,pv⟩:=p;simp only[spP]at f0 f1 htk htl htn hg hy1 hy2;have hg9:R=(A2++[60::(pw++[62])])++(pt.map ZU++((((pl.drop (a+1)).map (·.1)).map spP).flatten++((sbd.map (spB d)).flatten++([125]::X)))):=by rw[hg];simp
   have hA9:=qlM hg9 hT;rw[Jc,JA,Jc,Jo]at hA9;have hwa:IntKind.i64.wrap ((a:Int)+1)=((a+1:Nat):Int):=by rw[wrap_i64 (by omega) (by omega)];omega
   refine qV ?_;change Awp _ _ _ _ _ _ _;refine qF ?_;refine Qb ?_;refine awp_rseq [0,3,4,5] (by rfl) fun K hK=>?_;simp+decide only[ev,qK,qG,putD,VG,VH,Ka,Kb,↓qg,qd,↓qZ,Qc,qA Tryz.underlying45 Yv,↓qC,qi,Zz,↓qI,qj qba,qA Tryz.underlying79 qab,qhc,qj ag9,↓qo,qh,qN,cond_false,Qp,YK,Qy,Jq,Qw,Xv,e3,hpb,f0,VN,K7,Kh,Je,KY,JN];repeat (with_reducible refine And.intro ?_ ?_;· first|trivial|omega|(intro hg;simp only[Ky,JF,Ji,VO,VL,VK,decide_eq_true_eq,decide_eq_false_iff_not,Xd]at hg;omega))
   refine Qh (cs:=[.str (List.cons 60 (pw++[62]))]) (by kernel_rfl) fun k9q12 hk9q12=>?_;have hn_9q12:H k9q12=none:=by first|assumption|(simp only[VU]at hk9q12;simp only[hk9q12])
   have hf_9q12:h k9q12=none:=VV hs_H hn_9q12;refine Zj (es:=1) (v:=rv) (p:=rp) (xs:=A2.map strC) (ys:=[strC (60::(pw++[62]))]) (i:=1) (by rfl) (by rfl) Tryz.underlying22 Tryz.underlying22 (fun k e=>by cases e) sz9 by9 ze9 (by rfl) (by decide) (by rfl) hrow hG rfl (hS.forget (Vi hk9q12)) (by rfl) (Bh (Vg _ _ _) (fun x hx=>by rw[VM.1 hx];rfl) (by rfl) (by rfl) (.exact 1) (KM _)) (by rfl) (by simp only[Jo,JA];omega) (by simp only[Jo,JA];omega) fun rv9 rp9 h9 hrow9 hG9 hS9=>?_;have hrow9:GrowV 1 rv9 rp9 ((A2++[60::(pw++[62])]).map strC):=by rw[Vr];exact hrow9
   simp+decide only[qa,ev,putD,VG,VH,VI,Ka,Kb,↓qf,qc];apply hK;clear hK K;have hrl9:=hrow9.live;have hs_h9:Sub h h9:=hS9.in_ (i:=0) rfl;have hq9:=hqL.mono hs_h9;rw[hpe]at hq9;have e3':=(qcd hq9 hi').2.2.2.1;rw[<-hqj]at e3';have hp9:=hpq.mono hs_h9;rw[hpb]at hp9;have f1':=(qbH hp9 ha').2;rw[<-hpj]at f1';simp only at e3' f1';refine Xa [0,3,4,5] (by rfl) ?_;simp+decide only[ev,putD,VG,VH,Ka,Kb,↓qg,qd,↓qZ,Qc,qA Tryz.underlying45 Yv,↓qC,qi,Zz,↓qI,qj qba,qA Tryz.underlying79 qab,UT,qj qam,Xv,hpe,e3',hpb,f1',htl,VN];repeat (with_reducible refine And.intro ?_ ?_;· first|trivial|omega|(intro hg;simp only[Ky,JF,Ji,VO,VL,VK,decide_eq_true_eq,decide_eq_false_iff_not,Xd]at hg;omega))
   refine qY (by rfl) (by rfl) (qru wz _ pv pt (htk.mono hs_h9) htn hy2) fun x10q10 h10q10 hx10q10=>?_;obtain⟨pp,hrowP,hGP,hSP⟩:=hx10q10;have hSA:=Sep.nest hS9 hSP;try simp only[Kj,VZ,Kh,Je]at hSA
   refine Zj (es:=1) (v:=rv9) (p:=rp9) (xs:=(A2++[60::(pw++[62])]).map strC) (ys:=(pt.map ZU).map strC) (i:=1) (by rfl) (by rfl) Tryz.underlying22 Tryz.underlying22 (fun k e=>by cases e) sz9 by9 ze9 (by rfl) (by decide) (by rfl) hrow9 hG9 rfl hSA (by rfl) (hrowP.isL (hSA.in_ (i:=2) rfl)) (qgC _) (by simp only[Jo,Jc,JA];omega) (by simp only[Jo,Jc,JA];omega) fun rv10 rp10 h10 hrow10 hG10 hS10=>?_;rw[<-Vr]at hrow10;simp+decide only[qa,ev,putD,VG,VH,VI,Ka,Kb,↓qf,qc];change Awp _ _ _ _ _ _ _;refine Xa [0,3,4,5] (by rfl) ?_;simp+decide only[qa,ev,qK,qG,putD,VG,VH,VI,Ka,Kb,↓qg,qd,↓qo,qh,qE,cond_false,qz,QW,↓qf,qc,hwa];try simp only[qR]
   exact⟨⟨a+1,A2++[60::(pw++[62])]++pt.map ZU,rv10,rp10,h10⟩,by first|rfl|(rw[hpe];rfl),Vh _,⟨ha',hS10.sub (by simp),hrow10,hG10,by simp only;rw[hg9,Ja,Ja];simp⟩,by simp only;omega⟩
  ·try simp only[decide_eq_false_iff_not]at hb2
   have haq:a=pl.length:=by omega
   rw[haq,J8]at hg;have hg11:R=A2++((((ql.drop 0).map (·.1)).map (spB d)).flatten++([125]::X)):=by rw[hg,hql];rfl
   refine QI ?_;change Awp _ _ _ _ _ _ _;refine qF ?_;refine awp_rseq [0,3,4,6] (by rfl) fun K hK=>?_;simp+decide only[qa,ev,qK,qG,putD,VG,VI,Ka,Kb,↓qf,qc];apply hK;clear hK K;refine Qb ?_;refine QN [0,3,4,6] (fun g:SpG=>[(0,v),(3,g.rv),(4, .int .i64 i),(6, .int .i64 g.i)]) (fun g:SpG=>g.H) (fun g:SpG=>g.i<=ql.length/\Sep [h,g.rp] g.H/\GrowV 1 g.rv g.rp (g.A.map strC)/\isG g.rv=true/\R=g.A++((((ql.drop g.i).map (·.1)).map (spB d)).flatten++([125]::X))) (fun g:SpG=>ql.length-g.i) ⟨0,A2,rv,rp,H⟩ (by first|rfl|(rw[hpe];rfl)) (Vh _) ⟨Jr _,hS,hrow,hG,hg11⟩ ?_;rintro⟨a,A3,rv,rp,H⟩ ⟨ha,hS,hrow,hG,hg⟩;simp only at ha hS hrow hG hg|-
   have hs_H:Sub h H:=hS.in_ (i:=0) rfl;have hrl:=hrow.live;have hq2:=hqL.mono hs_H;rw[hpe]at hq2;obtain⟨e0,e1,e2,e3,e4⟩:=qcd hq2 hi';rw[<-hqj]at e0 e1 e2 e3 e4;simp only[Eb]at e0 e1 e2 e3 e4;refine qF ?_;refine awp_rseq [0,3,4,6,65] (by rfl) fun K hK=>?_;simp+decide only[qa,ev,putD,VG,VH,VI,Ka,Kb,↓qg,qd,↓qZ,Qc,qA Tryz.underlying45 Yv,↓qC,qi,Yf,↓qI,qj qbB,↓QB,Qo,↓qo,qh,qN,cond_false,qz,Xt,hpe,e4,nb,hbl,VN];repeat (with_reducible refine And.intro ?_ ?_;· first|trivial|omega|(intro hg;simp only[Ky,JF,Ji,VO,VL,VK,decide_eq_true_eq,decide_eq_false_iff_not,Xd]at hg;omega))
   apply hK;clear hK K;refine qM (b:=_) rfl (fun hb3=>?_) (fun hb3=>?_)
   ·try simp only[decide_eq_true_eq]at hb3
    have ha':a<ql.length:=by omega
    obtain⟨b,hbj⟩:∃b,b=ql.getD a qcj:=⟨_,rfl⟩
    have hbm:b∈ql:=by rw[hbj,Ko,JH ha'];exact VA ha'
    obtain⟨lb,ob,cb,hpb⟩:=qaZ hqb (by omega);have hb2:=hqb.mono hs_H;rw[hpb]at hb2;obtain⟨f0,f1,f2⟩:=qdT hb2 ha';rw[<-hbj]at f0 f1 f2;obtain⟨hbt,hbs⟩:=hqq b hbm;obtain⟨hbtn,hsb⟩:=hbb b.1 (by rw[hql];exact Bp (f:=(·.1)) hbm);obtain⟨hy1,hy2,hy3⟩:=hx3 b.1 (by rw[hql];exact Bp (f:=(·.1)) hbm);have htl:=hbt.live;obtain⟨hll,hls,hlc⟩:=hbs.shape;have hst2:=qgW (f:=spB d) (d:=qcj) ha';rw[<-hbj]at hst2;rw[hst2]at hg;obtain⟨⟨bw,bt,bL⟩,btv,blv⟩:=b;simp only[spB]at f0 f1 f2 hbt hbs hsb hbtn htl hll hg hy1 hy2 hy3;obtain⟨Y,hY⟩:∃Y,Y=(((ql.drop (a+1)).map (·.1)).map (spB d)).flatten:=⟨_,rfl⟩
    rw[<-hY]at hg;have hg14:R=(A3++[91::(bw++[93])])++(bt.map ZU++(QG d bL++(Y++([125]::X)))):=by rw[hg];simp
    have hA14:=qlM hg14 hT;rw[Jc,JA,Jc,Jo,Jc]at hA14;have hwa:IntKind.i64.wrap ((a:Int)+1)=((a+1:Nat):Int):=by rw[wrap_i64 (by omega) (by omega)];omega
    refine qV ?_;change Awp _ _ _ _ _ _ _;refine qF ?_;refine Qb ?_;refine awp_rseq [0,3,4,6] (by rfl) fun K hK=>?_;simp+decide only[ev,qK,qG,putD,VG,VH,Ka,Kb,↓qg,qd,↓qZ,Qc,qA Tryz.underlying45 Yv,↓qC,qi,Yf,↓qI,qj qbB,qA Tryz.underlying80 UE,qhb,qj ag9,↓qo,qh,qN,cond_false,Qp,YK,Qy,Jq,Qw,Xv,e4,hpb,f0,VN,K7,Kh,Je,KY,JN];repeat (with_reducible refine And.intro ?_ ?_;· first|trivial|omega|(intro hg;simp only[Ky,JF,Ji,VO,VL,VK,decide_eq_true_eq,decide_eq_false_iff_not,Xd]at hg;omega))
    refine Qh (cs:=[.str (List.cons 91 (bw++[93]))]) (by kernel_rfl) fun k14q12 hk14q12=>?_;have hn_14q12:H k14q12=none:=by first|assumption|(simp only[VU]at hk14q12;simp only[hk14q12])
    have hf_14q12:h k14q12=none:=VV hs_H hn_14q12;refine Zj (es:=1) (v:=rv) (p:=rp) (xs:=A3.map strC) (ys:=[strC (91::(bw++[93]))]) (i:=1) (by rfl) (by rfl) Tryz.underlying22 Tryz.underlying22 (fun k e=>by cases e) sz9 by9 ze9 (by rfl) (by decide) (by rfl) hrow hG rfl (hS.forget (Vi hk14q12)) (by rfl) (Bh (Vg _ _ _) (fun x hx=>by rw[VM.1 hx];rfl) (by rfl) (by rfl) (.exact 1) (KM _)) (by rfl) (by simp only[Jo,JA];omega) (by simp only[Jo,JA];omega) fun rv9 rp9 h9 hrow9 hG9 hS9=>?_;have hrow9:GrowV 1 rv9 rp9 ((A3++[91::(bw++[93])]).map strC):=by rw[Vr];exact hrow9
    simp+decide only[qa,ev,putD,VG,VH,VI,Ka,Kb,↓qf,qc];apply hK;clear hK K;have hrl9:=hrow9.live;have hs_h9:Sub h h9:=hS9.in_ (i:=0) rfl;have hq9:=hqL.mono hs_h9;have hq0:=hqL;rw[hpe]at hq9 hq0;have e4':=(qcd hq9 hi').2.2.2.2;have e40:=(qcd hq0 hi').2.2.2.2;rw[<-hqj]at e4' e40;have hb9:=hqb.mono hs_h9;have hb0:=hqb;rw[hpb]at hb9 hb0;have f1':=(qdT hb9 ha').2.1;have f20:=(qdT hb0 ha').2.2;rw[<-hbj]at f1' f20;simp only at e4' f1' e40 f20;refine qak [0,1,2,3,4,5,6,7,8,9,12,13,14,15,16,17,18,19,20,10,11,21,22,23] [0,0,0,0,0,0,0,0,0,0,2,2,2,2,2,2,2,2,2,0,0,0,0,0] [none,none,none,none,none,none,none,none,none,none,none,none,none,none,none,none,none,none,none,none,some 19,some 20,some 21,some 22] 20 (h) mixed (by kernel_rfl) (by rfl) (hs_h9) ?_;simp only[Yi,List.filterMap_cons,List.filterMap_nil,List.getElem?_cons_zero,List.getElem?_cons_succ];simp+decide only[qa,ev,putD,VG,VH,Ka,Kb,Uy,Uw,WO,Ub,Wv,↓qg,qd,↓qZ,Qc,qA Tryz.underlying45 Yv,↓qC,qi,Yf,↓qI,qj qbB,qA Tryz.underlying80 UE,qcT,qj qam,qcS,qj qhm,Xv,hpe,e4',e40,hpb,f1',f20,htl,hll,VN];repeat (with_reducible refine And.intro ?_ ?_;· first|trivial|omega|(intro hg;simp only[Ky,JF,Ji,VO,VL,VK,decide_eq_true_eq,decide_eq_false_iff_not,Xd]at hg;omega))
    refine qY (by rfl) (by rfl) (qru wz _ btv bt (hbt.mono hs_h9) hbtn hy2) fun x15q10 h15q10 hx15q10=>?_;obtain⟨pp,hrowP,hGP,hSP⟩:=hx15q10;have hsA:Sub h9 h15q10:=hSP.in_ (i:=0) rfl;have hSA:=Sep.nest hS9 hSP;try simp only[Kj,VZ,Kh,Je]at hSA
    rw[qa];refine And.intro (by first|exact Vh _|assumption|exact Vi (by assumption)) ?_;simp+decide only[putD,VG,Ka];refine Zj (es:=1) (v:=rv9) (p:=rp9) (xs:=(A3++[91::(bw++[93])]).map strC) (ys:=(bt.map ZU).map strC) (i:=1) (by rfl) (by rfl) Tryz.underlying22 Tryz.underlying22 (fun k e=>by cases e) sz9 by9 ze9 (by rfl) (by decide) (by rfl) hrow9 hG9 rfl hSA (by rfl) (hrowP.isL (hSA.in_ (i:=2) rfl)) (qgC _) (by simp only[Jo,Jc,JA];omega) (by simp only[Jo,Jc,JA];omega) fun rv10 rp10 h10 hrow10 hG10 hS10=>?_;rw[<-Vr]at hrow10;have hrl10:=hrow10.live;have hs_h10:Sub h h10:=hS10.in_ (i:=0) rfl;rw[qa];refine And.intro (by first|exact Vh _|assumption|exact Vi (by assumption)) ?_;simp+decide only[putD,VG,Ka];refine qY (by rfl) (by rfl) (ih _ blv bL (hbs.mono hs_h10) hsb hy3 (by omega)) fun x15q21 h15q21 hx15q21=>?_;obtain⟨pq,hrowQ,hGQ,hSQ⟩:=hx15q21;have hSB:=Sep.nest hS10 hSQ;try simp only[Kh,Je,Kj,VZ]at hSB
    have hs_hB:Sub h h15q21:=hSB.in_ (i:=0) rfl;rw[qa];refine And.intro (by first|exact Vh _|assumption|exact Vi (by assumption)) ?_;simp+decide only[putD,VG,if_false];refine Zj (es:=1) (v:=rv10) (p:=rp10) (xs:=(A3++[91::(bw++[93])]++bt.map ZU).map strC) (ys:=(QG d bL).map strC) (i:=1) (by rfl) (by rfl) Tryz.underlying22 Tryz.underlying22 (fun k e=>by cases e) sz9 by9 ze9 (by rfl) (by decide) (by rfl) hrow10 hG10 rfl hSB (by rfl) (hrowQ.isL (hSB.in_ (i:=3) rfl)) (qgC _) (by simp only[Jo,Jc,JA];omega) (by simp only[Jo,Jc,JA];omega) fun rv11 rp11 h11 hrow11 hG11 hS11=>?_;rw[<-Vr]at hrow11;have hs_h11:Sub h h11:=hS11.in_ (i:=0) rfl;rw[qa];refine And.intro (by first|exact Vh _|assumption|exact Vi (by assumption)) ?_;simp+decide only[qa,ev,putD,VG,VH,Ka,Kb,↓qf,qc];repeat (with_reducible refine And.intro ?_ ?_;· first|trivial|omega|(intro hg;simp only[Ky,JF,Ji,VO,VL,VK,decide_eq_true_eq,decide_eq_false_iff_not,Xd]at hg;omega))
    change Awp _ _ _ _ _ _ _;refine Xa [0,3,4,6] (by rfl) ?_;simp+decide only[qa,ev,qK,qG,putD,VG,VH,VI,Ka,Kb,↓qg,qd,↓qo,qh,qE,cond_false,qz,QW,↓qf,qc,hwa];try simp only[qR]
    exact⟨⟨a+1,A3++[91::(bw++[93])]++bt.map ZU++QG d bL,rv11,rp11,h11⟩,by first|rfl|(rw[hpe];rfl),Vh _,⟨ha',hS11.sub (by simp),hrow11,hG11,by simp only;rw[hg14,hY];simp⟩,by simp only;omega⟩
   ·try simp only[decide_eq_false_iff_not]at hb3
    have haq:a=ql.length:=by omega
    rw[haq,J8]at hg;have hg16:R=(A3++[[125]])++X:=by rw[hg];simp
    have hA16:=qlM hg16 hT;rw[Jc,JA]at hA16;refine QI ?_;change Awp _ _ _ _ _ _ _;refine Xa [0,3,4] (by rfl) ?_;simp+decide only[ev,putD,VG,VH,Ka,Kb,↓qg,qd];refine Qh (cs:=[.str [125]]) (by kernel_rfl) fun k16q1 hk16q1=>?_;have hn_16q1:H k16q1=none:=by first|assumption|(simp only[VU]at hk16q1;simp only[hk16q1])
    have hf_16q1:h k16q1=none:=VV hs_H hn_16q1;refine Zj (es:=1) (v:=rv) (p:=rp) (xs:=A3.map strC) (ys:=[strC [125]]) (i:=1) (by rfl) (by rfl) Tryz.underlying22 Tryz.underlying22 (fun k e=>by cases e) sz9 by9 ze9 (by rfl) (by decide) (by rfl) hrow hG rfl (hS.forget (Vi hk16q1)) (by rfl) (Bh (Vg _ _ _) (fun x hx=>by rw[VM.1 hx];rfl) (by rfl) (by rfl) (.exact 1) (KM _)) (by rfl) (by simp only[Jo,JA];omega) (by simp only[Jo,JA];omega) fun rv16 rp16 h16 hrow16 hG16 hS16=>?_;have hrow16:GrowV 1 rv16 rp16 ((A3++[[125]]).map strC):=by rw[Vr];exact hrow16
    simp+decide only[qa,ev,putD,VG,VH,VI,Ka,Kb,↓qf,qc];change Awp _ _ _ _ _ _ _;refine Xa [0,3,4] (by rfl) ?_;simp+decide only[qa,ev,qK,qG,putD,VG,VH,VI,Ka,Kb,↓qg,qd,↓qo,qh,qE,cond_false,qz,QW,↓qf,qc,hwi];try simp only[qR]
    exact⟨⟨i+1,A3++[[125]],rv16,rp16,h16⟩,by first|rfl|(rw[hpe];rfl),Vh _,⟨hi',hS16,hrow16,hG16,by simp only;rw[hg16,hX]⟩,by simp only;omega⟩
 ·try simp only[decide_eq_false_iff_not]at hb1
  have hin:i=qs.length:=by omega
  rw[hin,J8]at hg;have hgR:R=A:=by rw[hg];simp
  refine QI ?_;change Awp _ _ _ _ _ _ _;refine awp_rseq [2] (by rfl) fun K hK=>?_;simp+decide only[qa,ev,putD,VG,VH,VI,Ka,Kb,↓qg,qd,↓qf,qc];apply hK;clear hK K;refine Qn ?_;refine Qu (qJ (qO)) ?_;simp+decide only[VH,if_true,Qg];exact⟨H,Vh _,rp,by rw[hgR];exact hrow,hG,hS⟩
theorem qhi(wz:World):∀(d:Nat) (h:AHeap) (v:AVal) (l:List StC),StsV wz d h v l->SmallS d l->TxS d l->(QG d l).length<=1000000000000->ACall Tryz.prog wz 20 [v] h (qjR wz d h l)
 |0,h,v,l,hs,hsm,htx,hT=>by
  obtain⟨rfl,hv⟩:=sts0 hs;exact qpo wz h v hv
 |d+1,h,v,l,hs,hsm,htx,hT=>qpn wz d h v l hs hsm htx hT fun h' v l hs hsm htx hT=>qhi wz d h' v l hs hsm htx hT
end Go.Proofs.YtgiadjbiimkbiaaGreatDoor
namespace Go.Stm
open Go.Col (Str FaultC okF)
open Go.Tok
set_option maxRecDepth 100000
def badAt(s:Str)(ln:Int):Bool:=match WV QV (Xg s) XE 300 with
 |some (.bad f)=>decide (f=⟨4,ln,8⟩)
 |_=>false
end Go.Stm
namespace Go.Stm
open Go.Col (Str)
open Go.Tok
def UI(a b:PhrC):Bool:=decide (a.words=b.words) && ZI a.toks b.toks
def rowE{α:Type}(f:α->α->Bool):List α->List α->Bool
 |[],[]=>true
 |x::a,y::b=>f x y && rowE f a b
 |_,_=>false
def sameE:Nat->List StC->List StC->Bool
 |0,a,b=>decide (a.length=b.length)
 |m+1,a,b=>rowE (fun s t=>decide (s.verb=t.verb) && (rowE UI s.phrases t.phrases && rowE (fun x y=>decide (x.1=y.1) && (ZI x.2.1 y.2.1 && sameE m x.2.2 y.2.2)) s.bodies t.bodies)) a b
def qaJ(d:Nat)(a b:List StC):Bool:= !YF 32 a && (!YF 32 b && sameE d a b)
theorem qiM{α:Type}{f:α->α->Bool}:∀{a b:List α},rowE f a b=true->a.length=b.length
 |[],[],_=>rfl
 |x::a,y::b,h=>by
  rw[rowE,Ky]at h;rw[KY,KY,qiM h.2]
 |[],y::b,h=>by cases h
 |x::a,[],h=>by cases h
end Go.Stm
namespace Go.Stm
open Go.Col (Str FaultC okF)
open Go.Tok
def qlu:Nat->List StC->Bool
 |0,l=>decide (l.length<=1000000)
 |m+1,l=>decide (l.length<=1000000) && l.all fun s=>decide (s.verb.length<=1000000) && (decide (s.bodies.length<=1000000) && (decide (s.phrases.length<=1000000) && ((s.phrases.all fun p=>decide (p.words.length<=1000000) && (decide (p.toks.length<=1000000) && p.toks.all fun t=>decide (t.text.length<=1000000))) &&
  s.bodies.all fun b=>decide (b.1.length<=1000000) && (decide (b.2.1.length<=1000000) && ((b.2.1.all fun t=>decide (t.text.length<=1000000)) && qlu m b.2.2)))))
def qjf(s:Str)(n:Nat)(want:Str):Bool:=match WV QV (Xg s) XE 300 with
 |some (.ok L _)=>decide (L.length=n) && (decide (Lib.join (QG 32 L) [32]=want) && (qlu 32 L && (decide ((QG 32 L).length<=1000000) && decide (Xj 32 L<=1000000))))
 |_=>false
def lvSa:Str:=[65,68,68,32,65,32,66,32,84,79,32,67,32,83,73,90,69,32,69,82,82,79,82,32,77,79,86,69,32,49,32,84,79,32,68,32,69,78,68,45,65,68,68,32,77,79,86,69,32,50,32,84,79,32,69,32,46]
def lvWa:Str:=[123,65,68,68,32,60,62,32,49,65,32,49,66,32,60,84,79,62,32,49,67,32,91,79,78,32,83,73,90,69,32,69,82,82,79,82,93,32,123,77,79,86,69,32,60,62,32,50,49,32,60,84,79,62,32,49,68,32,125,32,125,32,123,77,79,86,69,32,60,62,32,50,50,32,60,84,79,62,32,49,69,32,125]
theorem lv_a:qjf lvSa 2 lvWa=true:=by decide+kernel
def lvSb:Str:=[73,70,32,65,32,62,32,49,32,73,70,32,66,32,61,32,50,32,65,68,68,32,49,32,84,79,32,65,32,69,76,83,69,32,65,68,68,32,50,32,84,79,32,65,32,46,32,77,79,86,69,32,65,32,84,79,32,66,32,46]
def lvWb:Str:=[123,73,70,32,60,62,32,49,65,32,53,62,32,50,49,32,91,84,72,69,78,93,32,123,73,70,32,60,62,32,49,66,32,53,61,32,50,50,32,91,84,72,69,78,93,32,123,65,68,68,32,60,62,32,50,49,32,60,84,79,62,32,49,65,32,125,32,91,69,76,83,69,93,32,123,65,68,68,32,60,62,32,50,50,32,60,84,79,62,32,49,65,32,125,32,125,32,125,32,123,77,79,86,69,32,60,62,32,49,65,32,60,84,79,62,32,49,66,32,125]
theorem lv_b:qjf lvSb 2 lvWb=true:=by decide+kernel
def lvSc:Str:=[80,69,82,70,79,82,77,32,78,32,84,73,77,69,83,32,65,68,68,32,49,32,84,79,32,65,32,69,78,68,45,80,69,82,70,79,82,77,32,46,32,80,69,82,70,79,82,77,32,80,32,78,32,84,73,77,69,83,32,46]
def lvWc:Str:=[123,80,69,82,70,79,82,77,32,60,62,32,49,78,32,60,84,73,77,69,83,62,32,91,93,32,123,65,68,68,32,60,62,32,50,49,32,60,84,79,62,32,49,65,32,125,32,125,32,123,80,69,82,70,79,82,77,32,60,62,32,49,80,32,49,78,32,60,84,73,77,69,83,62,32,125]
theorem lv_c:qjf lvSc 2 lvWc=true:=by decide+kernel
def lvSd:Str:=[69,86,65,76,85,65,84,69,32,65,32,87,72,69,78,32,49,32,87,72,69,78,32,50,32,67,79,78,84,73,78,85,69,32,87,72,69,78,32,79,84,72,69,82,32,83,84,79,80,32,82,85,78,32,69,78,68,45,69,86,65,76,85,65,84,69,32,46]
def lvWd:Str:=[123,69,86,65,76,85,65,84,69,32,60,62,32,49,65,32,91,87,72,69,78,93,32,50,49,32,91,87,72,69,78,93,32,50,50,32,123,67,79,78,84,73,78,85,69,32,60,62,32,125,32,91,87,72,69,78,32,79,84,72,69,82,93,32,123,83,84,79,80,32,60,62,32,60,82,85,78,62,32,125,32,125]
theorem lv_d:qjf lvSd 1 lvWd=true:=by decide+kernel
def lvSr:Str:=[82,69,65,68,32,70,32,78,69,88,84,32,82,69,67,79,82,68,32,73,78,84,79,32,88,32,65,84,32,69,78,68,32,67,79,78,84,73,78,85,69,32,46]
def lvWr:Str:=[123,82,69,65,68,32,60,62,32,49,70,32,60,78,69,88,84,62,32,60,73,78,84,79,62,32,49,88,32,91,65,84,32,69,78,68,93,32,123,67,79,78,84,73,78,85,69,32,60,62,32,125,32,125]
theorem lv_r:qjf lvSr 1 lvWr=true:=by decide+kernel
def fiveB(s:Str):Bool:=match WV QV (Xg s) XE 300 with
 |some (.ok L _)=>decide ((if YF 32 L=true then 0 else Xj 32 L)=5)
 |_=>false
theorem lv_five:fiveB lvSb=true:=by decide+kernel
def lvT:List Str:=[[65,68,68,32,49,32,84,79,32,65,32,69,78,68,45,73,70,32,46],
 [73,70,32,65,32,61,32,66,32,46],
 [80,69,82,70,79,82,77,32,65,68,68,32,49,32,84,79,32,65,32,46],
 [53,32,84,79,32,65,32,46]]
def lvL:List Int:=[5,1,1,1]
theorem lv_bad:((KQ 4).all fun n=>badAt (lvT.getD n []) (lvL.getD n 0) && (decide ((lvT.getD n []).length<=100) && Go.Proofs.YtgiadjbiimkbiaaGreatDoor.asciiB (lvT.getD n [])))=true:=by decide+kernel
end Go.Stm
namespace Go.Proofs.YtgiadjbiimkbiaaGreatDoor
open Go.AM
open Go.Proofs
open Go.Col (Str FaultC okF)
open Go.Tok (TokC)
open Go.Stm
open Go.RowKit (Below)
set_option maxRecDepth 100000
theorem qbE:∀{m:Nat} {l:List StC},qlu m l=true->SmallS m l/\TxS m l
 |0,l,h=>⟨of_decide_eq_true (p:=l.length<=1000000) h,trivial⟩
 |m+1,l,h=>by
  simp only[qlu,Ky,JC,decide_eq_true_eq]at h;obtain⟨h0,h1⟩:=h;exact⟨⟨h0,fun s hs=>⟨(h1 s hs).2.1,(h1 s hs).2.2.1,fun p hp=>((h1 s hs).2.2.2.1 p hp).2.1,fun b hb=>⟨((h1 s hs).2.2.2.2 b hb).2.1,(qbE ((h1 s hs).2.2.2.2 b hb).2.2.2).1⟩⟩⟩,
   fun s hs=>⟨(h1 s hs).1,fun p hp=>⟨((h1 s hs).2.2.2.1 p hp).1,((h1 s hs).2.2.2.1 p hp).2.2⟩,fun b hb=>⟨((h1 s hs).2.2.2.2 b hb).1,((h1 s hs).2.2.2.2 b hb).2.2.1,(qbE ((h1 s hs).2.2.2.2 b hb).2.2.2).2⟩⟩⟩
theorem qfL{l:List TokC}{r r':Rs (List StC)}{f:Nat}(h:WV QV l XE f=some r)(h':ParseR QV l XE r'):r'=r:=ParseR.one h' ⟨f,h⟩
theorem qbp{wz:World}{s want:Str}{n:Nat}{h h':AHeap}{r:AVal}(hb:qjf s n want=true)(ho:qjT wz (Xg s) h r h'):
 Sub h h'/\∃L rv,r= .tuple [rv,faultV okF]/\StsV wz 32 h' rv L/\L.length=n/\Lib.join (QG 32 L) [32]=want/\SmallS 32 L/\TxS 32 L/\(QG 32 L).length<=1000000/\Xj 32 L<=1000000/\∃j,WV QV (Xg s) XE 300=some (.ok L j):=by
 obtain⟨hs,ho⟩:=ho;unfold qjf at hb;cases hp:WV QV (Xg s) XE 300 with
 |none=>rw[hp]at hb;cases hb
 |some x=>
  rw[hp]at hb;cases x with
  |bad f=>cases hb
  |ok L j=>
   simp only[Ky,decide_eq_true_eq]at hb;obtain⟨b1,b2,b3,b4,b5⟩:=hb;rcases ho with⟨f,q,-⟩|⟨L',j',rv,q,e,hv⟩
   ·cases qfL hp q
   ·cases qfL hp q
    exact⟨hs,L,rv,e,hv,b1,b2,(qbE b3).1,(qbE b3).2,b4,b5,j,rfl⟩
theorem qsb{wz:World}{s:Str}{ln:Int}{h h':AHeap}{r:AVal}(hb:badAt s ln=true)(ho:qjT wz (Xg s) h r h'):Sub h h'/\r= .tuple [.nilSlice,faultV ⟨4,ln,8⟩]:=by
 obtain⟨hs,ho⟩:=ho;unfold badAt at hb;cases hp:WV QV (Xg s) XE 300 with
 |none=>rw[hp]at hb;cases hb
 |some x=>
  rw[hp]at hb;cases x with
  |ok L j=>cases hb
  |bad f=>
   have hb:=of_decide_eq_true hb;subst hb;rcases ho with⟨f,q,e⟩|⟨L',j',rv,q,-⟩
   ·cases qfL hp q
    exact⟨hs,e⟩
   ·cases qfL hp q
theorem lv_count{L:List StC}{j:Nat}(h:WV QV (Xg lvSb) XE 300=some (.ok L j)):qmF 32 L=5:=by
 have:=lv_five;unfold fiveB at this;rw[h]at this;exact of_decide_eq_true this
theorem qbh(wz:World)(hm:MaxL wz)(ha:Asp wz)(h:AHeap)(s:Str)(hl:s.length<=999999)(has:asciiB s=true):
 ACall Tryz.prog wz 16 [.str s] h (fun r h'=>IsL wz h' 5 r ((Xg s).map Xy)/\Sub h h'):=
 (qct wz hm ha h s hl has).mono fun r h' ⟨p,a,_,b⟩=>⟨a.isL (b.in_ (i:=1) rfl),b.in_ (i:=0) rfl⟩
theorem qby(wz:World)(h:AHeap)(v:AVal)(l:List StC)(hs:StsV wz 32 h v l)(hsm:SmallS 32 l)(htx:TxS 32 l)(hT:(QG 32 l).length<=1000000):
 ACall Tryz.prog wz 20 [v] h (fun r h'=>IsStrs wz h' r (QG 32 l)/\Sub h h'):=
 (qhi wz 32 h v l hs hsm htx (by omega)).mono fun r h' ⟨p,a,_,b⟩=>⟨a.isL (b.in_ (i:=1) rfl),b.in_ (i:=0) rfl⟩
set_option maxHeartbeats 32000000 in
theorem qla(wz:World)(hm:MaxL wz)(ha:Asp wz)(h:AHeap):ACall Tryz.prog wz 13 [] h (fun r h'=>r= .bool true/\Sub h h'):=by
 refine Ql (n:=141) (rs:=[.tmp 0]) Tryz.func13 rfl rfl rfl rfl (VF rfl) ?_;simp only[Qm];refine awp_rseq [] (by rfl) fun K hK=>?_;simp+decide only[qa,ev,qK,qG,putD,VG,VI,if_false,Kb,↓qf,qc];apply hK;clear hK K;refine awp_rseq [1,2] (by rfl) fun K hK=>?_;refine qY (by rfl) (by rfl) (qbh wz hm ha _ lvSa (by decide) (by decide)) fun x1q0 h1q0 hx1q0=>?_;obtain⟨ht1,hsT1⟩:=hx1q0;have hs_h1q0:Sub h h1q0:=Ba zqC hsT1;have hr_h1q0:=hs_h1q0;refine qY (by rfl) (by rfl) (qdb wz hm ha (Xg lvSa) (Uv (by decide)) (Ww (by decide)) _ x1q0 ht1) fun x1q1 h1q1 hx1q1=>?_;obtain⟨hsP1,La,rva,e1,hva,hna,hja,hsma,htxa,hsla,hcta,jja,hppa⟩:=qbp lv_a hx1q1;subst e1;have hvla:=hva.shape.1;have hvna:=qas hva;rw[hna]at hvna;have hs_h1q1:Sub h h1q1:=Ba zqC hsP1;have hr_h1q1:Sub h1q0 h1q1:=Ba zqC hsP1;simp+decide only[ev,putD,VG,VH,Ka,Kb,↓qg,qd,↓Xu,Xk,XA,KY,JN,VJ,Kn,VJ,Kn,Jq,Nat.reduceAdd,faultV];refine Xb qlk (cs:=[.int .i64 0, .int .i64 0, .int .i64 0]) (by rfl) fun k1q5 hk1q5=>?_;have hn_1q5:h1q1 k1q5=none:=by first|assumption|(simp only[VU]at hk1q5;simp only[hk1q5])
 have hf_1q5:h k1q5=none:=VV hs_h1q1 hn_1q5;simp+decide only[ev,putD,VG,VH,Ka,Kb,↓qf,qc];refine Qi (by rfl) (by rfl) zqA qdv (by rfl) (by rfl) zqD (Jr _) (by rfl) ?_;simp only[VX,VY];simp+decide only[qa,ev,putD,VH,VI,Ka,setAt,VZ,Kj,Jq,Nat.reduceAdd];apply hK;clear hK K;refine awp_rseq [1,2,3,4] (by rfl) fun K hK=>?_;refine qY (by rfl) (by rfl) (qbh wz hm ha _ lvSb (by decide) (by decide)) fun x2q0 h2q0 hx2q0=>?_;obtain⟨ht2,hsT2⟩:=hx2q0;have hs_h2q0:Sub h h2q0:=Ba zqC hsT2;have hr_h2q0:Sub h1q1 h2q0:=Ba zqC hsT2;have eb_1q5:=hsT2 k1q5 _ zqA;refine qY (by rfl) (by rfl) (qdb wz hm ha (Xg lvSb) (Uv (by decide)) (Ww (by decide)) _ x2q0 ht2) fun x2q1 h2q1 hx2q1=>?_;obtain⟨hsP2,Lb,rvb,e2,hvb,hnb,hjb,hsmb,htxb,hslb,hctb,jjb,hppb⟩:=qbp lv_b hx2q1;subst e2;have hvlb:=hvb.shape.1;have hvnb:=qas hvb;rw[hnb]at hvnb;have hs_h2q1:Sub h h2q1:=Ba zqC hsP2;have hr_h2q1:Sub h2q0 h2q1:=Ba zqC hsP2;have eb_1q5:=hsP2 k1q5 _ zqA;simp+decide only[ev,putD,VG,VH,Ka,Kb,↓qg,qd,↓Xu,Xk,XA,KY,JN,VJ,Kn,VJ,Kn,Jq,Nat.reduceAdd,faultV];refine Xb qlk (cs:=[.int .i64 0, .int .i64 0, .int .i64 0]) (by rfl) fun k2q5 hk2q5=>?_;have hn_2q5:h2q1 k2q5=none:=by first|assumption|(simp only[VU]at hk2q5;simp only[hk2q5])
 have hf_2q5:h k2q5=none:=VV hs_h2q1 hn_2q5;have ne_2q5_1q5:k2q5≠k1q5:=VW hn_2q5 eb_1q5;simp+decide only[ev,putD,VG,VH,Ka,Kb,↓qf,qc];refine Qi (by rfl) (by rfl) zqA qdv (by rfl) (by rfl) zqD (Jr _) (by rfl) ?_;simp only[VX,VY];simp+decide only[qa,ev,putD,VH,VI,Ka,setAt,VZ,Kj,Jq,Nat.reduceAdd];apply hK;clear hK K;refine awp_rseq [1,2,3,4,5,6] (by rfl) fun K hK=>?_;refine qY (by rfl) (by rfl) (qbh wz hm ha _ lvSc (by decide) (by decide)) fun x3q0 h3q0 hx3q0=>?_;obtain⟨ht3,hsT3⟩:=hx3q0;have hs_h3q0:Sub h h3q0:=Ba zqC hsT3;have hr_h3q0:Sub h2q1 h3q0:=Ba zqC hsT3;have eb_2q5:=hsT3 k2q5 _ zqA;have eb_1q5:=hsT3 k1q5 _ zqA;refine qY (by rfl) (by rfl) (qdb wz hm ha (Xg lvSc) (Uv (by decide)) (Ww (by decide)) _ x3q0 ht3) fun x3q1 h3q1 hx3q1=>?_;obtain⟨hsP3,Lc,rvc,e3,hvc,hnc,hjc,hsmc,htxc,hslc,hctc,jjc,hppc⟩:=qbp lv_c hx3q1;subst e3;have hvlc:=hvc.shape.1;have hvnc:=qas hvc;rw[hnc]at hvnc;have hs_h3q1:Sub h h3q1:=Ba zqC hsP3;have hr_h3q1:Sub h3q0 h3q1:=Ba zqC hsP3;have eb_1q5:=hsP3 k1q5 _ zqA;have eb_2q5:=hsP3 k2q5 _ zqA;simp+decide only[ev,putD,VG,VH,Ka,Kb,↓qg,qd,↓Xu,Xk,XA,KY,JN,VJ,Kn,VJ,Kn,Jq,Nat.reduceAdd,faultV];refine Xb qlk (cs:=[.int .i64 0, .int .i64 0, .int .i64 0]) (by rfl) fun k3q5 hk3q5=>?_;have hn_3q5:h3q1 k3q5=none:=by first|assumption|(simp only[VU]at hk3q5;simp only[hk3q5])
 have hf_3q5:h k3q5=none:=VV hs_h3q1 hn_3q5;have ne_3q5_1q5:k3q5≠k1q5:=VW hn_3q5 eb_1q5;have ne_3q5_2q5:k3q5≠k2q5:=VW hn_3q5 eb_2q5;simp+decide only[ev,putD,VG,VH,Ka,Kb,↓qf,qc];refine Qi (by rfl) (by rfl) zqA qdv (by rfl) (by rfl) zqD (Jr _) (by rfl) ?_;simp only[VX,VY];simp+decide only[qa,ev,putD,VH,VI,Ka,setAt,VZ,Kj,Jq,Nat.reduceAdd];apply hK;clear hK K;refine awp_rseq [1,2,3,4,5,6,7,8] (by rfl) fun K hK=>?_;refine qY (by rfl) (by rfl) (qbh wz hm ha _ lvSd (by decide) (by decide)) fun x4q0 h4q0 hx4q0=>?_;obtain⟨ht4,hsT4⟩:=hx4q0;have hs_h4q0:Sub h h4q0:=Ba zqC hsT4;have hr_h4q0:Sub h3q1 h4q0:=Ba zqC hsT4;have eb_3q5:=hsT4 k3q5 _ zqA;have eb_1q5:=hsT4 k1q5 _ zqA;have eb_2q5:=hsT4 k2q5 _ zqA;refine qY (by rfl) (by rfl) (qdb wz hm ha (Xg lvSd) (Uv (by decide)) (Ww (by decide)) _ x4q0 ht4) fun x4q1 h4q1 hx4q1=>?_;obtain⟨hsP4,Ld,rvd,e4,hvd,hnd,hjd,hsmd,htxd,hsld,hctd,jjd,hppd⟩:=qbp lv_d hx4q1;subst e4;have hvld:=hvd.shape.1;have hvnd:=qas hvd;rw[hnd]at hvnd;have hs_h4q1:Sub h h4q1:=Ba zqC hsP4;have hr_h4q1:Sub h4q0 h4q1:=Ba zqC hsP4;have eb_1q5:=hsP4 k1q5 _ zqA;have eb_2q5:=hsP4 k2q5 _ zqA;have eb_3q5:=hsP4 k3q5 _ zqA;simp+decide only[ev,putD,VG,VH,Ka,Kb,↓qg,qd,↓Xu,Xk,XA,KY,JN,VJ,Kn,VJ,Kn,Jq,Nat.reduceAdd,faultV];refine Xb qlk (cs:=[.int .i64 0, .int .i64 0, .int .i64 0]) (by rfl) fun k4q5 hk4q5=>?_;have hn_4q5:h4q1 k4q5=none:=by first|assumption|(simp only[VU]at hk4q5;simp only[hk4q5])
 have hf_4q5:h k4q5=none:=VV hs_h4q1 hn_4q5;have ne_4q5_1q5:k4q5≠k1q5:=VW hn_4q5 eb_1q5;have ne_4q5_2q5:k4q5≠k2q5:=VW hn_4q5 eb_2q5;have ne_4q5_3q5:k4q5≠k3q5:=VW hn_4q5 eb_3q5;simp+decide only[ev,putD,VG,VH,Ka,Kb,↓qf,qc];refine Qi (by rfl) (by rfl) zqA qdv (by rfl) (by rfl) zqD (Jr _) (by rfl) ?_;simp only[VX,VY];simp+decide only[qa,ev,putD,VH,VI,Ka,setAt,VZ,Kj,Jq,Nat.reduceAdd];apply hK;clear hK K;refine awp_rseq [1,2,3,4,5,6,7,8,9,10] (by rfl) fun K hK=>?_;refine qY (by rfl) (by rfl) (qbh wz hm ha _ lvSr (by decide) (by decide)) fun x5q0 h5q0 hx5q0=>?_;obtain⟨ht5,hsT5⟩:=hx5q0;have hs_h5q0:Sub h h5q0:=Ba zqC hsT5;have hr_h5q0:Sub h4q1 h5q0:=Ba zqC hsT5;have eb_4q5:=hsT5 k4q5 _ zqA;have eb_1q5:=hsT5 k1q5 _ zqA;have eb_2q5:=hsT5 k2q5 _ zqA;have eb_3q5:=hsT5 k3q5 _ zqA;refine qY (by rfl) (by rfl) (qdb wz hm ha (Xg lvSr) (Uv (by decide)) (Ww (by decide)) _ x5q0 ht5) fun x5q1 h5q1 hx5q1=>?_;obtain⟨hsP5,Lr,rvr,e5,hvr,hnr,hjr,hsmr,htxr,hslr,hctr,jjr,hppr⟩:=qbp lv_r hx5q1;subst e5;have hvlr:=hvr.shape.1;have hvnr:=qas hvr;rw[hnr]at hvnr;have hs_h5q1:Sub h h5q1:=Ba zqC hsP5;have hr_h5q1:Sub h5q0 h5q1:=Ba zqC hsP5;have eb_1q5:=hsP5 k1q5 _ zqA;have eb_2q5:=hsP5 k2q5 _ zqA;have eb_3q5:=hsP5 k3q5 _ zqA;have eb_4q5:=hsP5 k4q5 _ zqA;simp+decide only[ev,putD,VG,VH,Ka,Kb,↓qg,qd,↓Xu,Xk,XA,KY,JN,VJ,Kn,VJ,Kn,Jq,Nat.reduceAdd,faultV];refine Xb qlk (cs:=[.int .i64 0, .int .i64 0, .int .i64 0]) (by rfl) fun k5q5 hk5q5=>?_;have hn_5q5:h5q1 k5q5=none:=by first|assumption|(simp only[VU]at hk5q5;simp only[hk5q5])
 have hf_5q5:h k5q5=none:=VV hs_h5q1 hn_5q5;have ne_5q5_1q5:k5q5≠k1q5:=VW hn_5q5 eb_1q5;have ne_5q5_2q5:k5q5≠k2q5:=VW hn_5q5 eb_2q5;have ne_5q5_3q5:k5q5≠k3q5:=VW hn_5q5 eb_3q5;have ne_5q5_4q5:k5q5≠k4q5:=VW hn_5q5 eb_4q5;simp+decide only[ev,putD,VG,VH,Ka,Kb,↓qf,qc];refine Qi (by rfl) (by rfl) zqA qdv (by rfl) (by rfl) zqD (Jr _) (by rfl) ?_;simp only[VX,VY];simp+decide only[qa,ev,putD,VH,VI,Ka,setAt,VZ,Kj,Jq,Nat.reduceAdd];apply hK;clear hK K;refine qF ?_;refine awp_rseq [1,3,5,7,9,87] (by kernel_rfl) fun K hK=>?_;simp+decide only[qa,ev,qK,qG,putD,VG,VH,VI,Ka,Kb,↓qC,qi,fa48_0,↓qI,Qc,qj ag46,↓qo,qh,qE,cond_false,qz,WW,↓qg,qd,↓Xe,agP,Qs,qW,qP,qU,implies_true,decide_true,Bd,Be,Qf,↓XJ,Xp,ZL,↓QJ,↓QC,Qr,Qe,↓Xc,↓qal,Qo,decide_true,Bd,Be,Qf,Zv,cond_false,YI,ne_eq,not_false_eq_true,ne_5q5_1q5.symm,ne_5q5_2q5.symm,ne_5q5_3q5.symm,ne_5q5_4q5.symm,Qj wz eb_1q5,Qj wz eb_2q5,Qj wz eb_3q5,Qj wz eb_4q5,XN,VJ,Jq,QL,hvna,hvnb,hvnc,hvnd,hvnr];apply hK;clear hK K;refine qM (b:=_) rfl (fun hb1=>?_) (fun hb1=>?_)
 ·cases hb1
 ·try simp only at hb1
  refine qV ?_;change Awp _ _ _ _ _ _ _;refine qF ?_;refine awp_rseq [5,7,9,102] (by rfl) fun K hK=>?_;simp+decide only[ev,putD,VG,VH,Ka,Kb,↓qg,qd];refine qY (by rfl) (by rfl) (qby wz _ rva La (hva.mono (by repeat (first|exact Vh _|assumption|refine Ba ?_ (Vi (by assumption))|refine Ba ?_ (by assumption)))) hsma htxa hsla) fun x8q1 h8q1 hx8q1=>?_;obtain⟨hsta,hsSa⟩:=hx8q1;have hs_h8q1:Sub h h8q1:=Ba zqC hsSa;have hr_h8q1:Sub h5q1 h8q1:=Ba zqC hsSa;have eb_5q5:=hsSa k5q5 _ zqA;have eb_1q5:=hsSa k1q5 _ zqA;have eb_2q5:=hsSa k2q5 _ zqA;have eb_3q5:=hsSa k3q5 _ zqA;have eb_4q5:=hsSa k4q5 _ zqA;refine QS (V:= .str lvWa) (by rfl) (by rfl) (by rw[<-hja];exact qdN wz _ _ (QG 32 La) [32] hsta (by omega) (by rw[hja];decide)) ?_;simp+decide only[ev,qK,qG,putD,VG,VH,Ka,Kb,↓qo,qh,Qy,cond_false,Qp,Um,↓qg,qd,↓Xc,agP,Qs,qW,qP,qU,implies_true,decide_true,Bd,Be,Qf,decide_true,Bd,Be,Qf,cond_false];refine Zb (by rfl) ?_;refine qY (by rfl) (by rfl) (qby wz _ rvb Lb (hvb.mono (by repeat (first|exact Vh _|assumption|refine Ba ?_ (Vi (by assumption))|refine Ba ?_ (by assumption)))) hsmb htxb hslb) fun x8q6 h8q6 hx8q6=>?_;obtain⟨hstb,hsSb⟩:=hx8q6;have hs_h8q6:Sub h h8q6:=Ba zqC hsSb;have hr_h8q6:Sub h8q1 h8q6:=Ba zqC hsSb;have eb_1q5:=hsSb k1q5 _ zqA;have eb_2q5:=hsSb k2q5 _ zqA;have eb_3q5:=hsSb k3q5 _ zqA;have eb_4q5:=hsSb k4q5 _ zqA;have eb_5q5:=hsSb k5q5 _ zqA;refine Zb (by rfl) ?_;refine QS (V:= .str lvWb) (by rfl) (by rfl) (by rw[<-hjb];exact qdN wz _ _ (QG 32 Lb) [32] hstb (by omega) (by rw[hjb];decide)) ?_;simp+decide only[ev,qK,qG,putD,VG,VH,Ka,Kb,↓QJ,qh,agP,Qs,qW,qP,qU,implies_true,decide_true,Bd,Be,Qf,Qy,cond_false,Qp,Um,↓QC,Qr,Qe,↓qg,qd,↓Xc,decide_true,Bd,Be,Qf,Zv,cond_false];refine Zb (by rfl) ?_;refine qY (by rfl) (by rfl) (c_Count wz 32 _ rvb Lb (hvb.mono (by repeat (first|exact Vh _|assumption|refine Ba ?_ (Vi (by assumption))|refine Ba ?_ (by assumption)))) hsmb (by omega)) fun x8q12 h8q12 hx8q12=>?_;obtain⟨rfl,hsC⟩:=hx8q12;rw[lv_count hppb];have hs_h8q12:Sub h h8q12:=Ba zqC hsC;have hr_h8q12:Sub h8q6 h8q12:=Ba zqC hsC;have eb_1q5:=hsC k1q5 _ zqA;have eb_2q5:=hsC k2q5 _ zqA;have eb_3q5:=hsC k3q5 _ zqA;have eb_4q5:=hsC k4q5 _ zqA;have eb_5q5:=hsC k5q5 _ zqA;simp+decide only[qa,ev,qK,qG,putD,VG,VH,VI,Ka,Kb,↓QJ,qh,agP,Qs,qW,qP,qU,implies_true,decide_true,Bd,Be,Qf,qE,cond_false,qz,WW,↓QC,Qr,Qe,decide_true,Bd,Be,Qf,Zv,cond_false];apply hK;clear hK K;refine qM (b:=_) rfl (fun hb2=>?_) (fun hb2=>?_)
  ·cases hb2
  ·try simp only at hb2
   refine qV ?_;change Awp _ _ _ _ _ _ _;refine qF ?_;refine awp_rseq [118] (by rfl) fun K hK=>?_;simp+decide only[ev,putD,VG,VH,Ka,Kb,↓qg,qd];refine qY (by rfl) (by rfl) (qby wz _ rvc Lc (hvc.mono (by repeat (first|exact Vh _|assumption|refine Ba ?_ (Vi (by assumption))|refine Ba ?_ (by assumption)))) hsmc htxc hslc) fun x10q1 h10q1 hx10q1=>?_;obtain⟨hstc,hsSc⟩:=hx10q1;have hs_h10q1:Sub h h10q1:=Ba zqC hsSc;have hr_h10q1:Sub h8q12 h10q1:=Ba zqC hsSc;have eb_1q5:=hsSc k1q5 _ zqA;have eb_2q5:=hsSc k2q5 _ zqA;have eb_3q5:=hsSc k3q5 _ zqA;have eb_4q5:=hsSc k4q5 _ zqA;have eb_5q5:=hsSc k5q5 _ zqA;refine QS (V:= .str lvWc) (by rfl) (by rfl) (by rw[<-hjc];exact qdN wz _ _ (QG 32 Lc) [32] hstc (by omega) (by rw[hjc];decide)) ?_;simp+decide only[ev,qK,qG,putD,VG,VH,Ka,Kb,↓qo,qh,Qy,cond_false,Qp,Um,↓qg,qd,↓Xc,agP,Qs,qW,qP,qU,implies_true,decide_true,Bd,Be,Qf,decide_true,Bd,Be,Qf,cond_false];refine Zb (by rfl) ?_;refine qY (by rfl) (by rfl) (qby wz _ rvd Ld (hvd.mono (by repeat (first|exact Vh _|assumption|refine Ba ?_ (Vi (by assumption))|refine Ba ?_ (by assumption)))) hsmd htxd hsld) fun x10q6 h10q6 hx10q6=>?_;obtain⟨hstd,hsSd⟩:=hx10q6;have hs_h10q6:Sub h h10q6:=Ba zqC hsSd;have hr_h10q6:Sub h10q1 h10q6:=Ba zqC hsSd;have eb_1q5:=hsSd k1q5 _ zqA;have eb_2q5:=hsSd k2q5 _ zqA;have eb_3q5:=hsSd k3q5 _ zqA;have eb_4q5:=hsSd k4q5 _ zqA;have eb_5q5:=hsSd k5q5 _ zqA;refine Zb (by rfl) ?_;refine QS (V:= .str lvWd) (by rfl) (by rfl) (by rw[<-hjd];exact qdN wz _ _ (QG 32 Ld) [32] hstd (by omega) (by rw[hjd];decide)) ?_;simp+decide only[ev,qK,qG,putD,VG,VH,Ka,Kb,↓QJ,qh,agP,Qs,qW,qP,qU,implies_true,decide_true,Bd,Be,Qf,Qy,cond_false,Qp,Um,↓QC,Qr,Qe,↓qg,qd,↓Xc,decide_true,Bd,Be,Qf,Zv,cond_false];refine Zb (by rfl) ?_;refine qY (by rfl) (by rfl) (qby wz _ rvr Lr (hvr.mono (by repeat (first|exact Vh _|assumption|refine Ba ?_ (Vi (by assumption))|refine Ba ?_ (by assumption)))) hsmr htxr hslr) fun x10q12 h10q12 hx10q12=>?_;obtain⟨hstr,hsSr⟩:=hx10q12;have hs_h10q12:Sub h h10q12:=Ba zqC hsSr;have hr_h10q12:Sub h10q6 h10q12:=Ba zqC hsSr;have eb_1q5:=hsSr k1q5 _ zqA;have eb_2q5:=hsSr k2q5 _ zqA;have eb_3q5:=hsSr k3q5 _ zqA;have eb_4q5:=hsSr k4q5 _ zqA;have eb_5q5:=hsSr k5q5 _ zqA;refine Zb (by rfl) ?_;refine QS (V:= .str lvWr) (by rfl) (by rfl) (by rw[<-hjr];exact qdN wz _ _ (QG 32 Lr) [32] hstr (by omega) (by rw[hjr];decide)) ?_;simp+decide only[qa,ev,qK,qG,putD,VG,VH,VI,Ka,Kb,↓QJ,qh,agP,Qs,qW,qP,qU,implies_true,decide_true,Bd,Be,Qf,Qy,cond_false,Qp,Um,↓QC,Qr,Qe,decide_true,Bd,Be,Qf,Zv,cond_false];apply hK;clear hK K;refine qM (b:=_) rfl (fun hb3=>?_) (fun hb3=>?_)
   ·cases hb3
   ·try simp only at hb3
    refine qV ?_;change Awp _ _ _ _ _ _ _;refine awp_rseq [11] (by rfl) fun K hK=>?_;refine Qh (cs:=lvT.map AVal.str) (by kernel_rfl) fun k12q0 hk12q0=>?_;have hn_12q0:h10q12 k12q0=none:=by first|assumption|(simp only[VU]at hk12q0;simp only[hk12q0])
    have hf_12q0:h k12q0=none:=VV hs_h10q12 hn_12q0;have ne_12q0_1q5:k12q0≠k1q5:=VW hn_12q0 eb_1q5;have ne_12q0_2q5:k12q0≠k2q5:=VW hn_12q0 eb_2q5;have ne_12q0_3q5:k12q0≠k3q5:=VW hn_12q0 eb_3q5;have ne_12q0_4q5:k12q0≠k4q5:=VW hn_12q0 eb_4q5;have ne_12q0_5q5:k12q0≠k5q5:=VW hn_12q0 eb_5q5;simp+decide only[qa,ev,putD,VG,VH,VI,Ka,Kb,↓qf,qc];apply hK;clear hK K;refine qF ?_;refine awp_rseq [11,12] (by rfl) fun K hK=>?_;simp+decide only[qa,ev,qK,qG,putD,VG,VI,Ka,Kb,↓qf,qc];apply hK;clear hK K;refine Qb ?_;refine QN [11,12] (fun g:LtG=>[(11, .slice (.own k12q0) 0 4 (.exact 4)),(12, .int .i64 g.i)]) (fun g:LtG=>g.H) (fun g:LtG=>g.i<=4/\Sub h g.H/\g.H k12q0=some ⟨lvT.map AVal.str,0⟩) (fun g:LtG=>4-g.i) ⟨0, .nilSlice,emp,_⟩ (by rfl) (Vh _) ⟨Jr _,zqB,zqA⟩ ?_;rintro⟨i,rv,rp,H⟩ ⟨hi,hs_H,eb_12q0⟩;simp only at hi hs_H eb_12q0|-
    refine qF ?_;refine awp_rseq [11,12,121] (by rfl) fun K hK=>?_;simp+decide only[qa,ev,qK,qG,putD,VG,VH,VI,Ka,Kb,↓qg,qd,↓qo,qh,qE,cond_false,qz,Xt,cond_false];apply hK;clear hK K;refine qM (b:=_) rfl (fun hb4=>?_) (fun hb4=>?_)
    ·try simp only[decide_eq_true_eq]at hb4
     have hi':i<4:=by omega
     obtain⟨s,hs⟩:∃s,s=lvT.getD i []:=⟨_,rfl⟩
     obtain⟨ln,hln⟩:∃ln,ln=lvL.getD i 0:=⟨_,rfl⟩
     have es:=qdw (wz:=wz) eb_12q0 hi';rw[<-hs,Qj wz eb_12q0]at es;have hbad:=JC.1 lv_bad i (JD.2 hi');rw[<-hs,<-hln,Ky,Ky,decide_eq_true_eq]at hbad;obtain⟨hbad,hsl,hsa⟩:=hbad;have hi4:((i:Int)<4)=True:=eq_true (by omega);have hwi:IntKind.i64.wrap ((i:Int)+1)=((i+1:Nat):Int):=by rw[wrap_i64 (by omega) (by omega)];omega
     have hcell:([AVal.int .i64 5, .int .i64 1, .int .i64 1, .int .i64 1]:List AVal).getD i .dead= .int .i64 ln:=by
      rw[hln];have q:i=0\/i=1\/i=2\/i=3:=by omega
      rcases q with rfl|rfl|rfl|rfl<;>rfl
     refine qV ?_;change Awp _ _ _ _ _ _ _;refine qF ?_;refine Qb ?_;refine awp_rseq [11,12,14] (by rfl) fun K hK=>?_;simp+decide only[ev,putD,VG,VH,Ka,Kb,↓qg,qd,↓qZ,Qc,qA Tryz.underlying22 sz9,↓qI,qj ag9,decide_true,Qj wz eb_12q0,Jq,Qw,es,hi4,VN,V5,Jq];repeat (with_reducible refine And.intro ?_ ?_;· first|trivial|omega|(intro hg;simp only[Ky,JF,Ji,VO,VL,VK,decide_eq_true_eq,decide_eq_false_iff_not,Xd]at hg;omega))
     refine qY (by rfl) (by rfl) (qbh wz hm ha _ s (by omega) hsa) fun x16q4 h16q4 hx16q4=>?_;obtain⟨ht16,hsT16⟩:=hx16q4;have hs_h16q4:Sub h h16q4:=Ba zqC hsT16;have hr_h16q4:Sub H h16q4:=Ba zqC hsT16;have eb_12q0:=hsT16 k12q0 _ zqA;refine qY (by rfl) (by rfl) (qdb wz hm ha (Xg s) (Uv (by omega)) (Ww (by omega)) _ x16q4 ht16) fun x16q5 h16q5 hx16q5=>?_;obtain⟨hsP16,e16⟩:=qsb hbad hx16q5;subst e16;have hs_h16q5:Sub h h16q5:=Ba zqC hsP16;have hr_h16q5:Sub h16q4 h16q5:=Ba zqC hsP16;have eb_12q0:=hsP16 k12q0 _ zqA;simp+decide only[ev,putD,VG,VH,Ka,Kb,↓qg,qd,↓Xu,Xk,XA,KY,JN,VJ,Kn,VJ,Kn,Jq,Nat.reduceAdd,faultV,Jq];refine Xb qlk (cs:=[.int .i64 0, .int .i64 0, .int .i64 0]) (by rfl) fun k16q9 hk16q9=>?_;have hn_16q9:h16q5 k16q9=none:=by first|assumption|(simp only[VU]at hk16q9;simp only[hk16q9])
     have hf_16q9:h k16q9=none:=VV hs_h16q5 hn_16q9;have ne_16q9_12q0:k16q9≠k12q0:=VW hn_16q9 eb_12q0;simp+decide only[ev,putD,VG,VH,Ka,Kb,↓qf,qc];refine Qi (by rfl) (by rfl) zqA qdv (by rfl) (by rfl) zqD (Jr _) (by rfl) ?_;simp only[VX,VY];simp+decide only[qa,ev,putD,VH,VI,Ka,setAt,VZ,Kj,Jq,Nat.reduceAdd,Jq];apply hK;clear hK K;refine qaj 8 [] [11,12,140] mixed (by kernel_rfl) (by rfl) fun K hK=>?_;simp only[Ki,Vw,List.take_nil,List.drop_nil];simp+decide only[qa,ev,putD,VG,VH,Ka,Kb,↓qay,ZF,Qz qpE qdv,J4,XN,Qd,VJ,Kn,Jq,Nat.reduceAdd,QL,allLive,J4,Jq];refine UU (by rfl) ?_;refine Qh (cs:=[.int .i64 5, .int .i64 1, .int .i64 1, .int .i64 1]) (by kernel_rfl) fun k17q1 hk17q1=>?_;have ne_17q1_16q9:k17q1≠k16q9:=by simp only[VU]at hk17q1;simp only[hk17q1,ne_eq,not_false_eq_true]
     have hn_17q1:h16q5 k17q1=none:=by first|assumption|(simp only[VU]at hk17q1;simp only[hk17q1])
     have hf_17q1:h k17q1=none:=VV hs_h16q5 hn_17q1;have ne_17q1_12q0:k17q1≠k12q0:=VW hn_17q1 eb_12q0;rw[qa];simp+decide only[qaG,ev,qK,qG,putD,VG,VH,VI,Ka,Kb,↓qaw,qd,↓Wm,ZF,qA Tryz.underlying100 sz3,Zf,↓qay,qj ag3,↓qjh,↓Xz,qlf,evP,Ke,Vj,qsY,↓qfW,qh,qN,cond_false,qsn,ne48,decide_true,Be,J4,cond_false,XN,Jq,QL,J4,hcell,VN,V5,Jq];repeat (with_reducible refine And.intro ?_ ?_;· first|trivial|omega|(intro hg;simp only[Ky,JF,Ji,VO,VL,VK,decide_eq_true_eq,decide_eq_false_iff_not,Xd]at hg;omega))
     apply hK;clear hK K;refine qM (b:=_) rfl (fun hb5=>?_) (fun hb5=>?_)
     ·simp at hb5
     ·try simp only at hb5
      refine qV ?_;change Awp _ _ _ _ _ _ _;refine Xa [11,12] (by rfl) ?_;simp+decide only[qa,ev,qK,qG,putD,VG,VH,VI,Ka,Kb,↓qg,qd,↓qo,qh,qE,cond_false,qz,QW,↓qf,qc,cond_false,hwi];try simp only[qR]
      exact⟨⟨i+1, .nilSlice,emp,_⟩,rfl,Vh _,⟨hi',zqB,zqA⟩,by simp only;omega⟩
    ·try simp only[decide_eq_false_iff_not]at hb4
     refine QI ?_;change Awp _ _ _ _ _ _ _;refine awp_rseq [0] (by rfl) fun K hK=>?_;simp+decide only[qa,ev,qK,qG,putD,VG,VI,Ka,Kb,↓qf,qc];apply hK;clear hK K;refine Qn ?_;refine Xf h zqC (qJ (qO)) ?_;simp+decide only[VH,if_true,Kb,Qg];exact Vh _
end Go.Proofs.YtgiadjbiimkbiaaGreatDoor
namespace Go.Stm
open Go.Col (Str FaultC okF)
open Go.Tok
open Go.Proofs.YtgiadjbiimkbiaaGreatDoor (asciiB)
theorem qeA{a b:Str}(ha:asciiB a=true)(hb:asciiB b=true):asciiB (a++b)=true:=by
 unfold asciiB at*
 rw[Ec,ha,hb];rfl
end Go.Stm
namespace Go.AM
theorem qpC{P:Program}{wz:World}{n:FrameK}{Q:Exit->Slots->AHeap->Prop}{s:Slots}{h:AHeap}{id:Nat}{d e:Tmp}{t:TypeId}{m:Nat}{ps:List (Nat×Operand)}{ty ty':TypeId}{pos pos':String}{af af':Array Edge}{cs:List AVal}
 (hd:QD n [⟨some d, .buildSlice t m ps.toArray,ty,pos,af,none⟩,⟨some e, .assign (.tmp d),ty',pos',af',none⟩]=true) (hb:qaI P t m (evP s ps)=some cs)
 (hk:∀k,h k=none->Q .normal (putD (putD s (some d) (.slice (.own k) 0 m (.exact m))) (some e) (ev (putD s (some d) (.slice (.own k) 0 m (.exact m))) (.tmp d))) (h.set k ⟨cs,0⟩)):
 Awp P wz n (.region id [⟨some d, .buildSlice t m ps.toArray,ty,pos,af,none⟩,⟨some e, .assign (.tmp d),ty',pos',af',none⟩].toArray false) Q s h:=by
 refine qfp hd ?_;refine Qh hb fun k hk0=>?_;rw[qf];exact⟨trivial,hk k hk0⟩
end Go.AM
namespace Go.Proofs.YtgiadjbiimkbiaaGreatDoor
open Go.AM
open Go.Proofs
open Go.Col (Str FaultC okF)
open Go.Tok (TokC)
open Go.Stm
open Go.RowKit (Below)
set_option maxRecDepth 100000
end Go.Proofs.YtgiadjbiimkbiaaGreatDoor
namespace Go.Stm
open Go.Col (Str FaultC okF)
open Go.Tok
end Go.Stm
namespace Go.Proofs.YtgiadjbiimkbiaaGreatDoor
open Go.AM
open Go.Proofs
open Go.Col (Str FaultC okF)
open Go.Tok (TokC)
open Go.Stm
open Go.RowKit (Below)
set_option maxRecDepth 100000
end Go.Proofs.YtgiadjbiimkbiaaGreatDoor
namespace Go.Stm
open Go.Col (Str)
open Go.Tok
theorem qgG{α β γ:Type}{f:α->α->Bool}{qs:List (α×β)}{ts:List (α×γ)}{j:Nat}{d:α×β}{e:α×γ}(hq:j<qs.length)(ht:j<ts.length):
 rowE f ((qs.drop j).map (·.1)) ((ts.drop j).map (·.1))=(f (qs.getD j d).1 (ts.getD j e).1 && rowE f ((qs.drop (j+1)).map (·.1)) ((ts.drop (j+1)).map (·.1))):=by
 rw[J9 hq,J9 ht,Ke,Ke,rowE];simp[Ko,hq,ht]
theorem qlz{α:Type}{f:α->α->Bool}{a b:List α}(h:a.length≠b.length):rowE f a b=false:=by
 cases e:rowE f a b with
 |false=>rfl
 |true=>exact absurd (qiM e) h
def qfF(m:Nat)(x y:BodC):Bool:=decide (x.1=y.1) && (ZI x.2.1 y.2.1 && sameE m x.2.2 y.2.2)
def qkD(m:Nat)(s t:StC):Bool:=decide (s.verb=t.verb) && (rowE UI s.phrases t.phrases && rowE (qfF m) s.bodies t.bodies)
theorem sameE_eq(m:Nat)(a b:List StC):sameE (m+1) a b=rowE (qkD m) a b:=rfl
end Go.Stm
namespace Go.Proofs.YtgiadjbiimkbiaaGreatDoor
open Go.AM
open Go.Proofs
open Go.Col (Str FaultC okF)
open Go.Tok (TokC)
open Go.Stm
open Go.RowKit (Below)
set_option maxRecDepth 100000
structure SaG where
 j:Nat
 H:AHeap
theorem c_same0(wz:World)(d:Nat)(h:AHeap)(v w:AVal)(b:List StC)(hv:IsL wz h 5 v [])(hw:StsV wz d h w b):ACall Tryz.prog wz 39 [v,w] h (fun r h'=>r= .bool (sameE 0 [] b)/\Sub h h'):=by
 have nL:∀H:AHeap,Zh Tryz.prog H 45 v=⟨True, .int .i64 0⟩:=fun H=>hv.len Tryz.underlying45 H;have nW:=qas hw;have hlv:=hv.live;have hlw:=hw.shape.1;have hR:sameE 0 [] b=decide ([].length=b.length):=rfl;rw[hR];refine Ql (n:=118) (rs:=[.tmp 4]) Tryz.func39 rfl rfl rfl rfl (VF rfl) ?_;simp only[Qm];refine awp_rseq [0,1] (by rfl) fun K hK=>?_;simp+decide only[qa,ev,qK,qG,putD,VG,VI,Ka,Kb,↓qf,qc,Jq];apply hK;clear hK K;refine qF ?_;refine awp_rseq [0,1,17] (by rfl) fun K hK=>?_;simp+decide only[qa,ev,putD,VG,VH,VI,Ka,Kb,↓qg,qd,↓QB,Qo,↓qo,qh,qN,cond_false,qz,WW,nL,nW];apply hK;clear hK K;refine qM (b:=_) rfl (fun hb1=>?_) (fun hb1=>?_)
 ·try simp only[decide_eq_false_iff_not,Ji]at hb1
  refine awp_rseq [4] (by rfl) fun K hK=>?_;simp+decide only[qa,ev,qK,qG,putD,VG,VI,Ka,Kb,↓qf,qc];apply hK;clear hK K;refine Qn ?_;try simp only[QM]
  refine Xf h zqC (qJ (qO)) ?_;simp+decide only[VH,if_true,Qg];refine⟨?_,Vh _⟩
  (rw[decide_eq_false (by simp only[JN];omega)];done)
 ·try simp only[decide_eq_true_eq,VK]at hb1
  have hb0:b.length=0:=by omega
  refine qV ?_;change Awp _ _ _ _ _ _ _;refine qF ?_;refine awp_rseq [1,18,19,20] (by rfl) fun K hK=>?_;simp+decide only[qa,ev,qK,qG,putD,VG,VH,VI,Ka,Kb,↓qg,qd,↓QB,Qo,nL];apply hK;clear hK K;refine Qb ?_;refine QN [1,18,19,20] (fun z:Unit=>[(1,w),(18,v),(19, .int .i64 0),(20, .int .i64 0)]) (fun z:Unit=>h) (fun z:Unit=>True) (fun z:Unit=>0) () (by rfl) (Vh _) trivial ?_;intro z _;refine awp_rseq [1,18,19,20,21] (by rfl) fun K hK=>?_;simp+decide only[qa,ev,putD,VG,VH,VI,Ka,Kb,↓qo,qh,qN,cond_false,qz,Xt];apply hK;clear hK K;refine qF (qM (b:=_) rfl (fun hb2=>?_) (fun hb2=>?_))
  ·cases hb2
  ·try simp only[decide_eq_false_iff_not]at hb2
   refine QI ?_;change Awp _ _ _ _ _ _ _;refine awp_rseq [4] (by rfl) fun K hK=>?_;simp+decide only[qa,ev,qK,qG,putD,VG,VI,Ka,Kb,↓qf,qc];apply hK;clear hK K;refine Qn ?_;refine Xf h zqC (qJ (qO)) ?_;simp+decide only[VH,if_true,Qg];refine⟨?_,Vh _⟩
   (rw[hb0];rfl)
set_option maxHeartbeats 16000000 in
theorem c_sameS(wz:World)(m d:Nat)(h:AHeap)(v w:AVal)(a b:List StC)(hs:StsV wz (m+1) h v a)(hw:StsV wz d h w b)(hsm:SmallS (m+1) a)(hsw:SmallS d b)
 (ih:∀(h':AHeap) (v w:AVal) (a b:List StC),StsV wz m h' v a->StsV wz (d-1) h' w b->SmallS m a->SmallS (d-1) b->ACall Tryz.prog wz 39 [v,w] h' (fun r h''=>r= .bool (sameE m a b)/\Sub h' h'')):
 ACall Tryz.prog wz 39 [v,w] h (fun r h'=>r= .bool (sameE (m+1) a b)/\Sub h h'):=by
 obtain⟨qs,hqe,hqL,hels⟩:=qee hs hsm;obtain⟨ts,hte,htL,htls⟩:=qee hw hsw;rw[BM]at hels;have nL:=qgD hqL;have nW:=qgD htL;have hlv:=hqL.live;have hlw:=htL.live;have hln:qs.length<=1000000:=by have:=hsm.len;rw[hqe,Jo]at this;exact this
 have hR:sameE (m+1) a b=rowE (qkD m) ((qs.drop 0).map (·.1)) ((ts.drop 0).map (·.1)):=by rw[sameE_eq,hqe,hte];rfl
 obtain⟨R,hRR⟩:∃R,R=sameE (m+1) a b:=⟨_,rfl⟩
 rw[<-hRR]at hR|-
 refine Ql (n:=118) (rs:=[.tmp 4]) Tryz.func39 rfl rfl rfl rfl (VF rfl) ?_;simp only[Qm];refine awp_rseq [0,1] (by rfl) fun K hK=>?_;simp+decide only[qa,ev,qK,qG,putD,VG,VI,Ka,Kb,↓qf,qc,Jq];apply hK;clear hK K;refine qF ?_;refine awp_rseq [0,1,17] (by rfl) fun K hK=>?_;simp+decide only[qa,ev,putD,VG,VH,VI,Ka,Kb,↓qg,qd,↓QB,Qo,↓qo,qh,qN,cond_false,qz,WW,nL,nW];apply hK;clear hK K;refine qM (b:=_) rfl (fun hb1=>?_) (fun hb1=>?_)
 ·try simp only[decide_eq_false_iff_not,Ji]at hb1
  refine awp_rseq [4] (by rfl) fun K hK=>?_;simp+decide only[qa,ev,qK,qG,putD,VG,VI,Ka,Kb,↓qf,qc];apply hK;clear hK K;refine Qn ?_;try simp only[QM]
  refine Xf h zqC (qJ (qO)) ?_;simp+decide only[VH,if_true,Qg];refine⟨?_,Vh _⟩;rw[hR,qlz (by simp only[Vm,Jo];omega)]
 ·try simp only[decide_eq_true_eq,VK]at hb1
  have heq:ts.length=qs.length:=by omega
  refine qV ?_;change Awp _ _ _ _ _ _ _;refine qF ?_;refine awp_rseq [1,18,19,20] (by rfl) fun K hK=>?_;simp+decide only[qa,ev,qK,qG,putD,VG,VH,VI,Ka,Kb,↓qg,qd,↓QB,Qo,nL];apply hK;clear hK K;refine Qb ?_;refine QN [1,18,19,20] (fun g:SaG=>[(1,w),(18,v),(19, .int .i64 qs.length),(20, .int .i64 g.j)]) (fun g:SaG=>g.H) (fun g:SaG=>Sub h g.H/\g.j<=qs.length/\R=rowE (qkD m) ((qs.drop g.j).map (·.1)) ((ts.drop g.j).map (·.1))) (fun g:SaG=>qs.length-g.j) ⟨0,h⟩ (by rfl) (Vh _) ⟨Vh _,Jr _,hR⟩ ?_;rintro⟨j,H⟩ ⟨hs_H,hj,hg⟩;simp only at hs_H hj hg|-
  refine awp_rseq [1,18,19,20,21] (by rfl) fun K hK=>?_;simp+decide only[qa,ev,putD,VG,VH,VI,Ka,Kb,↓qo,qh,qN,cond_false,qz,Xt];apply hK;clear hK K;refine qF (qM (b:=_) rfl (fun hb2=>?_) (fun hb2=>?_))
  ·try simp only[decide_eq_true_eq]at hb2
   have hj1:j<qs.length:=by omega
   have hj2:j<ts.length:=by omega
   obtain⟨q,hqj⟩:∃q,q=qs.getD j qcO:=⟨_,rfl⟩
   obtain⟨t,htj⟩:∃t,t=ts.getD j qcO:=⟨_,rfl⟩
   have hqm:q∈qs:=by rw[hqj,Ko,JH hj1];exact VA hj1
   have htm:t∈ts:=by rw[htj,Ko,JH hj2];exact VA hj2
   obtain⟨lc,o,cc,hpe⟩:=qcH hqL (by omega);obtain⟨lw,ow,cw,hwe⟩:=qcH htL (by omega);have hq2:=hqL.mono hs_H;rw[hpe]at hq2;obtain⟨e0,e1,e2,e3,e4⟩:=qcd hq2 hj1;rw[<-hqj]at e0 e1 e2 e3 e4;have gq:∀(k:Nat) (X:Blk),H k=none->rd wz (H.set k X) lw (ow+j*5)= .str t.1.verb/\rd wz (H.set k X) lw (ow+j*5+1)= .int .i64 t.1.line/\rd wz (H.set k X) lw (ow+j*5+2)= .int .i64 t.1.col/\rd wz (H.set k X) lw (ow+j*5+3)=t.2.1/\rd wz (H.set k X) lw (ow+j*5+4)=t.2.2:=fun k X hk=>by
    have ht2:=htL.mono (hs_H.trans (Vi (b:=X) hk));rw[hwe]at ht2;rw[htj];exact qcd ht2 hj2
   obtain⟨hph,hbd,hbn,hpn,hpt,hbb⟩:=hels q hqm;obtain⟨hphT,hbdT,hbnT,hpnT,hptT,hbbT⟩:=htls t htm;have hst:=qgG (f:=qkD m) (d:=qcO) (e:=qcO) hj1 hj2;rw[<-hqj,<-htj]at hst;rw[hst]at hg;have hl1:=hph.live;have hs1:=hph.scal;have hl2:=hbd.live;have hs2:=hbd.scal;have hl3:=hphT.live;have hs5:=hs1;have hs6:=hs1;have hs7:=hs1;have hs8:=hs1;have hs3:=hphT.scal;have hl4:=hbdT.live;have hs4:=hbdT.scal;obtain⟨pl,hpl,hpq,hpr⟩:=id hph;obtain⟨ul,hul,huq,hur⟩:=id hphT;obtain⟨ql,hql,hqb,hqq⟩:=id hbd;obtain⟨tl,htl,htb,htq⟩:=id hbdT;have np:=qfe hpq;have nu:=qfe huq;have nb:=qdc hqb;have nt:=qdc htb;have hbn2:ql.length<=1000000:=by rw[hql,Jo]at hbn;exact hbn
   have hpn2:pl.length<=1000000:=by rw[hpl,Jo]at hpn;exact hpn
   obtain⟨⟨qv,qln,qcl,qps,qbs⟩,qp,qb⟩:=q;obtain⟨⟨tv,tln,tcl,tps,tbs⟩,tp,tb⟩:=t;simp only[Eb,StC.line,StC.col,BZ,Ea]at e0 e1 e2 e3 e4 gq hl1 hs1 hl2 hs2 hl3 hs3 hl4 hs4 hs5 hs6 hs7 hs8 np nu nb nt hpq huq hqb htb hpl hul hql htl hbb hbbT hpt hptT hpr hur hqq htq hg;obtain⟨X,hX⟩:∃X,X=rowE (qkD m) ((qs.drop (j+1)).map (·.1)) ((ts.drop (j+1)).map (·.1)):=⟨_,rfl⟩
   rw[<-hX]at hg;have hwj:IntKind.i64.wrap ((j:Int)+1)=((j+1:Nat):Int):=by rw[wrap_i64 (by omega) (by omega)];omega
   have hgS:R=((decide (qv=tv) && (rowE UI ((pl.drop 0).map (·.1)) ((ul.drop 0).map (·.1)) && rowE (qfF m) ((ql.drop 0).map (·.1)) ((tl.drop 0).map (·.1)))) && X):=by rw[hg,qkD];simp only[Eb,BZ,Ea];rw[hpl,hul,hql,htl];rfl
   refine qV ?_;change Awp _ _ _ _ _ _ _;refine qF ?_;refine Qb ?_;refine awp_rseq [1,5,6,18,19,20] (by rfl) fun K hK=>?_;simp+decide only[ev,putD,VG,VH,Ka,Kb,↓qg,qd,↓qZ,Qc,qA Tryz.underlying45 Yv,↓qI,Qz qeJ Yv,Qd,QL,Qw,allLive,J4,hpe,e0,e1,e2,e3,e4,hl1,hl2,VN];repeat (with_reducible refine And.intro ?_ ?_;· first|trivial|omega|(intro hg;simp only[Ky,JF,Ji,VO,VL,VK,decide_eq_true_eq,decide_eq_false_iff_not,Xd]at hg;omega))
   refine Xb qhT (cs:=[.str [], .int .i64 0, .int .i64 0, .nilSlice, .nilSlice]) (by rfl) fun k5q3 hk5q3=>?_;have hn_5q3:H k5q3=none:=by first|assumption|(simp only[VU]at hk5q3;simp only[hk5q3])
   have hf_5q3:h k5q3=none:=VV hs_H hn_5q3;simp+decide only[ev,putD,VG,VH,Ka,Kb,↓qf,qc];refine Qi (by rfl) (by rfl) zqA Yv (by rfl) (by rfl) zqD (Jr _) (by first|rfl|(simp+decide only[ev,VH,Ka,VY,QU,J4,hs1,hs2,qbV,YT])) ?_;simp only[VX,VY];simp+decide only[qa,ev,putD,VH,VI,Ka,setAt,VZ,Kj,Jq,Nat.reduceAdd];apply hK;clear hK K;refine awp_rseq [1,6,7,18,19,20] (by rfl) fun K hK=>?_;simp+decide only[ev,putD,VG,VH,Ka,Kb,↓qg,qd,↓qZ,Qc,qA Tryz.underlying45 Yv,↓qI,Qz qeJ Yv,Qd,QL,Qw,allLive,J4,hwe,(gq k5q3 _ hk5q3).1,(gq k5q3 _ hk5q3).2.1,(gq k5q3 _ hk5q3).2.2.1,(gq k5q3 _ hk5q3).2.2.2.1,(gq k5q3 _ hk5q3).2.2.2.2,hl3,hl4,VN];repeat (with_reducible refine And.intro ?_ ?_;· first|trivial|omega|(intro hg;simp only[Ky,JF,Ji,VO,VL,VK,decide_eq_true_eq,decide_eq_false_iff_not,Xd]at hg;omega))
   refine Xb qhT (cs:=[.str [], .int .i64 0, .int .i64 0, .nilSlice, .nilSlice]) (by rfl) fun k6q4 hk6q4=>?_;have ne_6q4_5q3:k6q4≠k5q3:=by simp only[VU]at hk6q4;simp only[hk6q4,ne_eq,not_false_eq_true]
   have hn_6q4:H k6q4=none:=by first|assumption|(simp only[VU]at hk6q4;simp only[hk6q4])
   have hf_6q4:h k6q4=none:=VV hs_H hn_6q4;refine Qi (by rfl) (by rfl) zqA Yv (by rfl) (by rfl) zqD (Jr _) (by first|rfl|(simp+decide only[ev,putD,VG,VH,Ka,VY,QU,J4,hs3,hs4,qbV,YT])) ?_;simp only[VX,VY];simp+decide only[qa,ev,putD,VG,VH,VI,Ka,setAt,VZ,Kj,Jq,Nat.reduceAdd];apply hK;clear hK K;refine qF ?_;refine awp_rseq [1,6,7,18,19,20,51] (by rfl) fun K hK=>?_;simp+decide only[qa,ev,qK,qG,putD,VG,VH,VI,Ka,Kb,↓qC,qi,WY,↓qI,Qc,qj ag9,↓qo,qh,qN,cond_false,Qp,Um,↓qg,qd,↓Xe,agP,Qs,qW,qP,qU,implies_true,BN,Zz,↓XJ,Xp,ZL,qik,qmy,qj qba,↓qal,Qo,qcW,qcY,↓QJ,XL,UV,XM,UW,qz,WW,↓QC,Qr,Qe,XZ,qau,XO,Yf,qj qbB,YI,ne_eq,not_false_eq_true,ne_6q4_5q3.symm,XN,VJ,Kn,Jq,Qw,np,nu,nb,nt,hl1,hl2,hl3,hl4];apply hK;clear hK K;refine qM (b:=_) rfl (fun hb3=>?_) (fun hb3=>?_)
   ·try simp only[decide_eq_false_iff_not,Ji,JF]at hb3
    refine awp_rseq [4] (by rfl) fun K hK=>?_;simp+decide only[qa,ev,qK,qG,putD,VG,VI,Ka,Kb,↓qf,qc];apply hK;clear hK K;refine Qn ?_;try simp only[QM,Xl]
    refine Qu (qJ (qO)) ?_;simp+decide only[VH,if_true,Qg];refine⟨h,zqB,?_,Vh _⟩;rw[hgS];by_cases z1:qv=tv
    ·by_cases z2:pl.length=ul.length
     ·have z3:ql.length≠tl.length:=fun z3=>by simp[z1,z2,z3]at hb3
      rw[qlz (f:=qfF m) (by simpa using z3),Bf,Bf,BO]
     ·rw[qlz (f:=UI) (by simpa using z2),BO,Bf,BO]
    ·rw[decide_eq_false z1,BO,BO]
   ·try simp only[decide_eq_true_eq,VK,VL]at hb3
    obtain⟨⟨z1,z2⟩,z3⟩:=hb3;have z2:pl.length=ul.length:=by omega
    have z3:ql.length=tl.length:=by omega
    rw[decide_eq_true z1,VP]at hgS;refine qV ?_;change Awp _ _ _ _ _ _ _;refine qF ?_;refine awp_rseq [1,6,7,18,19,20,53,54,55] (by rfl) fun K hK=>?_;simp+decide only[qa,ev,qK,qG,putD,VG,VH,VI,Ka,Kb,↓qC,qi,Zz,↓qI,Qc,qj qba,↓QB,Qo,↓qg,qd,YI,ne_eq,not_false_eq_true,ne_6q4_5q3.symm,XN,VJ,Kn,Jq,np,hl1];apply hK;clear hK K;refine Qb ?_;refine QN [1,6,7,18,19,20,53,54,55] (fun g:SaG=>[(1,w),(6, .ptr (.own k5q3) 0),(7, .ptr (.own k6q4) 0),(18,v),(19, .int .i64 qs.length),(20, .int .i64 j),(53,qp),(54, .int .i64 pl.length),(55, .int .i64 g.j)]) (fun g:SaG=>g.H) (fun g:SaG=>Sub h g.H/\g.H k5q3=some ⟨[.str qv, .int .i64 qln, .int .i64 qcl,qp,qb],0⟩/\g.H k6q4=some ⟨[.str tv, .int .i64 tln, .int .i64 tcl,tp,tb],0⟩/\g.j<=pl.length/\R=((rowE UI ((pl.drop g.j).map (·.1)) ((ul.drop g.j).map (·.1)) && rowE (qfF m) ((ql.drop 0).map (·.1)) ((tl.drop 0).map (·.1))) && X)) (fun g:SaG=>pl.length-g.j) ⟨0,_⟩ (by first|rfl|(rw[hpe,hwe];rfl)) (Vh _) ⟨zqB,zqA,zqA,Jr _,hgS⟩ ?_;rintro⟨a,H2⟩ ⟨hs_H2,eb_5q3,eb_6q4,ha,hga⟩;simp only at hs_H2 eb_5q3 eb_6q4 ha hga|-
    refine awp_rseq [1,6,7,18,19,20,53,54,55,56] (by rfl) fun K hK=>?_;simp+decide only[qa,ev,putD,VG,VH,VI,Ka,Kb,↓qo,qh,qN,cond_false,qz,Xt];apply hK;clear hK K;refine qF (qM (b:=_) rfl (fun hb4=>?_) (fun hb4=>?_))
    ·try simp only[decide_eq_true_eq]at hb4
     have ha1:a<pl.length:=by omega
     have ha2:a<ul.length:=by omega
     obtain⟨p,hpj⟩:∃p,p=pl.getD a qbu:=⟨_,rfl⟩
     obtain⟨u,huj⟩:∃u,u=ul.getD a qbu:=⟨_,rfl⟩
     have hpm:p∈pl:=by rw[hpj,Ko,JH ha1];exact VA ha1
     have hum:u∈ul:=by rw[huj,Ko,JH ha2];exact VA ha2
     obtain⟨lp,op,cp,hpp⟩:=UK hpq (by omega);obtain⟨lu,ou,cu,hup⟩:=UK huq (by omega);have hp2:=hpq.mono hs_H2;rw[hpp]at hp2;obtain⟨f0,f1⟩:=qbH hp2 ha1;rw[<-hpj]at f0 f1;have gu:∀(k:Nat) (X:Blk),H2 k=none->rd wz (H2.set k X) lu (ou+a*2)= .str u.1.words/\rd wz (H2.set k X) lu (ou+a*2+1)=u.2:=fun k X hk=>by
      have ht2:=huq.mono (hs_H2.trans (Vi (b:=X) hk));rw[hup]at ht2;rw[huj];exact qbH ht2 ha2
     have hpk:=hpr p hpm;have huk:=hur u hum;have hpkl:p.1.toks.length<=1000000:=hpt _ (by rw[hpl];exact Bp (f:=(·.1)) hpm);have hst2:=qgG (f:=UI) (d:=qbu) (e:=qbu) ha1 ha2;rw[<-hpj,<-huj]at hst2;rw[hst2]at hga;have hl5:=hpk.live;have hs5:=hpk.scal;have hl6:=huk.live;obtain⟨⟨pw,pt⟩,pv⟩:=p;obtain⟨⟨uw,ut⟩,uv⟩:=u;simp only[UI]at f0 f1 gu hpk huk hpkl hl5 hs5 hl6 hga;have hwa:IntKind.i64.wrap ((a:Int)+1)=((a+1:Nat):Int):=by rw[wrap_i64 (by omega) (by omega)];omega
     refine qV ?_;change Awp _ _ _ _ _ _ _;refine qF ?_;refine Qb ?_;refine awp_rseq [1,6,7,8,9,18,19,20,53,54,55] (by rfl) fun K hK=>?_;simp+decide only[ev,putD,VG,VH,Ka,Kb,↓qg,qd,↓qZ,Qc,qA Tryz.underlying79 qab,↓qI,Qz ag84 qab,Qd,Qw,allLive,J4,hpp,f0,f1,hl5,VN];repeat (with_reducible refine And.intro ?_ ?_;· first|trivial|omega|(intro hg;simp only[Ky,JF,Ji,VO,VL,VK,decide_eq_true_eq,decide_eq_false_iff_not,Xd]at hg;omega))
     refine Xb qrJ (cs:=[.str [], .nilSlice]) (by rfl) fun k11q3 hk11q3=>?_;have hn_11q3:H2 k11q3=none:=by first|assumption|(simp only[VU]at hk11q3;simp only[hk11q3])
     have hf_11q3:h k11q3=none:=VV hs_H2 hn_11q3;have ne_11q3_5q3:k11q3≠k5q3:=VW hn_11q3 eb_5q3;have ne_11q3_6q4:k11q3≠k6q4:=VW hn_11q3 eb_6q4;simp+decide only[ev,putD,VG,VH,Ka,Kb,↓qf,qc];refine Qi (by rfl) (by rfl) zqA qab (by rfl) (by rfl) zqD (Jr _) (by first|rfl|(simp+decide only[ev,VH,Ka,VY,QU,J4,hs5,YT])) ?_;simp only[VX,VY];simp+decide only[qa,ev,putD,VH,VI,Ka,setAt,VZ,Kj,Jq];apply hK;clear hK K;refine qgn [1,6,7,18,19,20,53,54,55,80] mixed (by kernel_rfl) (by rfl) fun K hK=>?_;simp+decide only[ev,putD,VG,VH,Ka,Kb,↓ZN,qi,qhc,↓qcG,ZF,qj ag9,Zz,qj qba,↓qlm,qd,↓qfw,qA Tryz.underlying79 qab,Zf,↓qmJ,qh,qN,cond_false,Qp,Um,↓qfz,vgP,qis,qW,qP,qU,implies_true,BN,UT,Wo,Wp,↓qpS,qj qam,cv_load,cp_load,↓qpR,↓qfy,qsI,qsH,qsL,qsK,YI,ne_eq,not_false_eq_true,ne_11q3_6q4.symm,Qj wz eb_6q4,XN,VJ,Kn,Jq,Qw,Xv,hup,(gu k11q3 _ hk11q3).1,(gu k11q3 _ hk11q3).2,hl5,hl6,VN,K7];repeat (with_reducible refine And.intro ?_ ?_;· first|trivial|omega|(intro hg;simp only[Ky,JF,Ji,VO,VL,VK,decide_eq_true_eq,decide_eq_false_iff_not,Xd]at hg;omega))
     refine qeY (V:= .bool (ZI pt ut)) (f:=_) (cap:=_) (xs:=_) (by first|rfl|(simp+decide only[gv,qW,VH,Ka,Xm,qP])) (fun hg=>⟨rfl,?_⟩) (fun hg=>qnL wz _ pv uv pt ut (hpk.mono zqB) (huk.mono zqB) hpkl) ?_
     ·try simp+decide only[gv,qW,VH,Ka,qU,BN]at hg
      simp+decide only[evs,ev,VH,Ka,hg,Qf,Jz,Ke,Vj]
     simp+decide only[qdt,ev,qK,qG,putD,VG,VH,VI,Ka,Kb,gv,qW,qU,↓vg_unOp,Zn,vgP,qis,qP,implies_true,BN,YJ,qhN,qhO,↓qpP,Qr,Qe,qau,XO];apply hK;clear hK K;refine qM (b:=_) rfl (fun hb5=>?_) (fun hb5=>?_)
     ·try simp only[decide_eq_false_iff_not,Ji,JF]at hb5
      refine awp_rseq [4] (by rfl) fun K hK=>?_;simp+decide only[qa,ev,qK,qG,putD,VG,VI,Ka,Kb,↓qf,qc];apply hK;clear hK K;refine Qn ?_;try simp only[QM,Xl]
      refine Qu (qJ (qO)) ?_;simp+decide only[VH,if_true,Qg];refine⟨h,zqB,?_,Vh _⟩;rw[hga];by_cases y1:pw=uw
      ·have y2:ZI pt ut=false:=by simpa[y1]using hb5
       rw[y2,Bf,BO,BO,BO]
      ·rw[decide_eq_false y1,BO,BO,BO,BO]
     ·try simp only[decide_eq_true_eq,VK,VL]at hb5
      obtain⟨y1,y2⟩:pw=uw/\ZI pt ut=true:=by
       refine⟨Classical.byContradiction fun z=>by simp[z]at hb5,?_⟩;cases z:ZI pt ut with
       |true=>rfl
       |false=>simp[z]at hb5
      rw[decide_eq_true y1,y2,VP,VP]at hga;refine qV ?_;change Awp _ _ _ _ _ _ _;refine Xa [1,6,7,18,19,20,53,54,55] (by rfl) ?_;simp+decide only[qa,ev,qK,qG,putD,VG,VH,VI,Ka,Kb,↓qo,qh,qE,cond_false,qz,QW,↓qg,qd,hwa];try simp only[qR]
      exact⟨⟨a+1,_⟩,by first|rfl|(rw[hpe,hwe,hpp];rfl),Vh _,⟨zqB,zqA,zqA,ha1,hga⟩,by simp only;omega⟩
    ·try simp only[decide_eq_false_iff_not]at hb4
     have haq:a=pl.length:=by omega
     rw[haq,J8,V8 (by omega)]at hga;have hgB:R=(rowE (qfF m) ((ql.drop 0).map (·.1)) ((tl.drop 0).map (·.1)) && X):=hga;refine QI ?_;change Awp _ _ _ _ _ _ _;refine awp_rseq [1,7,18,19,20,83,84,85] (by rfl) fun K hK=>?_;simp+decide only[qa,ev,qK,qG,putD,VG,VH,VI,Ka,Kb,↓qC,qi,Yf,↓qI,Qc,qj qbB,↓QB,Qo,↓qg,qd,Qj wz eb_5q3,VJ,Kn,Jq,nb,hl2];apply hK;clear hK K;refine Qb ?_;refine QN [1,7,18,19,20,83,84,85] (fun g:SaG=>[(1,w),(7, .ptr (.own k6q4) 0),(18,v),(19, .int .i64 qs.length),(20, .int .i64 j),(83,qb),(84, .int .i64 ql.length),(85, .int .i64 g.j)]) (fun g:SaG=>g.H) (fun g:SaG=>Sub h g.H/\g.H k6q4=some ⟨[.str tv, .int .i64 tln, .int .i64 tcl,tp,tb],0⟩/\g.j<=ql.length/\R=(rowE (qfF m) ((ql.drop g.j).map (·.1)) ((tl.drop g.j).map (·.1)) && X)) (fun g:SaG=>ql.length-g.j) ⟨0,_⟩ (by first|rfl|(rw[hpe,hwe];rfl)) (Vh _) ⟨zqB,zqA,Jr _,hgB⟩ ?_;rintro⟨a,H3⟩ ⟨hs_H3,eb_6q4,ha,hga⟩;simp only at hs_H3 eb_6q4 ha hga|-
     refine awp_rseq [1,7,18,19,20,83,84,85,86] (by rfl) fun K hK=>?_;simp+decide only[qa,ev,putD,VG,VH,VI,Ka,Kb,↓qo,qh,qN,cond_false,qz,Xt];apply hK;clear hK K;refine qF (qM (b:=_) rfl (fun hb6=>?_) (fun hb6=>?_))
     ·try simp only[decide_eq_true_eq]at hb6
      have ha1:a<ql.length:=by omega
      have ha2:a<tl.length:=by omega
      obtain⟨p,hpj⟩:∃p,p=ql.getD a qcj:=⟨_,rfl⟩
      obtain⟨u,huj⟩:∃u,u=tl.getD a qcj:=⟨_,rfl⟩
      have hpm:p∈ql:=by rw[hpj,Ko,JH ha1];exact VA ha1
      have hum:u∈tl:=by rw[huj,Ko,JH ha2];exact VA ha2
      obtain⟨lp,op,cp,hpp⟩:=qaZ hqb (by omega);obtain⟨lu,ou,cu,hup⟩:=qaZ htb (by omega);have hp2:=hqb.mono hs_H3;rw[hpp]at hp2;obtain⟨f0,f1,f2⟩:=qdT hp2 ha1;rw[<-hpj]at f0 f1 f2;have gu:∀(k:Nat) (X:Blk),H3 k=none->rd wz (H3.set k X) lu (ou+a*3)= .str u.1.1/\rd wz (H3.set k X) lu (ou+a*3+1)=u.2.1/\rd wz (H3.set k X) lu (ou+a*3+2)=u.2.2:=fun k X hk=>by
       have ht2:=htb.mono (hs_H3.trans (Vi (b:=X) hk));rw[hup]at ht2;rw[huj];exact qdT ht2 ha2
      obtain⟨hpk,hps⟩:=hqq p hpm;obtain⟨huk,hus⟩:=htq u hum;obtain⟨hpkl,hpsm⟩:=hbb p.1 (by rw[hql];exact Bp (f:=(·.1)) hpm);obtain⟨hukl,husm⟩:=hbbT u.1 (by rw[htl];exact Bp (f:=(·.1)) hum);have hst2:=qgG (f:=qfF m) (d:=qcj) (e:=qcj) ha1 ha2;rw[<-hpj,<-huj]at hst2;rw[hst2]at hga;have hl5:=hpk.live;have hs5:=hpk.scal;have hl6:=huk.live;have hs6:=huk.scal;obtain⟨hl7,hs7,-⟩:=hps.shape;obtain⟨hl8,hs8,-⟩:=hus.shape;obtain⟨⟨pw,pt,pL⟩,pv,pLv⟩:=p;obtain⟨⟨uw,ut,uL⟩,uv,uLv⟩:=u;simp only[qfF]at f0 f1 f2 gu hpk huk hps hus hpkl hpsm husm hl5 hs5 hl6 hs6 hl7 hs7 hl8 hs8 hga;have hwa:IntKind.i64.wrap ((a:Int)+1)=((a+1:Nat):Int):=by rw[wrap_i64 (by omega) (by omega)];omega
      refine qV ?_;change Awp _ _ _ _ _ _ _;refine qF ?_;refine Qb ?_;refine awp_rseq [1,7,10,11,18,19,20,83,84,85] (by rfl) fun K hK=>?_;simp+decide only[ev,putD,VG,VH,Ka,Kb,↓qg,qd,↓qZ,Qc,qA Tryz.underlying80 UE,↓qI,Qz qoc UE,Qd,Qw,allLive,J4,hpp,f0,f1,f2,hl5,hl7,VN];repeat (with_reducible refine And.intro ?_ ?_;· first|trivial|omega|(intro hg;simp only[Ky,JF,Ji,VO,VL,VK,decide_eq_true_eq,decide_eq_false_iff_not,Xd]at hg;omega))
      refine Xb qjZ (cs:=[.str [], .nilSlice, .nilSlice]) (by rfl) fun k17q3 hk17q3=>?_;have hn_17q3:H3 k17q3=none:=by first|assumption|(simp only[VU]at hk17q3;simp only[hk17q3])
      have hf_17q3:h k17q3=none:=VV hs_H3 hn_17q3;have ne_17q3_6q4:k17q3≠k6q4:=VW hn_17q3 eb_6q4;simp+decide only[ev,putD,VG,VH,Ka,Kb,↓qf,qc];refine Qi (by rfl) (by rfl) zqA UE (by rfl) (by rfl) zqD (Jr _) (by first|rfl|(simp+decide only[ev,VH,Ka,VY,QU,J4,hs5,hs7,YT])) ?_;simp only[VX,VY];simp+decide only[qa,ev,putD,VH,VI,Ka,setAt,VZ,Kj,Jq,Nat.reduceAdd];apply hK;clear hK K;refine awp_rseq [1,7,11,12,18,19,20,83,84,85] (by rfl) fun K hK=>?_;simp+decide only[ev,putD,VG,VH,Ka,Kb,↓qC,qi,Yf,↓qI,Qc,qj qbB,↓qg,qd,↓qZ,qA Tryz.underlying80 UE,Qz qoc UE,YI,ne_eq,not_false_eq_true,ne_17q3_6q4.symm,Qj wz eb_6q4,Qd,VJ,Kn,Jq,Qw,Xv,allLive,J4,hup,(gu k17q3 _ hk17q3).1,(gu k17q3 _ hk17q3).2.1,(gu k17q3 _ hk17q3).2.2,hl6,hl8,VN];repeat (with_reducible refine And.intro ?_ ?_;· first|trivial|omega|(intro hg;simp only[Ky,JF,Ji,VO,VL,VK,decide_eq_true_eq,decide_eq_false_iff_not,Xd]at hg;omega))
      refine Xb qjZ (cs:=[.str [], .nilSlice, .nilSlice]) (by rfl) fun k18q5 hk18q5=>?_;have ne_18q5_17q3:k18q5≠k17q3:=by simp only[VU]at hk18q5;simp only[hk18q5,ne_eq,not_false_eq_true]
      have hn_18q5:H3 k18q5=none:=by first|assumption|(simp only[VU]at hk18q5;simp only[hk18q5])
      have hf_18q5:h k18q5=none:=VV hs_H3 hn_18q5;have ne_18q5_6q4:k18q5≠k6q4:=VW hn_18q5 eb_6q4;refine Qi (by rfl) (by rfl) zqA UE (by rfl) (by rfl) zqD (Jr _) (by first|rfl|(simp+decide only[ev,putD,VG,VH,Ka,VY,QU,J4,hs6,hs8,YT])) ?_;simp only[VX,VY];simp+decide only[qa,ev,putD,VG,VH,VI,Ka,setAt,VZ,Kj,Jq,Nat.reduceAdd];apply hK;clear hK K;have hss:=fun X Y=>ih ((H3.set k17q3 X).set k18q5 Y) pLv uLv pL uL (hps.mono zqB) (hus.mono zqB) hpsm husm;have y0:(pw=uw/\ZI pt ut=true)\/(pw=uw/\ZI pt ut=false)\/((¬pw=uw)/\∀z:Bool,(z && true)=z):=by
       by_cases y1:pw=uw
       ·cases y2:ZI pt ut with
        |true=>exact .inl ⟨y1,rfl⟩
        |false=>exact .inr (.inl ⟨y1,rfl⟩)
       ·exact .inr (.inr ⟨y1,J4⟩)
      rcases y0 with⟨y1,y2⟩|⟨y1,y2⟩|⟨y1,y2⟩
      all_goals
       refine awp_rseq [1,7,18,19,20,83,84,85,115] (by rfl) fun K hK=>?_;simp+decide only[ev,putD,VG,VH,Ka,Kb,↓qC,qi,qhb,↓qI,Qc,qj ag9,↓qo,qh,qN,cond_false,Qp,Um,↓qg,qd,↓Xe,agP,Qs,qW,qP,qU,implies_true,decide_true,decide_false,Bd,Be,Qf,QO,qcT,qeC,↓XJ,Xp,ZL,qj qam,YI,ne_eq,not_false_eq_true,ne_18q5_17q3.symm,XN,VJ,Kn,Jq,Qw,y1,hl5,hl6];first
       |(refine Zb (by rfl) ?_;refine QS (V:= .bool (ZI pt ut)) (by rfl) (by rfl) (qnL wz _ pv uv pt ut (hpk.mono zqB) (huk.mono zqB) hpkl) ?_)
       |(refine qbb (by rfl) (by rfl) ?_)
       simp+decide only[ev,qK,qG,putD,VG,VH,Ka,Kb,qW,qU,↓WR,Zn,agP,Qs,qP,implies_true,Bd,Be,Qf,QO,false_implies,qbo,J4,Bool.or_true,YJ,qeC,↓QC,Qr,Qe,QH,XO,↓qg,qd,↓Xe,qi,qcS,↓XJ,Xp,ZL,qj qhm,YI,ne_eq,not_false_eq_true,ne_18q5_17q3.symm,XN,VJ,Kn,Jq,J4,y2,hl7,hl8];first
       |(refine qbb (by rfl) (by rfl) ?_)
       |(refine Zb (by rfl) ?_
         refine qY (by rfl) (by rfl) (hss _ _) fun x19q18 h19q18 hx19q18=>?_;obtain⟨rfl,hs19⟩:=hx19q18;have hs19':Sub h h19q18:=Ba zqB hs19;have eb19:h19q18 k6q4=some ⟨[.str tv, .int .i64 tln, .int .i64 tcl,tp,tb],0⟩:=hs19 _ _ zqA)
       simp+decide only[qa,ev,qK,qG,putD,VG,VH,VI,Ka,Kb,qW,qU,↓WR,Zn,agP,Qs,qP,implies_true,Bd,Be,Qf,QO,false_implies,qbo,V7,YJ,↓QC,Qr,Qe,XO];apply hK;clear hK K;refine qM (b:=_) rfl (fun hb7=>?_) (fun hb7=>?_)
       ·try simp only[Ji]at hb7
        refine awp_rseq [4] (by rfl) fun K hK=>?_;simp+decide only[qa,ev,qK,qG,putD,VG,VI,Ka,Kb,↓qf,qc];apply hK;clear hK K;refine Qn ?_;try simp only[QM,Xl]
        refine Qu (qJ (qO)) ?_;simp+decide only[VH,if_true,Qg];refine⟨h,by first|exact hs19'|exact zqB,?_,Vh _⟩;congr 1;first
        |(have z:sameE m pL uL=false:=by simpa using hb7
          rw[hga,y2,z];simp;done)
        |(rw[hga,y2];simp;done)
        |(rw[hga,decide_eq_false y1];simp;done)
       ·try (cases hb7;done)
        all_goals have z7:sameE m pL uL=true:=by simpa using hb7
        all_goals have hgN:R=(rowE (qfF m) ((ql.drop (a+1)).map (·.1)) ((tl.drop (a+1)).map (·.1)) && X):=by rw[hga,decide_eq_true y1,y2,z7];rfl
        all_goals
         try simp only[VK]at hb7
         refine qV ?_;change Awp _ _ _ _ _ _ _;refine Xa [1,7,18,19,20,83,84,85] (by rfl) ?_;simp+decide only[qa,ev,qK,qG,putD,VG,VH,VI,Ka,Kb,↓qo,qh,qE,cond_false,qz,QW,↓qg,qd,hwa];try simp only[qR]
         exact⟨⟨a+1,h19q18⟩,by first|rfl|(rw[hpe,hwe,hpp];rfl),Vh _,⟨hs19',eb19,ha1,hgN⟩,by simp only;omega⟩
     ·try simp only[decide_eq_false_iff_not]at hb6
      have haq:a=ql.length:=by omega
      rw[haq,J8,V8 (by omega)]at hga;have hgX:R=X:=hga;refine QI ?_;change Awp _ _ _ _ _ _ _;refine Xa [1,18,19,20] (by rfl) ?_;simp+decide only[qa,ev,qK,qG,putD,VG,VH,VI,Ka,Kb,↓qo,qh,qE,cond_false,qz,QW,↓qg,qd,hwj];try simp only[qR]
      exact⟨⟨j+1,H3⟩,by first|rfl|(rw[hpe,hwe];rfl),Vh _,⟨hs_H3,hj1,by rw[hgX,hX]⟩,by simp only;omega⟩
  ·try simp only[decide_eq_false_iff_not]at hb2
   have hjq:j=qs.length:=by omega
   rw[hjq,J8,V8 (by omega)]at hg;refine QI ?_;change Awp _ _ _ _ _ _ _;refine awp_rseq [4] (by rfl) fun K hK=>?_;simp+decide only[qa,ev,qK,qG,putD,VG,VI,Ka,Kb,↓qf,qc];apply hK;clear hK K;refine Qn ?_;refine Qu (qJ (qO)) ?_;simp+decide only[VH,if_true,Qg];refine⟨h,hs_H,?_,Vh _⟩;rw[hg];rfl
theorem c_same(wz:World):∀(m d:Nat) (h:AHeap) (v w:AVal) (a b:List StC),StsV wz m h v a->StsV wz d h w b->SmallS m a->SmallS d b->ACall Tryz.prog wz 39 [v,w] h (fun r h'=>r= .bool (sameE m a b)/\Sub h h')
 |0,d,h,v,w,a,b,hs,hw,_,_=>by
  obtain⟨rfl,hv⟩:=sts0 hs;exact c_same0 wz d h v w b hv hw
 |m+1,d,h,v,w,a,b,hs,hw,hsm,hsw=>c_sameS wz m d h v w a b hs hw hsm hsw fun h' v w a b hs hw hsm hsw=>c_same wz m (d-1) h' v w a b hs hw hsm hsw
theorem qmp(wz:World)(m d:Nat)(h:AHeap)(v w:AVal)(a b:List StC)(hs:StsV wz m h v a)(hw:StsV wz d h w b)(hsm:SmallS m a)(hsw:SmallS d b):ACall Tryz.prog wz 18 [v,w] h (fun r h'=>r= .bool (qaJ m a b)/\Sub h h'):=by
 have hlv:=hs.shape.1;have hlw:=hw.shape.1;have hR:qaJ m a b=(!YF 32 a && (!YF 32 b && sameE m a b)):=rfl;rw[hR];refine Ql (n:=18) (rs:=[.tmp 4]) Tryz.func18 rfl rfl rfl rfl (VF rfl) ?_;simp only[Qm];refine awp_rseq [0,1] (by rfl) fun K hK=>?_;simp+decide only[qa,ev,qK,qG,putD,VG,VI,Ka,Kb,↓qf,qc,Jq];apply hK;clear hK K;cases z1:YF 32 a<;>cases z2:YF 32 b;all_goals
  refine awp_rseq [4] (by rfl) fun K hK=>?_;simp+decide only[ev,putD,VG,VH,Ka,Kb,↓qg,qd];refine qY (by rfl) (by rfl) (qjw wz 32 m _ v a (by decide) hs hsm) fun x1q1 h1q1 hx1q1=>?_;obtain⟨rfl,hs1⟩:=hx1q1;have hs_h1q1:Sub h h1q1:=Ba zqC hs1;have hr_h1q1:=hs_h1q1;simp+decide only[ev,putD,VG,VH,Ka,Kb,↓qeB,Zn,YJ,↓qg,qd,↓Xc,agP,Qs,qW,qP,qH,implies_true,Bd,Be,Qf,QO,z1];first
  |(refine qbb (by rfl) (by rfl) ?_)
  |(refine Zb (by rfl) ?_
    refine qY (by rfl) (by rfl) (qjw wz 32 d _ w b (by decide) (hw.mono hs_h1q1) hsw) fun x1q5 h1q5 hx1q5=>?_;obtain⟨rfl,hs5⟩:=hx1q5;have hs5':Sub h h1q5:=hs_h1q1.trans hs5)
  simp+decide only[ev,qK,qG,putD,VG,VH,Ka,Kb,qW,qH,↓WR,Zn,agP,Qs,qP,implies_true,Bd,Be,Qf,QO,false_implies,Zl,J4,Bf,YJ,↓QC,Qr,Qe,QH,↓qg,qd,↓Xc,J4,z2];first
  |(refine qbb (by rfl) (by rfl) ?_)
  |(refine Zb (by rfl) ?_
    refine qY (by rfl) (by rfl) (c_same wz m d _ v w a b (hs.mono hs5') (hw.mono hs5') hsm hsw) fun x1q11 h1q11 hx1q11=>?_;obtain⟨rfl,hs11⟩:=hx1q11;have hs11':Sub h h1q11:=hs5'.trans hs11)
  simp+decide only[qa,ev,qK,qG,putD,VG,VH,VI,Ka,Kb,↓QC,Qr,Qe,QH,↓qf,qc];apply hK;clear hK K;refine Qn ?_;refine Qu (qJ (qO)) ?_;simp+decide only[VH,if_true,Qg];refine⟨h,by assumption,?_,Vh _⟩;first|rfl|(simp[z1,z2];done)
end Go.Proofs.YtgiadjbiimkbiaaGreatDoor
namespace Go.Stm
open Go.Col (Str FaultC okF)
open Go.Tok
set_option maxRecDepth 100000
theorem qkT(a b:Str):Lib.fields (a++32::b)=Lib.fields a++Lib.fields b:=by
 have go:∀(a cur:Str),Lib.fieldsGo cur (a++32::b)=Lib.fieldsGo cur a++Lib.fieldsGo [] b:=by
  intro a;induction a with
  |nil=>
   intro cur;have h32:Lib.isSp 32=true:=by decide
   simp only[Je,Lib.fieldsGo,h32,if_true];split<;>simp
  |cons c a ih=>
   intro cur;simp only[Kh,Lib.fieldsGo];split
   ·split
    ·exact ih []
    ·rw[ih []];simp
   ·exact ih _
 exact go a []
end Go.Stm
namespace Go.Stm
open Go.Col (Str FaultC okF)
open Go.Tok
open Go.Proofs.YtgiadjbiimkbiaaGreatDoor (asciiB)
end Go.Stm
namespace Go.Proofs.YtgiadjbiimkbiaaGreatDoor
open Go.AM
open Go.Proofs
open Go.Col (Str FaultC okF)
open Go.Tok (TokC)
open Go.Stm
open Go.RowKit (Below)
set_option maxRecDepth 100000
def u8C(b:UInt8):List AVal:=[.int .u8 b.toNat]
theorem u8_get{wz:World}{h:AHeap}{lc:AM.Loc}{o n:Nat}{c:Cap}{l:List UInt8}(hv:IsL wz h 1 (.slice lc o n c) (l.map u8C)){i:Nat}(hi:i<l.length):rd wz h lc (o+i)= .int .u8 (l.getD i 0).toNat:=by
 have:=hv.at0 (i:=i) (by rw[Jo];exact hi) (by decide);rw[V5]at this;rw[this,getD_map (0:UInt8) hi];rfl
end Go.Proofs.YtgiadjbiimkbiaaGreatDoor
namespace Go.Stm
open Go.Col (Str)
theorem qeL{c:UInt8}:∀{a acc:Str},c∉a->Xn c acc a=[acc++a]
 |[],acc,_=>by rw[Xn,Jz]
 |b::a,acc,h=>by
  have hb:b≠c:=fun e=>h (by rw[e];exact Jf);rw[Xn,if_neg hb,qeL (fun q=>h (Jg _ q)),Ja];rfl
theorem qfD{c:UInt8}(b:Str):∀{a acc:Str},c∉a->Xn c acc (a++c::b)=(acc++a)::Xn c [] b
 |[],acc,_=>by rw[Je,Xn,if_pos rfl,Jz]
 |d::a,acc,h=>by
  have hd:d≠c:=fun e=>h (by rw[e];exact Jf);rw[Kh,Xn,if_neg hd,qfD b (fun q=>h (Jg _ q)),Ja];rfl
end Go.Stm
namespace Go.Proofs.YtgiadjbiimkbiaaGreatDoor
open Go.AM
open Go.Proofs
open Go.Col (Str FaultC okF)
open Go.Tok (TokC)
open Go.Stm
open Go.RowKit (Below)
set_option maxRecDepth 100000
theorem str_flat(l:List Str):l.map AVal.str=(l.map strC).flatten:=by
 induction l with
 |nil=>rfl
 |cons s l ih=>rw[Ke,Ke,Vu,ih];rfl
theorem str_live(l:List Str):allLive (l.map strC).flatten=true:=by
 induction l with
 |nil=>rfl
 |cons s l ih=>rw[Ke,Vu];exact ih
theorem split_c(c:UInt8):∀(n:Nat) (s:Str),s.length<=n->Lib.splitB ⟨⟨[c]⟩⟩ 0 (Lib.countB ⟨⟨s⟩⟩ ⟨⟨[c]⟩⟩) ⟨⟨s⟩⟩=(Xn c [] s).map fun l=>(⟨⟨l⟩⟩:ByteArray):=by
 intro n;induction n with
 |zero=>
  intro s hs;have:s=[]:=Kg (by omega);subst this;rcases index_one [] c with⟨h1,-⟩|⟨i,h1,h2,-⟩
  ·rw[Lib.splitB_miss _ _ _ _ h1]
   rfl
  ·cases h2
 |succ n ih=>
  intro s hs;rcases index_one s c with⟨h1,h2⟩|⟨i,h1,h2,h3,h4⟩
  ·rw[Lib.splitB_miss _ _ _ _ h1,qeL h2]
   rfl
  ·have h1':Lib.indexB ⟨⟨s⟩⟩ ⟨⟨[c]⟩⟩=(i:Int):=h1
   have hsz:(⟨⟨s⟩⟩:ByteArray).size=s.length:=rfl;have h10:(⟨⟨[c]⟩⟩:ByteArray).size=1:=rfl;rw[Lib.countB_hit _ _ i (by rw[h10];decide) h1',Nat.add_comm 1,Lib.splitB_hit _ _ _ _ i h1',h10,hsz,extract_mk,extract_mk,Vm,BX,K7,JW (l:=s.drop (i+1)) (by simp),ih _ (by simp;omega)];conv=>rhs;rw[h3,qfD _ h4]
   rfl
theorem qnK(wz:World)(hm:MaxL wz)(h:AHeap)(s:Str)(c:UInt8)(hl:s.length<4294967281):ACall Tryz.prog wz 52 [.str s, .str [c]] h (fun v h'=>∃k,h k=none/\v= .slice (.own k) 0 (Xn c [] s).length (.exact (Xn c [] s).length)/\h'=h.set k ⟨(Xn c [] s).map AVal.str,0⟩):=by
 obtain⟨m,hm⟩:=hm;refine qgp (vals:=[.string ⟨⟨s⟩⟩, .string ⟨⟨[c]⟩⟩]) (cs:=(Xn c [] s).map fun x=>Value.string ⟨⟨x⟩⟩) (e:=9) Tryz.func52 rfl rfl (fun fi vs hv=>qjN hv) (fun fi=>qiB fi _) fun w hb=>?_;have hlt:2<wz.heap.size:=qey hm;have hw:w.cell? ⟨2,0,none⟩=some (.int .i64 m):=(hb.cell (p:=⟨2,0,none⟩) hlt).trans hm;refine(Tryz.strings_Split ⟨⟨s⟩⟩ ⟨⟨[c]⟩⟩ m w hl hw (show 1<=(⟨⟨[c]⟩⟩:ByteArray).size from KM 1)).mono fun e w' ⟨e1,e2⟩=>?_;have hs:=split_c c s.length s (KM _);have hn:Lib.countB ⟨⟨s⟩⟩ ⟨⟨[c]⟩⟩+1=(Xn c [] s).length:=by
  rw[<-Jo (f:=fun l=>(⟨⟨l⟩⟩:ByteArray)),<-hs,Lib.splitB_all _ (show 1<=(⟨⟨[c]⟩⟩:ByteArray).size from KM 1) 0 _ _ rfl]
 rw[e1,e2,hn,hs,List.map_map];exact⟨rfl,rfl⟩
theorem qnJ(wz:World)(ha:Asp wz)(h:AHeap)(s:Str)(hl:s.length<=1000000)(has:asciiB s=true):ACall Tryz.prog wz 103 [.str s] h (fun v h'=>v= .str (Lib.trimSpace s)/\h'=h):=by
 refine qdm (vals:=[.string ⟨⟨s⟩⟩]) (val:= .string ⟨⟨Lib.trimSpace s⟩⟩) Tryz.func103 rfl rfl (fun fi vs hv=>VRs_s hv) (fun fi=>rfl) fun w hb=>?_;refine(Tryz.strings_TrimSpace ⟨⟨s⟩⟩ w (Vd hl (by decide)) (qjE has) (ha.later hb)).mono fun e w' ⟨e1,e2⟩=>⟨e1,?_⟩
 subst e2;exact Lib.bytesWorld_below w _ _
theorem c_rows(wz:World)(h:AHeap):ACall Tryz.prog wz 7 [] h (fun r h'=>∃k,h k=none/\r= .slice (.own k) 0 39 (.exact 39)/\h'=h.set k ⟨rowsT.map AVal.str,0⟩):=by
 obtain⟨T,hT⟩:∃T,T=rowsT:=⟨_,rfl⟩
 rw[<-hT];refine Ql (n:=2) (rs:=[.tmp 0]) Tryz.func7 rfl rfl rfl rfl (VF rfl) ?_;simp only[Qm];refine awp_rseq [] (by rfl) fun K hK=>?_;simp+decide only[qa,ev,qK,qG,putD,VG,VI,if_false,Kb,↓qf,qc];apply hK;clear hK K;refine qF ?_;refine qpC (cs:=T.map AVal.str) (by kernel_rfl) (by rw[hT];kernel_rfl) fun k1q0 hk1q0=>?_;simp only[qR];refine Bt [0] ?_;simp+decide only[ev,putD,VG,VH,VI,Ka];refine Qn ?_;refine Qu (qJ (qO)) ?_;simp+decide only[VH,if_true,Qg];exact⟨_,Vh _,k1q0,hk1q0,rfl,rfl⟩
theorem qrw(wz:World)(hm:MaxL wz)(h:AHeap)(s:Str)(hl:s.length<=1000000):ACall Tryz.prog wz 54 [.str s] h (fun r h'=>∃p,GrowV 1 r p ((Yo s).map strC)/\AM.Sep [h,p] h'):=by
 have hS0:AM.Sep [h,emp] h:=BU (ps:=[h]) ⟨fun p hp=>by rw[VM.1 hp];exact Vh _,by simp⟩;refine Ql (n:=7) (rs:=[.tmp 2]) Tryz.func54 rfl rfl rfl rfl (VF rfl) ?_;simp only[Qm];refine awp_rseq [0] (by rfl) fun K hK=>?_;simp+decide only[qa,ev,qK,qG,putD,VG,VI,Ka,Kb,↓qf,qc];apply hK;clear hK K;refine qF ?_;refine awp_rseq [0,4] (by rfl) fun K hK=>?_;simp+decide only[qa,ev,qK,qG,putD,VG,VH,VI,Ka,Kb,↓qg,qd,↓qo,qh,Qy,cond_false,Qp,XP];apply hK;clear hK K;refine qM (b:=_) rfl (fun hb1=>?_) (fun hb1=>?_)
 ·try simp only[decide_eq_true_eq]at hb1
  have hL:Yo s=[]:=by unfold Yo;rw[if_pos hb1]
  refine awp_rseq [2] (by rfl) fun K hK=>?_;simp+decide only[qa,ev,qK,qG,putD,VG,VI,Ka,Kb,↓qf,qc];apply hK;clear hK K;refine Qn ?_;try simp only[QM]
  refine Xf h zqC (qJ (qO)) ?_;simp+decide only[VH,if_true,Qg];rw[hL];exact⟨emp, .nil,hS0⟩
 ·try simp only[decide_eq_false_iff_not]at hb1
  have hL:Yo s=Xn 59 [] s:=by unfold Yo;rw[if_neg hb1]
  refine qV ?_;change Awp _ _ _ _ _ _ _;refine awp_rseq [2] (by rfl) fun K hK=>?_;simp+decide only[ev,putD,VG,VH,Ka,Kb,↓qg,qd];refine qY (by rfl) (by rfl) (qnK wz hm _ s 59 (by omega)) fun x3q1 h3q1 hx3q1=>?_;obtain⟨k,hk,rfl,e3⟩:=hx3q1;have hS3:=BL (ps:=[h]) ⟨fun p hp=>by rw[VM.1 hp];exact Vh _,by simp⟩ hk ⟨(Xn 59 [] s).map AVal.str,0⟩;rw[<-e3]at hS3;simp only[Kh,Je]at hS3;simp+decide only[qa,ev,putD,VG,VH,VI,Ka,Kb,↓qf,qc];apply hK;clear hK K;refine Qn ?_;refine Qu (qJ (qO)) ?_;simp+decide only[VH,if_true,Qg];rw[hL];exact⟨_,Vh _,_,BD (by rw[Jo]) (.inl rfl) (fun x hx=>by obtain⟨y,_,rfl⟩:=JP.1 hx;rfl) (str_live _) (str_flat _),hS3⟩
end Go.Proofs.YtgiadjbiimkbiaaGreatDoor
namespace Go.Stm
open Go.Col (Str)
open Go.Proofs.YtgiadjbiimkbiaaGreatDoor (asciiB)
theorem qmG{ops:List UInt8}{i:Nat}(hi:i<ops.length)(h4:i<4):((ops.take (i+1)).map fun o=>32::opsT.getD (o.toNat%5) []).flatten=((ops.take i).map fun o=>32::opsT.getD (o.toNat%5) []).flatten++[32]++opsT.getD ((ops.getD i 0).toNat%5) []:=by
 rw[Vq,JH hi,Vr,Vt,Ja];congr 1;simp[Ko,hi]
theorem qrh(k:Nat):(opsT.getD k []).length<=3/\asciiB (opsT.getD k [])=true:=by
 by_cases h:k<5
 ·have:k=0\/k=1\/k=2\/k=3\/k=4:=by omega
  rcases this with rfl|rfl|rfl|rfl|rfl<;>decide
 ·rw[Ko,Kr (by show opsT.length<=k;simp[opsT];omega)]
  exact⟨by decide,rfl⟩
theorem qkI(l:List UInt8):((l.map fun o=>32::opsT.getD (o.toNat%5) []).flatten).length<=4*l.length/\asciiB ((l.map fun o=>32::opsT.getD (o.toNat%5) []).flatten)=true:=by
 induction l with
 |nil=>exact⟨KM _,rfl⟩
 |cons o l ih=>
  obtain⟨a,b⟩:=qrh (o.toNat%5);rw[Ke,Vu];refine⟨by rw[Jc,KY,KY];omega,?_⟩;unfold asciiB at*
  rw[Ec,List.all_cons,b,ih.2];rfl
theorem wordsE_ok(ops:List UInt8):(Zd ops).length<=16/\asciiB (Zd ops)=true:=by
 obtain⟨a,b⟩:=qkI (ops.take 4);exact⟨Vd a (by rw[K5];omega),b⟩
end Go.Stm
namespace Go.Proofs.YtgiadjbiimkbiaaGreatDoor
open Go.AM
open Go.Proofs
open Go.Col (Str FaultC okF)
open Go.Tok (TokC)
open Go.Stm
open Go.RowKit (Below)
set_option maxRecDepth 100000
abbrev buB(text:Str)(c:Cur)(pv bv:AVal):Blk:=⟨[.str text, .str c.verb, .int .i64 c.line, .int .i64 c.col,pv,bv],0⟩
theorem qmn(wz:World)(B H:AHeap)(kb:Nat)(text w:Str)(c:Cur)(pv bv:AVal)(hS:AM.Sep [B,one kb (buB text c pv bv)] H)(hl:text.length<=1000000000)(hw:w.length<=1000000000):
 ACall Tryz.prog wz 56 [.ptr (.own kb) 0, .str w] H (fun _ h'=>AM.Sep [B,one kb (buB (text++[32]++w) c pv bv)] h'):=by
 have eb_b:H kb=some _:=hS.at_ (i:=1) rfl;refine Ql (n:=14) (rs:=[]) Tryz.func56 rfl rfl rfl rfl (VF rfl) ?_;simp only[Qm];refine Xa [] (by rfl) ?_;simp+decide only[ev,qK,qG,putD,VG,VH,Ka,Kb,↓qg,qd,↓Qv,Qk,QE,↓qC,qi,qlY,↓qI,Qc,qj ag9,↓qo,qh,Qy,cond_false,Qp,YK,qN,Qj wz eb_b,VJ,Jq,Qw,Jc,KY,JN];repeat (with_reducible refine And.intro ?_ ?_;· first|trivial|omega|(intro hg;simp only[Ky,JF,Ji,VO,VL,VK,decide_eq_true_eq,decide_eq_false_iff_not,Xd]at hg;omega))
 refine Qi (by rfl) (by rfl) zqA sz9 (by rfl) (by rfl) zqD (Jr _) (by rfl) ?_;simp only[VY];simp+decide only[qa,ev,putD,VH,VI,Ka,setAt,VZ];refine Us (qO) ?_;exact⟨_,Vh _,hS.put (i:=1) rfl _⟩
theorem c_has(wz:World)(B H:AHeap)(kb:Nat)(text w:Str)(c:Cur)(pv bv:AVal)(qs:List (PhrC×AVal))(hS:AM.Sep [B,one kb (buB text c pv bv)] H)(hv:∀h,AM.Sub B h->IsL wz h 2 pv (qs.map phC))(hl:qs.length<=1000000):
 ACall Tryz.prog wz 84 [.ptr (.own kb) 0, .str w] H (fun r h'=>r= .bool ((qs.map (·.1)).any fun p=>decide (p.words=w))/\h'=H):=by
 have eb_b:H kb=some _:=hS.at_ (i:=1) rfl;have hB:AM.Sub B H:=hS.in_ (i:=0) rfl;have hq:=hv H hB;have np:=qfe hq;have hpl:=hq.live;obtain⟨R,hR⟩:∃R,R=((qs.map (·.1)).any fun p=>decide (p.words=w)):=⟨_,rfl⟩
 rw[<-hR];refine Ql (n:=27) (rs:=[.tmp 4]) Tryz.func84 rfl rfl rfl rfl (VF rfl) ?_;simp only[Qm];refine awp_rseq [0,1] (by rfl) fun K hK=>?_;simp+decide only[qa,ev,qK,qG,putD,VG,VI,Ka,Kb,↓qf,qc,Jq];apply hK;clear hK K;refine qF ?_;refine awp_rseq [0,1,5] (by rfl) fun K hK=>?_;simp+decide only[qa,ev,qK,qG,putD,VG,VI,Ka,Kb,↓qf,qc];apply hK;clear hK K;refine Qb ?_;refine QN [0,1,5] (fun j:Nat=>[(0, .ptr (.own kb) 0),(1, .str w),(5, .int .i64 j)]) (fun j:Nat=>H) (fun j:Nat=>j<=qs.length/\R=(((qs.drop j).map (·.1)).any fun p=>decide (p.words=w))) (fun j:Nat=>qs.length-j) 0 (by rfl) (Vh _) ⟨Jr _,hR⟩ ?_;rintro j ⟨hj,hg⟩;refine qF ?_;refine awp_rseq [0,1,5,13] (by rfl) fun K hK=>?_;simp+decide only[qa,ev,putD,VG,VH,VI,Ka,Kb,↓qg,qd,↓Qv,Qk,QE,↓qC,qi,YR,Zz,↓qI,Qc,qj qba,↓QB,Qo,↓qo,qh,qN,cond_false,qz,Xt,Qj wz eb_b,VJ,Kn,Jq,Nat.reduceAdd,np,hpl];apply hK;clear hK K;refine qM (b:=_) rfl (fun hb1=>?_) (fun hb1=>?_)
 ·try simp only[decide_eq_true_eq]at hb1
  have hj1:j<qs.length:=by omega
  obtain⟨lc,o,cc,hpe⟩:=UK hq (by omega);have hq2:=hq;rw[hpe]at hq2;obtain⟨e0,e1⟩:=qbH hq2 hj1;have hst:=qjG (p:=fun p:PhrC=>decide (p.words=w)) (d:=qbu) hj1;rw[hst]at hg;obtain⟨q,hq3⟩:∃q,q=(qs.getD j qbu).1.words:=⟨_,rfl⟩
  rw[<-hq3]at e0 hg;have hwj:IntKind.i64.wrap ((j:Int)+1)=((j+1:Nat):Int):=by rw[wrap_i64 (by omega) (by omega)];omega
  have hpl2:(AVal.slice lc o qs.length cc).live=true:=rfl;refine qV ?_;change Awp _ _ _ _ _ _ _;refine qF ?_;refine Qb ?_;refine awp_rseq [0,1,5,26] (by rfl) fun K hK=>?_;simp+decide only[qa,ev,putD,VG,VH,VI,Ka,Kb,↓qg,qd,↓Qv,Qk,QE,↓qC,qi,YR,Zz,↓qI,Qc,qj qba,↓qZ,qA Tryz.underlying79 qab,qhc,qj ag9,↓qo,qh,qN,cond_false,Qp,XP,Qj wz eb_b,VJ,Kn,Jq,Nat.reduceAdd,Qw,Xv,hpe,e0,VN,K7];repeat (with_reducible refine And.intro ?_ ?_;· first|trivial|omega|(intro hg;simp only[Ky,JF,Ji,VO,VL,VK,decide_eq_true_eq,decide_eq_false_iff_not,Xd]at hg;omega))
  apply hK;clear hK K;refine qM (b:=_) rfl (fun hb2=>?_) (fun hb2=>?_)
  ·try simp only[decide_eq_true_eq]at hb2
   refine awp_rseq [4] (by rfl) fun K hK=>?_;simp+decide only[qa,ev,qK,qG,putD,VG,VI,Ka,Kb,↓qf,qc];apply hK;clear hK K;refine Qn ?_;try simp only[QM,Xl]
   refine Qu (qJ (qO)) ?_;simp+decide only[VH,if_true,Qg];exact⟨H,Vh _,by rw[hg,decide_eq_true hb2];rfl,rfl⟩
  ·try simp only[decide_eq_false_iff_not]at hb2
   rw[decide_eq_false hb2,V7]at hg;refine qV ?_;change Awp _ _ _ _ _ _ _;refine Xa [0,1,5] (by rfl) ?_;simp+decide only[qa,ev,qK,qG,putD,VG,VH,VI,Ka,Kb,↓qg,qd,↓qo,qh,qE,cond_false,qz,QW,↓qf,qc,hwj];try simp only[qR]
   exact⟨j+1,by first|rfl|(rw[hpe];rfl),Vh _,⟨hj1,hg⟩,by omega⟩
 ·try simp only[decide_eq_false_iff_not]at hb1
  have hjq:j=qs.length:=by omega
  rw[hjq,J8]at hg;refine QI ?_;change Awp _ _ _ _ _ _ _;refine awp_rseq [4] (by rfl) fun K hK=>?_;simp+decide only[qa,ev,qK,qG,putD,VG,VI,Ka,Kb,↓qf,qc];apply hK;clear hK K;refine Qn ?_;refine Qu (qJ (qO)) ?_;simp+decide only[VH,if_true,Qg];exact⟨H,Vh _,by rw[hg];rfl,rfl⟩
theorem qju(wz:World)(h:AHeap)(v:AVal)(l:List UInt8)(hv:IsL wz h 1 v (l.map u8C)):ACall Tryz.prog wz 81 [v] h (fun r h'=>r= .str (Zd l)/\AM.Sub h h'):=by
 have hlv:=hv.live;have nv:∀H:AHeap,Zh Tryz.prog H 32 v=⟨True, .int .i64 l.length⟩:=fun H=>by have:=hv.len Tryz.underlying32 H;rwa [Jo]at this
 refine Ql (n:=27) (rs:=[.tmp 2]) Tryz.func81 rfl rfl rfl rfl (VF rfl) ?_;simp only[Qm];refine awp_rseq [0] (by rfl) fun K hK=>?_;simp+decide only[qa,ev,qK,qG,putD,VG,VI,Ka,Kb,↓qf,qc];apply hK;clear hK K;refine awp_rseq [0,3] (by rfl) fun K hK=>?_;simp+decide only[qa,ev,qK,qG,putD,VG,VI,Ka,Kb,↓qf,qc];apply hK;clear hK K;refine qF ?_;refine awp_rseq [0,3,4] (by rfl) fun K hK=>?_;simp+decide only[qa,ev,qK,qG,putD,VG,VI,Ka,Kb,↓qf,qc];apply hK;clear hK K;refine Qb ?_;refine QN [0,3,4] (fun g:SaG=>[(0,v),(3, .str (((l.take g.j).map fun o=>32::opsT.getD (o.toNat%5) []).flatten)),(4, .int .i64 g.j)]) (fun g:SaG=>g.H) (fun g:SaG=>AM.Sub h g.H/\g.j<=l.length/\g.j<=4) (fun g:SaG=>l.length-g.j) ⟨0,h⟩ (by rfl) (Vh _) ⟨Vh _,Jr _,Jr _⟩ ?_;rintro⟨j,H⟩ ⟨hs_H,hj,hj4⟩;simp only at hs_H hj hj4|-
 have hfl:=(qkI (l.take j)).1;rw[K5]at hfl;refine qF ?_;refine awp_rseq [0,3,4,12] (by rfl) fun K hK=>?_;simp+decide only[qa,ev,qK,qG,putD,VG,VH,VI,Ka,Kb,↓qg,qd,↓QB,Qo,↓qo,qh,qN,cond_false,qz,Xt,↓Xc,agP,Qs,qW,qP,qH,implies_true,↓QJ,qE,XL,XM,↓QC,Qr,Qe,QT,QH,nv];apply hK;clear hK K;refine qM (b:=_) rfl (fun hb1=>?_) (fun hb1=>?_)
 ·try simp only[decide_eq_true_eq,Ky]at hb1
  obtain⟨hj1,hj5⟩:j<l.length/\j<4:=by omega
  obtain⟨lc,o,cc,hve⟩:=hv.open (fun e=>by rw[VD]at e;rw[e]at hj1;cases hj1);have hv2:=hv.mono hs_H;rw[hve]at hv2;have e0:∀(k:Nat) (X:Blk),H k=none->rd wz (H.set k X) lc (o+j)= .int .u8 (l.getD j 0).toNat:=fun k X hk=>by
   have q:=hv.mono (hs_H.trans (Vi (b:=X) hk));rw[hve]at q;exact u8_get q hj1
  have hst:=qmG hj1 hj5;obtain⟨b,hb⟩:∃b,b=l.getD j 0:=⟨_,rfl⟩
  rw[<-hb]at hst e0;have hb8:b.toNat<256:=b.toNat_lt;obtain⟨k,hk⟩:∃k,k=b.toNat%5:=⟨_,rfl⟩
  have hk5:k<5:=by omega
  have hrem:Ed (b.toNat:Int) 5=(k:Int):=by rw[Ee (by omega),hk];exact(Ef b.toNat 5).symm
  have hwu:IntKind.u8.wrap (k:Int)=(k:Int):=wrap_u8 (by omega) (by omega);have q5:k=0\/k=1\/k=2\/k=3\/k=4:=by omega
  have hc5:(opsT.map AVal.str).getD k .dead= .str (opsT.getD k []):=by rcases q5 with e|e|e|e|e<;>rw[e]<;>rfl
  obtain⟨s,hs⟩:∃s,s=opsT.getD k []:=⟨_,rfl⟩
  have hsl:=(qrh k).1;rw[<-hk,<-hs]at hst;rw[<-hs]at hc5 hsl;have hkb:(0<=(k:Int)/\(k:Int)<5)=True:=eq_true ⟨by omega,by omega⟩;have hjb:(0<=(j:Int)/\(j:Int)<(l.length:Int))=True:=eq_true ⟨by omega,by omega⟩;have hwj:IntKind.i64.wrap ((j:Int)+1)=((j+1:Nat):Int):=by rw[wrap_i64 (by omega) (by omega)];omega
  refine qV ?_;change Awp _ _ _ _ _ _ _;refine qF ?_;refine Qb ?_;refine Xa [0,3,4] (by rfl) ?_;simp+decide only[ev,qK,qG,putD,VG,VH,Ka,Kb,↓qg,qd,↓qo,qh,Qy,cond_false,Qp,YK,Jq,hve,Jq,Jo,KY,JN];repeat (with_reducible refine And.intro ?_ ?_;· first|trivial|omega|(intro hg;simp only[Ky,JF,Ji,VO,VL,VK,decide_eq_true_eq,decide_eq_false_iff_not,Xd]at hg;omega))
  refine Qh (cs:=opsT.map AVal.str) (by kernel_rfl) fun k5q2 hk5q2=>?_;have hn_5q2:H k5q2=none:=by first|assumption|(simp only[VU]at hk5q2;simp only[hk5q2])
  have hf_5q2:h k5q2=none:=VV hs_H hn_5q2;simp+decide only[qa,ev,qK,qG,putD,VG,VH,VI,Ka,Kb,↓qg,qd,↓qZ,Qc,qA Tryz.underlying32 sz5,↓qI,qj ag5,↓qo,qh,qE,cond_false,qz,qgN,qA Tryz.underlying22 sz9,qj ag9,qN,Qp,YK,↓qf,qc,XN,Jq,QL,Qw,hjb,hrem,hc5,VN,V5,Jq,Jc,KY,JN,e0 _ _ hk5q2];repeat (with_reducible refine And.intro ?_ ?_;· first|trivial|omega|(intro hg;simp only[Ky,JF,Ji,VO,VL,VK,decide_eq_true_eq,decide_eq_false_iff_not,Xd]at hg;omega))
  change Awp _ _ _ _ _ _ _;refine Xa [0,3,4] (by rfl) ?_;simp+decide only[qa,ev,qK,qG,putD,VG,VH,VI,Ka,Kb,↓qg,qd,↓qo,qh,qE,cond_false,qz,QW,↓qf,qc,hwj];try simp only[qR]
  exact⟨⟨j+1,_⟩,by rw[hst];first|rfl|(rw[hve];simp only[Jo];rfl),Vh _,⟨zqB,hj1,hj5⟩,by simp only;omega⟩
 ·try simp only[decide_eq_false_iff_not,VO]at hb1
  have hR:((l.take j).map fun o=>32::opsT.getD (o.toNat%5) []).flatten=Zd l:=by
   unfold Zd;rcases hb1 with z|z
   ·rw[JW (by omega),JW (by omega)]
   ·rw[show j=4 by omega]
  refine QI ?_;change Awp _ _ _ _ _ _ _;refine awp_rseq [2] (by rfl) fun K hK=>?_;simp+decide only[qa,ev,putD,VG,VH,VI,Ka,Kb,↓qg,qd,↓qf,qc];apply hK;clear hK K;refine Qn ?_;refine Qu (qJ (qO)) ?_;simp+decide only[VH,if_true,Qg];rw[hR];exact⟨_,Vh _,rfl,hs_H⟩
end Go.Proofs.YtgiadjbiimkbiaaGreatDoor
namespace Go.Stm
open Go.Col (Str)
open Go.Proofs.YtgiadjbiimkbiaaGreatDoor (asciiB)
theorem qpe{s:Str}:∀w∈Lib.fields s,∀b∈w,b∈s:=by
 have go:∀(s cur:Str),∀w∈Lib.fieldsGo cur s,∀b∈w,b∈cur\/b∈s:=by
  intro s;induction s with
  |nil=>
   intro cur w hw b hb;unfold Lib.fieldsGo at hw;split at hw
   ·cases hw
   ·rw[VM.1 hw]at hb;exact .inl hb
  |cons c s ih=>
   intro cur w hw b hb;unfold Lib.fieldsGo at hw;split at hw
   ·split at hw
    ·rcases ih [] w hw b hb with z|z
     ·cases z
     ·exact .inr (Jg _ z)
    ·rcases KX.1 hw with q|q
     ·rw[q]at hb;exact .inl hb
     ·rcases ih [] w q b hb with z|z
      ·cases z
      ·exact .inr (Jg _ z)
   ·rcases ih _ w hw b hb with z|z
    ·rcases JR.1 z with z|z
     ·exact .inl z
     ·rw[VM.1 z];exact .inr Jf
    ·exact .inr (Jg _ z)
 intro w hw b hb;rcases go s [] w hw b hb with z|z
 ·cases z
 ·exact z
theorem qhl{s t:Str}(h:asciiB s=true)(hm:∀b∈t,b∈s):asciiB t=true:=by
 unfold asciiB at*
 exact JC.2 fun b hb=>JC.1 h b (hm b hb)
theorem qhf{p:UInt8->Bool}:∀{s:Str},∀b∈s.dropWhile p,b∈s
 |[],b,h=>h
 |c::s,b,h=>by
  rw[BP]at h;split at h
  ·exact Jg _ (qhf b h)
  ·exact h
theorem qku{s cs:Str}:∀b∈Lib.trimS s cs,b∈s:=fun b hb=>by
 unfold Lib.trimS Lib.trimLeftS Lib.trimRightS at hb;have h1:=qhf b hb;have h2:=qhf b (Eg.1 h1);exact Eg.1 h2
theorem qhg{p:UInt8->Bool}:∀(s:Str),(s.dropWhile p).length<=s.length
 |[]=>KM _
 |c::s=>by
  rw[BP];split
  ·exact Vd (qhg s) (by simp)
  ·exact KM _
theorem qrT(s:Str):(Lib.trimSpace s).length<=s.length:=by
 unfold Lib.trimSpace;have h1:=qhg (p:=Lib.isSp) s;have h2:=qhg (p:=Lib.isSp) (s.dropWhile Lib.isSp).reverse;rw[BQ]at h2|-
 omega
end Go.Stm
namespace Go.Proofs.YtgiadjbiimkbiaaGreatDoor
open Go.AM
open Go.Proofs
open Go.Col (Str FaultC okF)
open Go.Tok (TokC)
open Go.Stm
open Go.RowKit (Below)
set_option maxRecDepth 100000
set_option maxHeartbeats 4000000 in
theorem qmm(wz:World)(ha:Asp wz)(h:AHeap)(form:Str)(bits:UInt8)(all:Bool)(hf:form.length<=500)(hfa:asciiB form=true):
 ACall Tryz.prog wz 82 [.str form, .int .u8 bits.toNat, .bool all] h (fun r h'=>r= .str (Wy form bits all)/\AM.Sub h h'):=by
 obtain⟨ws,hws⟩:∃ws,ws=Lib.fields form:=⟨_,rfl⟩
 have hwl:ws.length<=501:=by rw[hws];exact Vd (fields_few form) (by omega)
 have hwa:∀w∈ws,w.length<=500/\w≠[]/\asciiB w=true:=fun w hw=>by
  rw[hws]at hw;exact⟨Vd (fields_small w hw) hf,qfi w hw,qhl hfa (qpe w hw)⟩
 have hR:Wy form bits all=Lib.trimSpace (UH bits all 0 ws []):=by rw[hws];rfl
 have hb8:bits.toNat<256:=bits.toNat_lt;refine Ql (n:=58) (rs:=[.tmp 6]) Tryz.func82 rfl rfl rfl rfl (VF rfl) ?_;simp only[Qm];refine awp_rseq [0,1,2] (by rfl) fun K hK=>?_;simp+decide only[qa,ev,qK,qG,putD,VG,VI,Ka,Kb,↓qf,qc,Jq,Nat.reduceAdd];apply hK;clear hK K;refine awp_rseq [0,1,2,7] (by rfl) fun K hK=>?_;simp+decide only[qa,ev,qK,qG,putD,VG,VI,Ka,Kb,↓qf,qc];apply hK;clear hK K;refine awp_rseq [1,2,7,8] (by rfl) fun K hK=>?_;simp+decide only[ev,putD,VG,VH,Ka,Kb,↓qg,qd];refine qY (by rfl) (by rfl) (qcu wz ha _ form (by omega) hfa) fun x2q1 h2q1 hx2q1=>?_;obtain⟨kw,hkw,rfl,rfl⟩:=hx2q1;rw[<-hws];have lw:=UF (qbD (wz:=wz) (Vg h kw ⟨ws.map AVal.str,0⟩));simp+decide only[qa,ev,putD,VG,VH,VI,Ka,Kb,↓qf,qc];apply hK;clear hK K;refine qF ?_;refine awp_rseq [1,2,7,8,9] (by rfl) fun K hK=>?_;simp+decide only[qa,ev,qK,qG,putD,VG,VI,Ka,Kb,↓qf,qc];apply hK;clear hK K;refine Qb ?_;refine QN [1,2,7,8,9] (fun g:Nat×Str=>[(1, .int .u8 bits.toNat),(2, .bool all),(7, .str g.2),(8, .slice (.own kw) 0 ws.length (.exact ws.length)),(9, .int .i64 g.1)]) (fun g:Nat×Str=>h.set kw ⟨ws.map AVal.str,0⟩) (fun g:Nat×Str=>g.1<=ws.length/\g.2.length<=501*g.1/\asciiB g.2=true/\UH bits all 0 ws []=UH bits all g.1 (ws.drop g.1) g.2) (fun g:Nat×Str=>ws.length-g.1) (0,[]) (by rfl) (Vh _) ⟨Jr _,Jr _,rfl,rfl⟩ ?_;rintro⟨i,out⟩ ⟨hi,hol,hoa,hg⟩;simp only at hi hol hoa hg|-
 refine qF ?_;refine awp_rseq [1,2,7,8,9,16] (by rfl) fun K hK=>?_;simp+decide only[qa,ev,putD,VG,VH,VI,Ka,Kb,↓qg,qd,↓QB,Qo,Xr Tryz.underlying22,↓qo,qh,qN,cond_false,qz,Xt];apply hK;clear hK K;refine qM (b:=_) rfl (fun hb1=>?_) (fun hb1=>?_)
 ·try simp only[decide_eq_true_eq]at hb1
  have hi':i<ws.length:=by omega
  obtain⟨w,hw⟩:∃w,w=ws.getD i []:=⟨_,rfl⟩
  have ew:=qdw (wz:=wz) (Vg h kw ⟨ws.map AVal.str,0⟩) hi';rw[<-hw]at ew;obtain⟨hwn,hwp,hwas⟩:=hwa w (by rw[hw,Ko,JH hi'];exact VA hi');have hst:UH bits all 0 ws []=UH bits all (i+1) (ws.drop (i+1)) (if qmP w bits all i=true then out else out++[32]++Lib.trimS w qdC):=by
   rw[hg,J9 hi',UH];have:ws[i]=w:=by rw[hw];simp[Ko,hi']
   rw[this]
  have hw0:((0:Int)<w.length)=True:=eq_true (by have:=Bc.2 hwp;omega);have hwb:(0<=(0:Int)/\(0:Int)<w.length)=True:=eq_true ⟨by omega,by have:=Bc.2 hwp;omega⟩;have h91:∀c:UInt8,decide ((c.toNat:Int)=91)=decide (c=91):=fun c=>ZY c 91;have h40:∀c:UInt8,decide ((c.toNat:Int)=40)=decide (c=40):=fun c=>ZY c 40;have h8:Ed (i:Int) 8=((i%8:Nat):Int):=by rw[Ee (by omega)];exact(Ef i 8).symm
  have hw8:IntKind.i64.wrap ((i%8:Nat):Int)=((i%8:Nat):Int):=wrap_i64 (by omega) (by omega);obtain⟨bt,hbt⟩:∃bt,bt=bits.toNat / 2^(i%8)%2:=⟨_,rfl⟩
  have hbit:Ed (Int.fdiv (bits.toNat:Int) (2^(min (i%8) IntKind.u8.bits))) 2=(bt:Int):=by
   have hm:min (i%8) IntKind.u8.bits=i%8:=by show min (i%8) 8=_;omega
   rw[hm,hbt];have h1:Int.fdiv (bits.toNat:Int) (2^(i%8))=((bits.toNat / 2^(i%8):Nat):Int):=by
    rw[Int.fdiv_eq_ediv_of_nonneg _ (Int.pow_nonneg (by decide)),Int.natCast_ediv];congr 1
   rw[h1,Ee (Int.natCast_nonneg _)];exact(Ef _ 2).symm
  have hbu:IntKind.u8.wrap (bt:Int)=(bt:Int):=wrap_u8 (by omega) (by omega);have hb1':decide ((bt:Int)=1)=decide (bt=1):=by rw[decide_eq_decide];omega
  have hsk:qmP w bits all i=((decide (w.getD 0 0=91) && !all)||((decide (w.getD 0 0=91)||decide (w.getD 0 0=40)) && (all && decide (bt=1)))):=by rw[hbt];rfl
  have hwi:IntKind.i64.wrap ((i:Int)+1)=((i+1:Nat):Int):=by rw[wrap_i64 (by omega) (by omega)];omega
  have hi0:Int.toNat 0=0:=rfl;have htl:=trimS_le w qdC;have hwp0:=Bc.2 hwp;refine qV ?_;change Awp _ _ _ _ _ _ _;refine qF ?_;refine Qb ?_;refine awp_rseq [1,2,7,8,9,10] (by rfl) fun K hK=>?_;simp+decide only[qa,ev,putD,VG,VH,VI,Ka,Kb,↓qg,qd,↓qZ,Qc,qA Tryz.underlying22 sz9,↓qI,qj ag9,↓qf,qc,Jq,Qw,ew,VN,V5,Jq];repeat (with_reducible refine And.intro ?_ ?_;· first|trivial|omega|(intro hg;simp only[Ky,JF,Ji,VO,VL,VK,decide_eq_true_eq,decide_eq_false_iff_not,Xd]at hg;omega))
  apply hK;clear hK K;refine qF ?_;refine awp_rseq [1,2,7,8,9,10,50] (by kernel_rfl) fun K hK=>?_;simp+decide only[qa,ev,qK,qG,putD,VG,VH,VI,Ka,Kb,↓qg,qd,↓qjF,qgL,qff Tryz.underlying9,↓qo,qh,qE,cond_false,qz,XV,↓Xc,agP,Qs,qW,qP,Xm,Ze,qH,qU,qeS,implies_true,↓WR,Zn,YJ,qhN,qhO,↓QC,Qr,Qe,QT,XZ,qaH,qcs,QH,XO,↓ag_index,qsG,qsJ,↓QJ,XL,UV,XM,UW,↓WS,qaz,qaA,qgN,qN,qsl,h91,h40,h8,hbit,hb1',hi0,VN];refine⟨by omega,fun _=>by omega,fun _=>by omega,fun _=>by omega,?_⟩;apply hK;clear hK K;refine qM (b:=_) rfl (fun hb2=>?_) (fun hb2=>?_)
  ·have hk:qmP w bits all i=true:=by rw[hsk,<-Vn];exact hb2
   rw[if_pos hk]at hst;all_goals
    try simp only[decide_eq_true_eq,Ji,Ky,JF]at hb2
    refine QI ?_;change Awp _ _ _ _ _ _ _;refine Xa [1,2,7,8,9] (by rfl) ?_;simp+decide only[qa,ev,qK,qG,putD,VG,VH,VI,Ka,Kb,↓qg,qd,↓qo,qh,qE,cond_false,qz,QW,↓qf,qc,hwi];try simp only[qR]
    first
    |exact⟨(i+1,out),rfl,Vh _,⟨hi',by simp only;omega,hoa,hst⟩,by simp only;omega⟩
    |exact⟨(i+1,out++[32]++Lib.trimS w qdC),rfl,Vh _,⟨hi',by simp only[Jc,KY,JN];omega,qeA (qeA hoa (by decide)) (qhl hwas qku),hst⟩,by simp only;omega⟩
  ·have hk:qmP w bits all i=false:=by rw[hsk,<-Vn];exact hb2
   rw[if_neg (by rw[hk];decide)]at hst;all_goals
    try simp only[decide_eq_false_iff_not,VK,VO,VL]at hb2
    refine qV ?_;change Awp _ _ _ _ _ _ _;refine Xa [1,2,7,8,9] (by rfl) ?_;simp+decide only[ev,qK,qG,putD,VG,VH,Ka,Kb,↓qg,qd,↓qo,qh,Qy,cond_false,Qp,YK,Jq,KY,JN];repeat (with_reducible refine And.intro ?_ ?_;· first|trivial|omega|(intro hg;simp only[Ky,JF,Ji,VO,VL,VK,decide_eq_true_eq,decide_eq_false_iff_not,Xd]at hg;omega))
    refine QS (V:= .str (Lib.trimS w qdC)) (by rfl) (by rfl) (qpm wz _ w qdC (by omega) (by decide) (by decide) (by decide)) ?_;simp+decide only[qa,ev,putD,VG,VH,VI,Ka,Kb,↓qo,qh,qN,cond_false,Qp,YK,↓qf,qc,Jq,Jc,KY,JN];repeat (with_reducible refine And.intro ?_ ?_;· first|trivial|omega|(intro hg;simp only[Ky,JF,Ji,VO,VL,VK,decide_eq_true_eq,decide_eq_false_iff_not,Xd]at hg;omega))
    change Awp _ _ _ _ _ _ _;refine Xa [1,2,7,8,9] (by rfl) ?_;simp+decide only[qa,ev,qK,qG,putD,VG,VH,VI,Ka,Kb,↓qg,qd,↓qo,qh,qE,cond_false,qz,QW,↓qf,qc,hwi];try simp only[qR]
    first
    |exact⟨(i+1,out),rfl,Vh _,⟨hi',by simp only;omega,hoa,hst⟩,by simp only;omega⟩
    |exact⟨(i+1,out++[32]++Lib.trimS w qdC),rfl,Vh _,⟨hi',by simp only[Jc,KY,JN];omega,qeA (qeA hoa (by decide)) (qhl hwas qku),hst⟩,by simp only;omega⟩
 ·try simp only[decide_eq_false_iff_not]at hb1
  have hin:i=ws.length:=by omega
  rw[hin,J8]at hg;have hRo:Wy form bits all=Lib.trimSpace out:=by rw[hR,hg];rfl
  refine QI ?_;change Awp _ _ _ _ _ _ _;refine awp_rseq [6] (by rfl) fun K hK=>?_;simp+decide only[ev,putD,VG,VH,Ka,Kb,↓qg,qd];refine QS (V:= .str (Lib.trimSpace out)) (by rfl) (by rfl) (qnJ wz ha _ out (by omega) hoa) ?_;simp+decide only[qa,ev,putD,VG,VH,VI,Ka,Kb,↓qf,qc];apply hK;clear hK K;refine Qn ?_;refine Qu (qJ (qO)) ?_;simp+decide only[VH,if_true,Qg];rw[hRo];exact⟨_,Vh _,rfl,Vi hkw⟩
theorem qjy(wz:World)(ha:Asp wz)(h:AHeap)(form:Str)(hf:form.length<=500)(hfa:asciiB form=true):
 ACall Tryz.prog wz 83 [.str form] h (fun r h'=>r= .str (Yr form)/\AM.Sub h h'):=by
 have hR:Yr form=if form=[84,72,82,79,85,71,72]then qdn else if form=[84,79,32,80,82,79,67,69,69,68,32,84,79]then TOw else if form=[82,69,67,79,82,68]then[]else Wy form 0 false:=rfl
 refine Ql (n:=11) (rs:=[.tmp 2]) Tryz.func83 rfl rfl rfl rfl (VF rfl) ?_;simp only[Qm];refine awp_rseq [0] (by rfl) fun K hK=>?_;simp+decide only[qa,ev,qK,qG,putD,VG,VI,Ka,Kb,↓qf,qc];apply hK;clear hK K;refine qF ?_;refine awp_rseq [0,4] (by rfl) fun K hK=>?_;simp+decide only[qa,ev,qK,qG,putD,VG,VH,VI,Ka,Kb,↓qg,qd,↓qo,qh,Qy,cond_false,Qp,XP];apply hK;clear hK K;refine qM (b:=_) rfl (fun hb1=>?_) (fun hb1=>?_)
 ·try simp only[decide_eq_true_eq]at hb1
  refine awp_rseq [2] (by rfl) fun K hK=>?_;simp+decide only[qa,ev,qK,qG,putD,VG,VI,Ka,Kb,↓qf,qc];apply hK;clear hK K;refine Qn ?_;try simp only[QM]
  refine Xf h zqC (qJ (qO)) ?_;simp+decide only[VH,if_true,Qg];rw[hR,if_pos hb1];exact⟨rfl,Vh _⟩
 ·try simp only[decide_eq_false_iff_not]at hb1
  rw[if_neg hb1]at hR;refine qV ?_;change Awp _ _ _ _ _ _ _;refine qF ?_;refine awp_rseq [0,6] (by rfl) fun K hK=>?_;simp+decide only[qa,ev,qK,qG,putD,VG,VH,VI,Ka,Kb,↓qg,qd,↓qo,qh,Qy,cond_false,Qp,XP];apply hK;clear hK K;refine qM (b:=_) rfl (fun hb2=>?_) (fun hb2=>?_)
  ·try simp only[decide_eq_true_eq]at hb2
   refine awp_rseq [2] (by rfl) fun K hK=>?_;simp+decide only[qa,ev,qK,qG,putD,VG,VI,Ka,Kb,↓qf,qc];apply hK;clear hK K;refine Qn ?_;try simp only[QM]
   refine Xf h zqC (qJ (qO)) ?_;simp+decide only[VH,if_true,Qg];rw[hR,if_pos hb2];exact⟨rfl,Vh _⟩
  ·try simp only[decide_eq_false_iff_not]at hb2
   rw[if_neg hb2]at hR;refine qV ?_;change Awp _ _ _ _ _ _ _;refine qF ?_;refine awp_rseq [0,8] (by rfl) fun K hK=>?_;simp+decide only[qa,ev,qK,qG,putD,VG,VH,VI,Ka,Kb,↓qg,qd,↓qo,qh,Qy,cond_false,Qp,XP];apply hK;clear hK K;refine qM (b:=_) rfl (fun hb3=>?_) (fun hb3=>?_)
   ·try simp only[decide_eq_true_eq]at hb3
    refine awp_rseq [2] (by rfl) fun K hK=>?_;simp+decide only[qa,ev,qK,qG,putD,VG,VI,Ka,Kb,↓qf,qc];apply hK;clear hK K;refine Qn ?_;try simp only[QM]
    refine Xf h zqC (qJ (qO)) ?_;simp+decide only[VH,if_true,Qg];rw[hR,if_pos hb3];exact⟨rfl,Vh _⟩
   ·try simp only[decide_eq_false_iff_not]at hb3
    rw[if_neg hb3]at hR;refine qV ?_;change Awp _ _ _ _ _ _ _;refine awp_rseq [2] (by rfl) fun K hK=>?_;simp+decide only[ev,putD,VG,VH,Ka,Kb,↓qg,qd];refine qY (by rfl) (by rfl) (qmm wz ha _ form 0 false hf hfa) fun x7q1 h7q1 hx7q1=>?_;obtain⟨rfl,hs7⟩:=hx7q1;have hs_h7q1:Sub h h7q1:=Ba zqC hs7;have hr_h7q1:=hs_h7q1;simp+decide only[qa,ev,putD,VG,VH,VI,Ka,Kb,↓qf,qc];apply hK;clear hK K;refine Qn ?_;refine Qu (qJ (qO)) ?_;simp+decide only[VH,if_true,Qg];rw[hR];exact⟨_,Vh _,rfl,hs7⟩
end Go.Proofs.YtgiadjbiimkbiaaGreatDoor
