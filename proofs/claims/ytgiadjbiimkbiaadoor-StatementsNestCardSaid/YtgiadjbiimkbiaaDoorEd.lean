/-
  Texts of this proof, joined: SoC, SoD, SoE, SoF, SoG, SoH, SoI, SoJ, SoK.
  Conditions: none.
-/
import Derived.Test.YtgiadjbiimkbiaaDoorEc
set_option linter.unusedSimpArgs false
set_option linter.unnecessarySimpa false
set_option linter.unusedVariables false
open Nat renaming eq_zero_or_pos->BD,zero_mul->K7,add_zero->K6,le_of_ble_eq_true->Vy,zero_add->Jp,zero_le->Jq,le_refl->KL,le_trans->Vb,le_of_lt->BQ
open List renaming eq_nil_of_length_eq_zero->Kg,getD->Ko,getElem?_eq_getElem->JB,getElem_mem->Vr,contains_cons->VC,contains_nil->VD,set_cons_zero->VF,set_cons_succ->Kj,getD_cons_zero->VG,getD_cons_succ->Kn,length_cons->KX,length_nil->JD,length_map->Jn,append_nil->JE,map_cons->Ke,map_nil->Vh,drop_eq_getElem_cons->J9,any_cons->BF,drop_length->J8,length_pos_iff->V5,take_succ_cons->Ki,take_zero->Bj,length_append->Jb,length_singleton->JF,flatten_append->Bo,mem_append->JS,mem_singleton->V4,drop_succ_cons->Ba,drop_zero->Vk,take_nil->BH,drop_nil->BI,map_append->VZ,cons_append->Kh,nil_append->Jd,getLastD_eq_getLast?->BN,append_eq->BO
open Go.AM.AHeap renaming set_none->V7,ne_some->BG,set_set->Bi,set_same->Vf
open Go.AM.Slots renaming put->Vz,get->VA,keep->VB
open Go.AM.AVal renaming cells->VE
open Bool renaming and_true->J4,and_eq_true->Ky,or_eq_true->JH,not_eq_true'->Jh,and_eq_false_iff->VH,or_eq_false_iff->VI,not_eq_false'->VJ,true_eq->VV,false_eq->VW,not_not->VK,not_false->VL,not_true->VM,and_false->VN,true_and->VO,false_and->VP,or_true->VQ,or_false->VS,true_or->VT,false_or->VU,not_eq_true->BM
open Go.AM.Sub renaming set->V8,refl->Vg,trans->Bq,none->Bh
open Int renaming toNat_zero->Bt,toNat_natCast->VX
open Go.AM.IsL renaming own->V9
open Go.AM.Awp renaming forget->BJ,keep->JP
open Go.AM.Sep renaming fold->BK
open Go.Proofs.YtgiadjbiimkbiaaDoor.StsV renaming mono->BL
open Go.Stm.BodyR renaming bare->BP
namespace Go.Proofs.YtgiadjbiimkbiaaDoor
open Go.AM
open Go.Proofs
open Go.Col (Str FaultC okF)
open Go.Tok (TokC)
open Go.Stm
open Go.RowKit (Below)
set_option maxRecDepth 100000
def qoU(l:List PhrC):Prop:=l≠[]/\l.length<=1000000/\∀p∈l,p.toks.length<=1000000
theorem qrM(o:Option Nat):operV o= .tuple [.int .i64 ((o.getD 0:Nat):Int), .int .i64 (if o.isSome=true then 0 else 4)]:=by cases o<;>rfl
set_option maxHeartbeats 2000000 in
theorem qme(w0:World)(ha:Asp w0)(h:AHeap)(vb:Str)(ln cl:Int)(pv bv:AVal)(l:List PhrC)(hp:PhV w0 h pv l)(hbl:bv.live=true)(hbs:bv.scal=true)(hbc:bv.cells=[bv])(hf:qoU l):
 ACall Tryd.prog w0 82 [.agg [.str vb, .int .i64 ln, .int .i64 cl,pv,bv]] h (fun r h'=>r= .bool (qag QY l)/\Sub h h'):=by
 have hpl:=hp.live;have hps:=hp.scal;have hpc:=hp.cells;obtain⟨hf1,hf2,hf3⟩:=hf;have hR:qag QY l=if firstT l=[]then true else(qhp l qnZ).isSome && (!(qhp l qmv).isSome && decide (qdb QY (firstT l)=some (firstT l).length)):=rfl
 obtain⟨R,hRR⟩:∃R,R=qag QY l:=⟨_,rfl⟩
 rw[<-hRR]at hR|-
 obtain⟨qs,hqe,hq,hqt⟩:=id hp;have hqn:0<qs.length:=by
  rcases BD qs.length with z|z
  ·exfalso;apply hf1;rw[hqe,Kg z];rfl
  ·exact z
 obtain⟨q,hq0⟩:∃q,q=qs.getD 0 qeV:=⟨_,rfl⟩
 have hqm:q∈qs:=by rw[hq0,Ko,JB hqn];exact Vr hqn
 have hft:firstT l=q.1.toks:=by
  unfold firstT;rw[hqe,hq0];simp[Ko,hqn]
 have hqv:=hqt q hqm;have hql:=hqv.live;have nq:=Yl hqv;have hqf:q.1.toks.length<=1000000:=hf3 _ (by rw[hqe];exact List.mem_map_of_mem (f:=(·.1)) hqm);rw[hft]at hR;obtain⟨lc,o,c,rfl⟩:=qdw hq hqn;have hq2:=hq;have hq3:∀H,Sub h H->rd w0 H lc o= .str q.1.words/\rd w0 H lc (o+1)=q.2:=fun H hH=>by
  obtain⟨e0,e1⟩:=qfF (hq2.mono hH) hqn;rw[K7,K6,<-hq0]at e0 e1;exact⟨e0,e1⟩
 obtain⟨⟨qw,qt⟩,qv⟩:=q;simp only at hR hqv hql nq hqf hq3;have hpos:((0:Int)<qs.length)=True:=eq_true (by omega);refine Xf (n:=48) (rs:=[.tmp 2]) Tryd.func82 rfl rfl rfl rfl (Vy rfl) ?_;simp only[Xe];refine awp_rseq [1] (by rfl) fun K hK=>?_;refine qcu (by rfl) (by rfl) (by rfl) fun k0q0 hk0q0=>?_;try have hf_0q0:h k0q0=none:=by first|assumption|(simp only[V7]at hk0q0;simp only[hk0q0])
 skip;simp+decide only[qh,qi,qj,qo,ev,qZ,qY,putD,Vz,VA,VB,Ka,VC,VD,Kb,and_true,↓qV,qP,qM,ne_eq,not_false_eq_true,qN,qJ,VE,setAt,VF,Kj,qC,VG,Kn,Jp,Nat.reduceAdd,qF,qG,qI,qf,qK,qa,qz,qd,qE,qc,qA,qg,qH,qy,allLive,J4,tokV,hpl,hbl,hql,nq];repeat (with_reducible refine And.intro ?_ ?_;· first|trivial|omega|(intro hg;simp only[Ky,JH,Jh,VH,VI,VJ,decide_eq_true_eq,decide_eq_false_iff_not,qR]at hg;omega))
 apply hK;clear hK K;obtain⟨-,e1⟩:=hq3 _ (V8 (b:=⟨[.str vb, .int .i64 ln, .int .i64 cl, .slice lc o qs.length c,bv],0⟩) hk0q0);refine awp_rseq [1,3] (by rfl) fun K hK=>?_;simp+decide only[qh,qi,qj,qo,ev,qZ,qY,putD,Vz,VA,VB,Ka,VC,VD,Kb,and_true,↓Qo,Qd,UJ,↓Qu,QM,Qi qfv,↓QV,Ql Tryd.underlying45 qbn,qcJ,Qi qbR,↓qV,qP,qM,ne_eq,not_false_eq_true,qN,qJ,VE,setAt,VF,Kj,qC,VG,Kn,Jp,Nat.reduceAdd,qF,qG,qI,qf,qK,qa,qz,qd,qE,qc,qA,qg,qH,qy,allLive,J4,tokV,hpl,hbl,hql,nq,hpos,e1,Bt,K7,K6];repeat (with_reducible refine And.intro ?_ ?_;· first|trivial|omega|(intro hg;simp only[Ky,JH,Jh,VH,VI,VJ,decide_eq_true_eq,decide_eq_false_iff_not,qR]at hg;omega))
 apply hK;clear hK K;refine Qp ?_;refine awp_rseq [1,3,17] (by rfl) fun K hK=>?_;simp+decide only[qh,qi,qj,qo,ev,qZ,qY,putD,Vz,VA,VB,Ka,VC,VD,Kb,and_true,↓qW,qU,↓XG,Xh,QE Tryd.underlying31,QT Tryd.underlying31,↓Qj,Qa,Qm,cond_false,Qh,ZE,qM,ne_eq,not_false_eq_true,qN,qJ,VE,setAt,VF,Kj,qC,VG,Kn,Jp,Nat.reduceAdd,qF,qG,qI,qf,qK,qa,qz,qd,qE,qc,qA,qg,qH,qy,allLive,J4,tokV,hpl,hbl,hql,nq];repeat (with_reducible refine And.intro ?_ ?_;· first|trivial|omega|(intro hg;simp only[Ky,JH,Jh,VH,VI,VJ,decide_eq_true_eq,decide_eq_false_iff_not,qR]at hg;omega))
 apply hK;clear hK K;refine Qw (b:=_) rfl (fun hb1=>?_) (fun hb1=>?_)
 ·try simp only[decide_eq_true_eq,decide_eq_false_iff_not,Jh,VJ,Ky,VH,JH,VI,VV,VW,reduceCtorEq]at hb1
  rw[if_pos (Kg (by omega))]at hR;refine awp_rseq [2] (by rfl) fun K hK=>?_;simp+decide only[qh,qi,qj,qo,ev,qZ,qY,putD,Vz,VA,VB,Ka,VC,VD,Kb,and_true,↓qV,qP,qM,ne_eq,not_false_eq_true,qN,qJ,VE,setAt,VF,Kj,qC,VG,Kn,Jp,Nat.reduceAdd,qF,qG,qI,qf,qK,qa,qz,qd,qE,qc,qA,qg,qH,qy,allLive,J4,tokV,hpl,hbl,hql,nq];repeat (with_reducible refine And.intro ?_ ?_;· first|trivial|omega|(intro hg;simp only[Ky,JH,Jh,VH,VI,VJ,decide_eq_true_eq,decide_eq_false_iff_not,qR]at hg;omega))
  apply hK;clear hK K;refine Xd ?_;try simp only[QF,Qn]
  refine Xu (Qr (Qv)) ?_;simp+decide only[qh,qi,qj,qo,ev,qZ,qY,putD,Vz,VA,VB,Ka,VC,VD,Kb,and_true,QU,qM,ne_eq,not_false_eq_true,qN,qJ,VE,setAt,VF,Kj,qC,VG,Kn,Jp,Nat.reduceAdd,qF,qG,qI,qf,qK,qa,qz,qd,qE,qc,qA,qg,qH,qy,allLive,J4,tokV,hpl,hbl,hql,nq];rw[hR];exact⟨h,zqB,rfl,Vg _⟩
 ·try simp only[decide_eq_true_eq,decide_eq_false_iff_not,Jh,VJ,Ky,VH,JH,VI,VV,VW,reduceCtorEq]at hb1
  rw[if_neg (fun e=>by rw[e]at hb1;exact hb1 rfl)]at hR;refine QJ ?_;change Awp _ _ _ _ _ _ _;refine awp_rseq [1,3,5] (by rfl) fun K hK=>?_;simp+decide only[qh,qi,qj,qo,ev,qZ,qY,putD,Vz,VA,VB,Ka,VC,VD,Kb,and_true,↓Qu,QM,Xy qgm WJ,qM,ne_eq,not_false_eq_true,qN,qJ,VE,setAt,VF,Kj,qC,VG,Kn,Jp,Nat.reduceAdd,qF,qG,qI,qf,qK,qa,qz,qd,qE,qc,qA,qg,qH,qy,allLive,J4,tokV,hpl,hbl,hql,nq];repeat (with_reducible refine And.intro ?_ ?_;· first|trivial|omega|(intro hg;simp only[Ky,JH,Jh,VH,VI,VJ,decide_eq_true_eq,decide_eq_false_iff_not,qR]at hg;omega))
  refine QN (by rfl) (by rfl) (qsD w0 _ vb qnZ ln cl _ bv l (hp.mono zqB) hbl hbs hbc hf2 hf3) fun x4q1 h4q1 hx4q1=>?_;obtain⟨hs4,rv4,rfl,hrv4⟩:=hx4q1;have hs_h4q1:Sub h h4q1:=Bq zqC hs4;have hr_h4q1:=hs_h4q1;have eb_0q0:=hs4 k0q0 _ zqA;simp+decide only[qh,qi,qj,qo,ev,qZ,qY,putD,Vz,VA,VB,Ka,VC,VD,Kb,and_true,↓qW,qU,↓Zl,XY,Zp,KX,JD,VG,Kn,↓qV,qP,qM,ne_eq,not_false_eq_true,qO w0 eb_0q0,qN,qJ,VE,setAt,VF,Kj,qC,VG,Kn,Jp,Nat.reduceAdd,qF,qG,qI,qf,qK,qa,qz,qd,qE,qc,qA,qg,qH,qy,allLive,J4,tokV,hpl,hbl,hql,nq,hrv4.live];repeat (with_reducible refine And.intro ?_ ?_;· first|trivial|omega|(intro hg;simp only[Ky,JH,Jh,VH,VI,VJ,decide_eq_true_eq,decide_eq_false_iff_not,qR]at hg;omega))
  apply hK;clear hK K;refine awp_rseq [3,5,7] (by rfl) fun K hK=>?_;simp+decide only[qh,qi,qj,qo,ev,qZ,qY,putD,Vz,VA,VB,Ka,VC,VD,Kb,and_true,↓Qu,QM,Xy qgm WJ,qM,ne_eq,not_false_eq_true,qO w0 eb_0q0,qN,qJ,VE,setAt,VF,Kj,qC,VG,Kn,Jp,Nat.reduceAdd,qF,qG,qI,qf,qK,qa,qz,qd,qE,qc,qA,qg,qH,qy,allLive,J4,tokV,hpl,hbl,hql,nq];repeat (with_reducible refine And.intro ?_ ?_;· first|trivial|omega|(intro hg;simp only[Ky,JH,Jh,VH,VI,VJ,decide_eq_true_eq,decide_eq_false_iff_not,qR]at hg;omega))
  refine QN (by rfl) (by rfl) (qsD w0 _ vb qmv ln cl _ bv l (hp.mono zqB) hbl hbs hbc hf2 hf3) fun x5q1 h5q1 hx5q1=>?_;obtain⟨hs5,rv5,rfl,hrv5⟩:=hx5q1;have hs_h5q1:Sub h h5q1:=Bq zqC hs5;have hr_h5q1:Sub h4q1 h5q1:=Bq zqC hs5;have eb_0q0:=hs5 k0q0 _ zqA;simp+decide only[qh,qi,qj,qo,ev,qZ,qY,putD,Vz,VA,VB,Ka,VC,VD,Kb,and_true,↓qW,qU,↓Zl,XY,Zp,KX,JD,VG,Kn,↓qV,qP,qM,ne_eq,not_false_eq_true,qO w0 eb_0q0,qN,qJ,VE,setAt,VF,Kj,qC,VG,Kn,Jp,Nat.reduceAdd,qF,qG,qI,qf,qK,qa,qz,qd,qE,qc,qA,qg,qH,qy,allLive,J4,tokV,hpl,hbl,hql,nq];repeat (with_reducible refine And.intro ?_ ?_;· first|trivial|omega|(intro hg;simp only[Ky,JH,Jh,VH,VI,VJ,decide_eq_true_eq,decide_eq_false_iff_not,qR]at hg;omega))
  apply hK;clear hK K;refine awp_rseq [3,5,7,8,9] (by rfl) fun K hK=>?_;simp+decide only[qh,qi,qj,qo,ev,qZ,qY,putD,Vz,VA,VB,Ka,VC,VD,Kb,and_true,↓qW,qU,qM,ne_eq,not_false_eq_true,qO w0 eb_0q0,qN,qJ,VE,setAt,VF,Kj,qC,VG,Kn,Jp,Nat.reduceAdd,qF,qG,qI,qf,qK,qa,qz,qd,qE,qc,qA,qg,qH,qy,allLive,J4,tokV,hpl,hbl,hql,nq];repeat (with_reducible refine And.intro ?_ ?_;· first|trivial|omega|(intro hg;simp only[Ky,JH,Jh,VH,VI,VJ,decide_eq_true_eq,decide_eq_false_iff_not,qR]at hg;omega))
  refine QN (by rfl) (by rfl) (qpS w0 ha _ qv qt (hqv.mono zqB) hqf) fun x6q1 h6q1 hx6q1=>?_;obtain⟨rfl,hs6⟩:=hx6q1;rw[qrM];have hs_h6q1:Sub h h6q1:=Bq zqC hs6;have hr_h6q1:Sub h5q1 h6q1:=Bq zqC hs6;have eb_0q0:=hs6 k0q0 _ zqA;simp+decide only[qh,qi,qj,qo,ev,qZ,qY,putD,Vz,VA,VB,Ka,VC,VD,Kb,and_true,↓qW,qU,↓Zl,XY,Zp,KX,JD,VG,Kn,↓qV,qP,qM,ne_eq,not_false_eq_true,qO w0 eb_0q0,qN,qJ,VE,setAt,VF,Kj,qC,VG,Kn,Jp,Nat.reduceAdd,qF,qG,qI,qf,qK,qa,qz,qd,qE,qc,qA,qg,qH,qy,allLive,J4,tokV,hpl,hbl,hql,nq];repeat (with_reducible refine And.intro ?_ ?_;· first|trivial|omega|(intro hg;simp only[Ky,JH,Jh,VH,VI,VJ,decide_eq_true_eq,decide_eq_false_iff_not,qR]at hg;omega))
  apply hK;clear hK K;refine awp_rseq [2] (by rfl) fun K hK=>?_;simp+decide only[qh,qi,qj,qo,ev,qZ,qY,putD,Vz,VA,VB,Ka,VC,VD,Kb,and_true,↓qW,qU,↓Zj,agP,Xw,gv,QB,QD,QC,Qs,Qg,Qe,Zk,implies_true,VK,decide_true,decide_false,VL,VM,Qc,Qb,forall_const,false_implies,Qk,Qf,J4,VN,VO,VP,VQ,VS,VT,VU,Xb,Xc,Xa,↓qbP,YB,UD,qei,qek,↓XH,Xj,QO,QH,QG,QA,Xo,Xn,Xm,Xl,QZ,Xk,↓XT,Qa,Qm,cond_false,Zb,Za,Zd,Zc,Qh,ZE,↓qet,Xh,QE Tryd.underlying31,QT Tryd.underlying31,qej,qel,Qz,↓qV,qP,qM,ne_eq,not_false_eq_true,qO w0 eb_0q0,qN,qJ,VE,setAt,VF,Kj,qC,VG,Kn,Jp,Nat.reduceAdd,qF,qG,qI,qf,qK,qa,qz,qd,qE,qc,qA,qg,qH,qy,allLive,J4,tokV,hpl,hbl,hql,nq];try simp(disch:=omega)only[wrap_i64,wrap_u8]
  repeat (with_reducible refine And.intro ?_ ?_;· first|trivial|omega|(intro hg;simp only[Ky,JH,Jh,VH,VI,VJ,decide_eq_true_eq,decide_eq_false_iff_not,qR]at hg;omega))
  apply hK;clear hK K;refine Xd ?_;try simp only[QF,Qn]
  refine Xu (Qr (Qv)) ?_;simp+decide only[qh,qi,qj,qo,ev,qZ,qY,putD,Vz,VA,VB,Ka,VC,VD,Kb,and_true,QU,qM,ne_eq,not_false_eq_true,qO w0 eb_0q0,qN,qJ,VE,setAt,VF,Kj,qC,VG,Kn,Jp,Nat.reduceAdd,qF,qG,qI,qf,qK,qa,qz,qd,qE,qc,qA,qg,qH,qy,allLive,J4,tokV,hpl,hbl,hql,nq];refine⟨h,by assumption,?_,Vg _⟩;rw[hR];congr 1;cases hop:qdb QY qt with
  |none=>simp
  |some n=>
   have e:decide (((some n:Option Nat).getD 0:Int)=(qt.length:Int))=decide (some n=some qt.length):=by
    by_cases z:n=qt.length
    ·subst z;simp
    ·have:(n:Int)≠qt.length:=by omega
     simp[z,this]
   rw[e];simp only[Option.isSome_some,if_true,decide_true,J4,Bool.and_assoc]
def impV:Option Str->AVal
 |some w=> .tuple [.str w, .bool true]
 |none=> .tuple [.str [], .bool false]
theorem qdJ{w0:World}{h:AHeap}{v:AVal}{qs:List (BodC×AVal×AVal)}(ht:IsL w0 h 3 v (qs.map bdC)):∀H:AHeap,YZ Tryd.prog H 46 v=⟨True, .int .i64 qs.length⟩:=by
 intro H;have:=ht.len Tryd.underlying46 H
 rwa [Jn]at this
theorem qbO{w0:World}{h:AHeap}{v:AVal}{qs:List (BodC×AVal×AVal)}(ht:IsL w0 h 3 v (qs.map bdC))(hn:0<qs.length):∃lc o c,v= .slice lc o qs.length c:=by
 obtain⟨lc,o,c,e⟩:=ht.open (fun e=>by rw[List.map_eq_nil_iff]at e;subst e;simp at hn);rw[Jn]at e;exact⟨lc,o,c,e⟩
def qdc:BodC×AVal×AVal:=(([],[],[]), .nilSlice, .nilSlice)
theorem qer{w0:World}{h:AHeap}{lc:AM.Loc}{o:Nat}{c:Cap}{qs:List (BodC×AVal×AVal)}(ht:IsL w0 h 3 (.slice lc o qs.length c) (qs.map bdC)){i:Nat}(hi:i<qs.length):
 rd w0 h lc (o+i*3)= .str (qs.getD i qdc).1.1/\rd w0 h lc (o+i*3+1)=(qs.getD i qdc).2.1/\rd w0 h lc (o+i*3+2)=(qs.getD i qdc).2.2:=by
 have he:=ht.elem (i:=i) (by rw[Jn];exact hi);rw[getD_map qdc hi]at he;simp only[qC,bdC,List.cons.injEq,and_true]at he;exact he
theorem StsV.shape{w0:World}{d:Nat}{h:AHeap}{v:AVal}{l:List StC}(hs:StsV w0 d h v l):v.live=true/\v.scal=true/\v.cells=[v]:=by
 obtain⟨qs,-,a⟩:=hs.isL;exact⟨a.live,a.scal,a.cells⟩
theorem qnH(w0:World)(ha:Asp w0)(h:AHeap)(c:Cur)(pv bv:AVal)(d:Nat)(hp:PhV w0 h pv c.phrases)(hb:BdV w0 (StsV w0 d h) h bv c.bodies)(hbl:c.bodies.length<=1000000)(hf:qoU c.phrases):
 ACall Tryd.prog w0 60 [.agg [.str c.verb, .int .i64 c.line, .int .i64 c.col,pv,bv]] h (fun r h'=>r=impV (Yc QY c)/\Sub h h'):=by
 have hpl:=hp.live;have hps:=hp.scal;have hbl:=hb.live;have hbs:=hb.scal;have hbc:=hb.cells;obtain⟨ql,hql,hqb,hqq⟩:=id hb;have nb:=qdJ hqb;have hR:Yc QY c=if c.bodies≠[]then none else if c.verb=[73,70]then some Wu else if c.verb=[80,69,82,70,79,82,77]/\qag QY c.phrases=true then some []else none:=rfl
 obtain⟨R,hRR⟩:∃R,R=Yc QY c:=⟨_,rfl⟩
 rw[<-hRR]at hR|-
 have hbn:c.bodies=[]↔ql.length=0:=by rw[hql];simp
 refine Xf (n:=18) (rs:=[.tmp 2, .tmp 3]) Tryd.func60 rfl rfl rfl rfl (Vy rfl) ?_;simp only[Xe];refine awp_rseq [1] (by rfl) fun K hK=>?_;refine qcu (by rfl) (by rfl) (by rfl) fun k0q0 hk0q0=>?_;try have hf_0q0:h k0q0=none:=by first|assumption|(simp only[V7]at hk0q0;simp only[hk0q0])
 skip;simp+decide only[qh,qi,qj,qo,ev,qZ,qY,putD,Vz,VA,VB,Ka,VC,VD,Kb,and_true,↓qV,qP,qM,ne_eq,not_false_eq_true,qN,qJ,VE,setAt,VF,Kj,qC,VG,Kn,Jp,Nat.reduceAdd,qF,qG,qI,qf,qK,qa,qz,qd,qE,qc,qA,qg,qH,qy,allLive,J4,tokV,hpl,hbl,nb];repeat (with_reducible refine And.intro ?_ ?_;· first|trivial|omega|(intro hg;simp only[Ky,JH,Jh,VH,VI,VJ,decide_eq_true_eq,decide_eq_false_iff_not,qR]at hg;omega))
 apply hK;clear hK K;refine Qp ?_;refine awp_rseq [1,7] (by rfl) fun K hK=>?_;simp+decide only[qh,qi,qj,qo,ev,qZ,qY,putD,Vz,VA,VB,Ka,VC,VD,Kb,and_true,↓Qo,Qd,WG,↓Qu,QM,Qi qdL,↓XG,Xh,QE Tryd.underlying46,QT Tryd.underlying46,↓Qj,Qa,Qm,cond_false,Qh,UE,qM,ne_eq,not_false_eq_true,qN,qJ,VE,setAt,VF,Kj,qC,VG,Kn,Jp,Nat.reduceAdd,qF,qG,qI,qf,qK,qa,qz,qd,qE,qc,qA,qg,qH,qy,allLive,J4,tokV,hpl,hbl,nb];repeat (with_reducible refine And.intro ?_ ?_;· first|trivial|omega|(intro hg;simp only[Ky,JH,Jh,VH,VI,VJ,decide_eq_true_eq,decide_eq_false_iff_not,qR]at hg;omega))
 apply hK;clear hK K;refine Qw (b:=_) rfl (fun hb1=>?_) (fun hb1=>?_)
 ·try simp only[decide_eq_true_eq,decide_eq_false_iff_not,Jh,VJ,Ky,VH,JH,VI,VV,VW,reduceCtorEq]at hb1
  rw[if_pos (fun e=>by rw[hbn]at e;omega)]at hR;refine awp_rseq [2,3] (by rfl) fun K hK=>?_;simp+decide only[qh,qi,qj,qo,ev,qZ,qY,putD,Vz,VA,VB,Ka,VC,VD,Kb,and_true,↓qV,qP,qM,ne_eq,not_false_eq_true,qN,qJ,VE,setAt,VF,Kj,qC,VG,Kn,Jp,Nat.reduceAdd,qF,qG,qI,qf,qK,qa,qz,qd,qE,qc,qA,qg,qH,qy,allLive,J4,tokV,hpl,hbl,nb];repeat (with_reducible refine And.intro ?_ ?_;· first|trivial|omega|(intro hg;simp only[Ky,JH,Jh,VH,VI,VJ,decide_eq_true_eq,decide_eq_false_iff_not,qR]at hg;omega))
  apply hK;clear hK K;refine Xd ?_;try simp only[QF,Qn]
  refine Xu (Qr (Qr (Qv))) ?_;simp+decide only[qh,qi,qj,qo,ev,qZ,qY,putD,Vz,VA,VB,Ka,VC,VD,Kb,and_true,Yi,qM,ne_eq,not_false_eq_true,qN,qJ,VE,setAt,VF,Kj,qC,VG,Kn,Jp,Nat.reduceAdd,qF,qG,qI,qf,qK,qa,qz,qd,qE,qc,qA,qg,qH,qy,allLive,J4,tokV,hpl,hbl,nb];rw[hR];exact⟨h,zqB,rfl,Vg _⟩
 ·try simp only[decide_eq_true_eq,decide_eq_false_iff_not,Jh,VJ,Ky,VH,JH,VI,VV,VW,reduceCtorEq]at hb1
  rw[if_neg (fun e=>e (hbn.2 (by omega)))]at hR;refine QJ ?_;change Awp _ _ _ _ _ _ _;refine Qp ?_;refine awp_rseq [1,10] (by rfl) fun K hK=>?_;simp+decide only[qh,qi,qj,qo,ev,qZ,qY,putD,Vz,VA,VB,Ka,VC,VD,Kb,and_true,↓Qo,Qd,qcp,↓Qu,QM,Qi ag9,↓Qj,Qa,XK,cond_false,XC,Wv,qM,ne_eq,not_false_eq_true,qN,qJ,VE,setAt,VF,Kj,qC,VG,Kn,Jp,Nat.reduceAdd,qF,qG,qI,qf,qK,qa,qz,qd,qE,qc,qA,qg,qH,qy,allLive,J4,tokV,hpl,hbl,nb];repeat (with_reducible refine And.intro ?_ ?_;· first|trivial|omega|(intro hg;simp only[Ky,JH,Jh,VH,VI,VJ,decide_eq_true_eq,decide_eq_false_iff_not,qR]at hg;omega))
  apply hK;clear hK K;refine Qw (b:=_) rfl (fun hb2=>?_) (fun hb2=>?_)
  ·try simp only[decide_eq_true_eq,decide_eq_false_iff_not,Jh,VJ,Ky,VH,JH,VI,VV,VW,reduceCtorEq]at hb2
   rw[if_pos hb2]at hR;refine awp_rseq [2,3] (by rfl) fun K hK=>?_;simp+decide only[qh,qi,qj,qo,ev,qZ,qY,putD,Vz,VA,VB,Ka,VC,VD,Kb,and_true,↓qV,qP,qM,ne_eq,not_false_eq_true,qN,qJ,VE,setAt,VF,Kj,qC,VG,Kn,Jp,Nat.reduceAdd,qF,qG,qI,qf,qK,qa,qz,qd,qE,qc,qA,qg,qH,qy,allLive,J4,tokV,hpl,hbl,nb];repeat (with_reducible refine And.intro ?_ ?_;· first|trivial|omega|(intro hg;simp only[Ky,JH,Jh,VH,VI,VJ,decide_eq_true_eq,decide_eq_false_iff_not,qR]at hg;omega))
   apply hK;clear hK K;refine Xd ?_;try simp only[QF,Qn]
   refine Xu (Qr (Qr (Qv))) ?_;simp+decide only[qh,qi,qj,qo,ev,qZ,qY,putD,Vz,VA,VB,Ka,VC,VD,Kb,and_true,Yi,qM,ne_eq,not_false_eq_true,qN,qJ,VE,setAt,VF,Kj,qC,VG,Kn,Jp,Nat.reduceAdd,qF,qG,qI,qf,qK,qa,qz,qd,qE,qc,qA,qg,qH,qy,allLive,J4,tokV,hpl,hbl,nb];rw[hR];exact⟨h,zqB,rfl,Vg _⟩
  ·try simp only[decide_eq_true_eq,decide_eq_false_iff_not,Jh,VJ,Ky,VH,JH,VI,VV,VW,reduceCtorEq]at hb2
   rw[if_neg hb2]at hR;obtain⟨pb,hpb⟩:∃pb,decide (c.verb=[80,69,82,70,79,82,77])=pb:=⟨_,rfl⟩
   refine QJ ?_;change Awp _ _ _ _ _ _ _;refine awp_rseq [2,3] (by rfl) fun K hK=>?_;simp+decide only[qh,qi,qj,qo,ev,qZ,qY,putD,Vz,VA,VB,Ka,VC,VD,Kb,and_true,↓Qo,Qd,qcp,↓Qu,QM,Qi ag9,↓Qj,Qa,XK,cond_false,XC,Wv,↓qW,qU,↓ZG,Zt,Wn,ZP,ZO,ZN,ZM,ZL,ZK,agP,Xw,gv,QB,QD,QC,Qs,Qg,Qe,Zk,implies_true,VK,decide_true,decide_false,VL,VM,Qc,Qb,forall_const,false_implies,Qk,Qf,J4,VN,VO,VP,VQ,VS,VT,VU,Xy qgm WJ,ZI,ZJ,Xb,Xc,Xa,qM,ne_eq,not_false_eq_true,qN,qJ,VE,setAt,VF,Kj,qC,VG,Kn,Jp,Nat.reduceAdd,qF,qG,qI,qf,qK,qa,qz,qd,qE,qc,qA,qg,qH,qy,allLive,J4,tokV,hpl,hbl,nb,hpb];repeat (with_reducible refine And.intro ?_ ?_;· first|trivial|omega|(intro hg;simp only[Ky,JH,Jh,VH,VI,VJ,decide_eq_true_eq,decide_eq_false_iff_not,qR]at hg;omega))
   refine qao (g:= .bool pb) (V:= .bool (qag QY c.phrases)) (f:=82) (cap:=[]) (xs:=[.agg [.str c.verb, .int .i64 c.line, .int .i64 c.col,pv,bv]]) (by rfl) (by rfl) (fun hg=>⟨rfl,by
    have hg':pb=true:=by rwa [Qg]at hg
    simp+decide only[evs,ev,putD,Vz,VA,Ka,hg',Qc,JE,Ke,Vh]⟩) (fun hg=>qme w0 ha _ c.verb c.line c.col pv bv c.phrases (hp.mono zqB) hbl hbs hbc hf) fun h5q5 hs5=>?_
   have hs_h5q5:Sub h h5q5:=Bq zqC hs5;have hr_h5q5:=hs_h5q5;have eb_0q0:=hs5 k0q0 _ zqA;simp+decide only[qh,qi,qj,qo,ev,qZ,qY,putD,Vz,VA,VB,Ka,VC,VD,Kb,and_true,gv,QB,Qg,Qe,Qs,↓XH,Xj,QO,QH,QG,QA,Xo,Xn,Xm,Xl,QZ,Xk,↓qV,qP,qM,ne_eq,not_false_eq_true,qO w0 eb_0q0,qN,qJ,VE,setAt,VF,Kj,qC,VG,Kn,Jp,Nat.reduceAdd,qF,qG,qI,qf,qK,qa,qz,qd,qE,qc,qA,qg,qH,qy,allLive,J4,tokV,hpl,hbl,nb,hpb];repeat (with_reducible refine And.intro ?_ ?_;· first|trivial|omega|(intro hg;simp only[Ky,JH,Jh,VH,VI,VJ,decide_eq_true_eq,decide_eq_false_iff_not,qR]at hg;omega))
   apply hK;clear hK K;refine Xd ?_;try simp only[QF,Qn]
   refine Xu (Qr (Qr (Qv))) ?_;simp+decide only[qh,qi,qj,qo,ev,qZ,qY,putD,Vz,VA,VB,Ka,VC,VD,Kb,and_true,Yi,qM,ne_eq,not_false_eq_true,qO w0 eb_0q0,qN,qJ,VE,setAt,VF,Kj,qC,VG,Kn,Jp,Nat.reduceAdd,qF,qG,qI,qf,qK,qa,qz,qd,qE,qc,qA,qg,qH,qy,allLive,J4,tokV,hpl,hbl,nb];refine⟨h,by assumption,?_,Vg _⟩;rw[hR];by_cases z:c.verb=[80,69,82,70,79,82,77]/\qag QY c.phrases=true
   ·rw[if_pos z,<-hpb,decide_eq_true z.1,z.2];rfl
   ·rw[if_neg z]
    have:(pb && qag QY c.phrases)=false:=by
     rw[Bool.eq_false_iff];intro q;rw[Ky]at q;exact z ⟨of_decide_eq_true (hpb.trans q.1),q.2⟩
    rw[this];rfl
structure WhG where
 j:Nat
 b:Bool
 H:AHeap
set_option maxHeartbeats 4000000 in
theorem c_whole(w0:World)(ha:Asp w0)(h:AHeap)(c:Cur)(pv bv:AVal)(d:Nat)(closed:Bool)(hp:PhV w0 h pv c.phrases)(hb:BdV w0 (StsV w0 d h) h bv c.bodies)(hbn:c.bodies.length<=1000000)(hf:qoU c.phrases):
 ACall Tryd.prog w0 63 [.agg [.str c.verb, .int .i64 c.line, .int .i64 c.col,pv,bv], .bool closed] h (fun r h'=>r= .bool (qca QY c closed)/\Sub h h'):=by
 have hpl:=hp.live;have hps:=hp.scal;have hbl:=hb.live;have hbs:=hb.scal;have hbc:=hb.cells;obtain⟨ql,hql,hqb,hqq⟩:=id hb;rw[hql,Jn]at hbn;have nb:=qdJ hqb;have hR:qca QY c closed=if c.verb=[73,70]then !decide (firstT c.phrases=[]) && (match c.bodies with|b::_=>decide (b.1=[84,72,69,78])|[]=>false)
  else if c.verb=[69,86,65,76,85,65,84,69]\/c.verb=[83,69,65,82,67,72]then c.bodies.any fun b=>decide (b.1=[87,72,69,78])
  else if c.verb=[80,69,82,70,79,82,77]then decide (qag QY c.phrases= !decide (c.bodies=[])) && (closed||decide (c.bodies=[]))
  else true:=rfl
 obtain⟨R,hRR⟩:∃R,R=qca QY c closed:=⟨_,rfl⟩
 rw[<-hRR]at hR|-
 have hbn0:c.bodies=[]↔ql.length=0:=by rw[hql];simp
 obtain⟨A,hA⟩:∃A,A=c.bodies.any fun b=>decide (b.1=[87,72,69,78]):=⟨_,rfl⟩
 rw[<-hA]at hR;rw[hql]at hA;refine Xf (n:=69) (rs:=[.tmp 4]) Tryd.func63 rfl rfl rfl rfl (Vy rfl) ?_;simp only[Xe];refine awp_rseq [1,2] (by rfl) fun K hK=>?_;refine qcu (by rfl) (by rfl) (by rfl) fun k0q0 hk0q0=>?_;try have hf_0q0:h k0q0=none:=by first|assumption|(simp only[V7]at hk0q0;simp only[hk0q0])
 skip;simp+decide only[qh,qi,qj,qo,ev,qZ,qY,putD,Vz,VA,VB,Ka,VC,VD,Kb,and_true,↓qV,qP,qM,ne_eq,not_false_eq_true,qN,qJ,VE,setAt,VF,Kj,qC,VG,Kn,Jp,Nat.reduceAdd,qF,qG,qI,qf,qK,qa,qz,qd,qE,qc,qA,qg,qH,qy,allLive,J4,tokV,hpl,hbl,nb];repeat (with_reducible refine And.intro ?_ ?_;· first|trivial|omega|(intro hg;simp only[Ky,JH,Jh,VH,VI,VJ,decide_eq_true_eq,decide_eq_false_iff_not,qR]at hg;omega))
 apply hK;clear hK K;refine awp_rseq [1,2,5] (by rfl) fun K hK=>?_;simp+decide only[qh,qi,qj,qo,ev,qZ,qY,putD,Vz,VA,VB,Ka,VC,VD,Kb,and_true,↓qV,qP,qM,ne_eq,not_false_eq_true,qN,qJ,VE,setAt,VF,Kj,qC,VG,Kn,Jp,Nat.reduceAdd,qF,qG,qI,qf,qK,qa,qz,qd,qE,qc,qA,qg,qH,qy,allLive,J4,tokV,hpl,hbl,nb];repeat (with_reducible refine And.intro ?_ ?_;· first|trivial|omega|(intro hg;simp only[Ky,JH,Jh,VH,VI,VJ,decide_eq_true_eq,decide_eq_false_iff_not,qR]at hg;omega))
 apply hK;clear hK K;refine Qp ?_;refine awp_rseq [1,2,5,9,10,11] (by rfl) fun K hK=>?_;simp+decide only[qh,qi,qj,qo,ev,qZ,qY,putD,Vz,VA,VB,Ka,VC,VD,Kb,and_true,↓Qo,Qd,WG,↓Qu,QM,Qi qdL,↓XG,Xh,QE Tryd.underlying46,QT Tryd.underlying46,↓qW,qU,qM,ne_eq,not_false_eq_true,qN,qJ,VE,setAt,VF,Kj,qC,VG,Kn,Jp,Nat.reduceAdd,qF,qG,qI,qf,qK,qa,qz,qd,qE,qc,qA,qg,qH,qy,allLive,J4,tokV,hpl,hbl,nb];repeat (with_reducible refine And.intro ?_ ?_;· first|trivial|omega|(intro hg;simp only[Ky,JH,Jh,VH,VI,VJ,decide_eq_true_eq,decide_eq_false_iff_not,qR]at hg;omega))
 apply hK;clear hK K;refine QL ?_;refine XI [1,2,5,9,10,11] (fun g:WhG=>[(1, .bool closed),(2, .ptr (.own k0q0) 0),(5, .bool g.b),(9,bv),(10, .int .i64 ql.length),(11, .int .i64 g.j)]) (fun g:WhG=>g.H) (fun g:WhG=>Sub h g.H/\g.H k0q0=some ⟨[.str c.verb, .int .i64 c.line, .int .i64 c.col,pv,bv],0⟩/\g.j<=ql.length/\A=(g.b||((ql.drop g.j).map (·.1)).any fun b=>decide (b.1=[87,72,69,78]))) (fun g:WhG=>ql.length-g.j) ⟨0,false,_⟩ (by rfl) (Vg _) ⟨zqB,zqA,Jq _,hA⟩ ?_;rintro⟨j,b,H⟩ ⟨hs_H,eb_0q0,hj,hg⟩;simp only at hs_H eb_0q0 hj hg|-
 refine awp_rseq [1,2,5,9,10,11,12] (by rfl) fun K hK=>?_;simp+decide only[qh,qi,qj,qo,ev,qZ,qY,putD,Vz,VA,VB,Ka,VC,VD,Kb,and_true,↓Qj,Qa,Qz,cond_false,Qh,Zo,qM,ne_eq,not_false_eq_true,qO w0 eb_0q0,qN,qJ,VE,setAt,VF,Kj,qC,VG,Kn,Jp,Nat.reduceAdd,qF,qG,qI,qf,qK,qa,qz,qd,qE,qc,qA,qg,qH,qy,allLive,J4,tokV,hpl,hbl,nb];repeat (with_reducible refine And.intro ?_ ?_;· first|trivial|omega|(intro hg;simp only[Ky,JH,Jh,VH,VI,VJ,decide_eq_true_eq,decide_eq_false_iff_not,qR]at hg;omega))
 apply hK;clear hK K;refine Qp (Qw (b:=_) rfl (fun hb1=>?_) (fun hb1=>?_))
 ·try simp only[decide_eq_true_eq,decide_eq_false_iff_not,Jh,VJ,Ky,VH,JH,VI,VV,VW,reduceCtorEq]at hb1
  have hj':j<ql.length:=by omega
  obtain⟨q,hqe⟩:∃q,q=ql.getD j qdc:=⟨_,rfl⟩
  have hqm:q∈ql:=by rw[hqe,Ko,JB hj'];exact Vr hj'
  obtain⟨lc,o,cc,hpe⟩:=qbO hqb (by omega);have hq2:=hqb.mono hs_H;rw[hpe]at hq2;obtain⟨e0,e1,e2⟩:=qer hq2 hj';rw[<-hqe]at e0 e1 e2;obtain⟨hqt,hqs⟩:=hqq q hqm;have hl1:=hqt.live;have hs1:=hqt.scal;have hc1:=hqt.cells;obtain⟨hl2,hs2,hc2⟩:=hqs.shape;have hst:A=(b||decide (q.1.1=[87,72,69,78])||((ql.drop (j+1)).map (·.1)).any fun b=>decide (b.1=[87,72,69,78])):=by
   rw[hg,J9 hj',Ke,BF,<-Bool.or_assoc];have:ql[j]=q:=by rw[hqe,Ko,JB hj'];rfl
   rw[this]
  obtain⟨⟨qw,qt,qL⟩,qtv,qlv⟩:=q;simp only at e0 e1 e2 hl1 hs1 hc1 hl2 hs2 hc2 hst;have hwj:IntKind.i64.wrap ((j:Int)+1)=((j+1:Nat):Int):=by rw[wrap_i64 (by omega) (by omega)];omega
  refine QJ ?_;change Awp _ _ _ _ _ _ _;refine Qp ?_;refine QL ?_;refine awp_rseq [1,2,5,7,9,10,11] (by rfl) fun K hK=>?_;simp+decide only[qh,qi,qj,qo,ev,qZ,qY,putD,Vz,VA,VB,Ka,VC,VD,Kb,and_true,↓QV,QM,Ql Tryd.underlying46 UW,↓Qu,Xy qmp UW,qM,ne_eq,not_false_eq_true,qO w0 eb_0q0,qN,qJ,VE,setAt,VF,Kj,qC,VG,Kn,Jp,Nat.reduceAdd,qF,qG,qI,qf,qK,qa,qz,qd,qE,qc,qA,qg,qH,qy,allLive,J4,tokV,hpl,hbl,nb,hpe,e0,e1,e2,hl1,hl2,VO,VX,K6];repeat (with_reducible refine And.intro ?_ ?_;· first|trivial|omega|(intro hg;simp only[Ky,JH,Jh,VH,VI,VJ,decide_eq_true_eq,decide_eq_false_iff_not,qR]at hg;omega))
  refine XL qjZ (cs:=[.str [], .nilSlice, .nilSlice]) (by rfl) fun k4q2 hk4q2=>?_;have hn_4q2:H k4q2=none:=by first|assumption|(simp only[V7]at hk4q2;simp only[hk4q2])
  have hf_4q2:h k4q2=none:=Bh hs_H hn_4q2;have ne_4q2_0q0:k4q2≠k0q0:=BG hn_4q2 eb_0q0;refine QR (by rfl) (by rfl) zqA UW (by rfl) (by rfl) zqD (Jq _) (by first|rfl|(simp+decide only[ev,putD,Vz,VA,Ka,VE,XR,J4,VO,hs1,hs2,qaa,UZ,WH])) ?_;simp only[Bi,setAt,VE,VF,Kj,Jp,Nat.reduceAdd];simp+decide only[qh,qi,qj,qo,ev,qZ,qY,putD,Vz,VA,VB,Ka,VC,VD,Kb,and_true,qM,ne_eq,not_false_eq_true,ne_4q2_0q0,ne_4q2_0q0.symm,qO w0 eb_0q0,qN,qJ,VE,setAt,VF,Kj,qC,VG,Kn,Jp,Nat.reduceAdd,qF,qG,qI,qf,qK,qa,qz,qd,qE,qc,qA,qg,qH,qy,allLive,J4,tokV,hpl,hbl,nb,hpe,e0,e1,e2,hl1,hl2,VO,VX,K6];repeat (with_reducible refine And.intro ?_ ?_;· first|trivial|omega|(intro hg;simp only[Ky,JH,Jh,VH,VI,VJ,decide_eq_true_eq,decide_eq_false_iff_not,qR]at hg;omega))
  apply hK;clear hK K;refine XZ [1,2,5,9,10,11] (by rfl) ?_;simp+decide only[qh,qi,qj,qo,ev,qZ,qY,putD,Vz,VA,VB,Ka,VC,VD,Kb,and_true,↓qW,qU,↓XW,Qd,agP,Xw,gv,QB,QD,QC,Qs,Qg,Qe,Zk,implies_true,VK,decide_true,decide_false,VL,VM,Qc,Qb,forall_const,false_implies,Qk,Qf,J4,VN,VO,VP,VQ,VS,VT,VU,qgP,XN,XO,Xb,Xc,Xa,↓ZG,QM,Zt,Wn,ZP,ZO,ZN,ZM,ZL,ZK,Qi ag9,ZI,ZJ,↓XT,Qa,XK,cond_false,Zb,Za,Zd,Zc,XC,Wv,↓XH,Xj,QO,QH,QG,QA,Xo,Xn,Xm,Xl,QZ,Xk,↓qV,qP,qM,ne_eq,not_false_eq_true,ne_4q2_0q0,ne_4q2_0q0.symm,qO w0 eb_0q0,qN,qJ,VE,setAt,VF,Kj,qC,VG,Kn,Jp,Nat.reduceAdd,qF,qG,qI,qf,qK,qa,qz,qd,qE,qc,qA,qg,qH,qy,allLive,J4,tokV,hpl,hbl,nb];repeat (with_reducible refine And.intro ?_ ?_;· first|trivial|omega|(intro hg;simp only[Ky,JH,Jh,VH,VI,VJ,decide_eq_true_eq,decide_eq_false_iff_not,qR]at hg;omega))
  change Awp _ _ _ _ _ _ _;refine XZ [1,2,5,9,10,11] (by rfl) ?_;simp+decide only[qh,qi,qj,qo,ev,qZ,qY,putD,Vz,VA,VB,Ka,VC,VD,Kb,and_true,↓Qj,Qa,Qm,cond_false,Qh,XM,↓qW,qU,qM,ne_eq,not_false_eq_true,ne_4q2_0q0,ne_4q2_0q0.symm,qO w0 eb_0q0,qN,qJ,VE,setAt,VF,Kj,qC,VG,Kn,Jp,Nat.reduceAdd,qF,qG,qI,qf,qK,qa,qz,qd,qE,qc,qA,qg,qH,qy,allLive,J4,tokV,hpl,hbl,nb,hwj];try simp(disch:=omega)only[wrap_i64,wrap_u8]
  repeat (with_reducible refine And.intro ?_ ?_;· first|trivial|omega|(intro hg;simp only[Ky,JH,Jh,VH,VI,VJ,decide_eq_true_eq,decide_eq_false_iff_not,qR]at hg;omega))
  try simp only[QK,Qt]
  exact⟨⟨j+1,_,_⟩,by rw[hpe];rfl,Vg _,⟨zqB,zqA,hj',hst⟩,by simp only;omega⟩
 ·try simp only[decide_eq_true_eq,decide_eq_false_iff_not,Jh,VJ,Ky,VH,JH,VI,VV,VW,reduceCtorEq]at hb1
  have hjn:j=ql.length:=by omega
  have hbA:b=A:=by rw[hg,hjn,J8];simp
  clear hg;refine XJ ?_;change Awp _ _ _ _ _ _ _;refine Qp ?_;refine awp_rseq [1,2,5,23] (by rfl) fun K hK=>?_;simp+decide only[qh,qi,qj,qo,ev,qZ,qY,putD,Vz,VA,VB,Ka,VC,VD,Kb,and_true,↓Qo,Qd,qcp,↓Qu,QM,Qi ag9,qM,ne_eq,not_false_eq_true,qO w0 eb_0q0,qN,qJ,VE,setAt,VF,Kj,qC,VG,Kn,Jp,Nat.reduceAdd,qF,qG,qI,qf,qK,qa,qz,qd,qE,qc,qA,qg,qH,qy,allLive,J4,tokV,hpl,hbl,nb];repeat (with_reducible refine And.intro ?_ ?_;· first|trivial|omega|(intro hg;simp only[Ky,JH,Jh,VH,VI,VJ,decide_eq_true_eq,decide_eq_false_iff_not,qR]at hg;omega))
  apply hK;clear hK K;refine QL ?_;refine awp_rseq [1,2,5,23,24] (by rfl) fun K hK=>?_;simp+decide only[qh,qi,qj,qo,ev,qZ,qY,putD,Vz,VA,VB,Ka,VC,VD,Kb,and_true,↓Qj,Qa,XK,cond_false,XC,Wv,↓qV,qP,qM,ne_eq,not_false_eq_true,qO w0 eb_0q0,qN,qJ,VE,setAt,VF,Kj,qC,VG,Kn,Jp,Nat.reduceAdd,qF,qG,qI,qf,qK,qa,qz,qd,qE,qc,qA,qg,qH,qy,allLive,J4,tokV,hpl,hbl,nb];repeat (with_reducible refine And.intro ?_ ?_;· first|trivial|omega|(intro hg;simp only[Ky,JH,Jh,VH,VI,VJ,decide_eq_true_eq,decide_eq_false_iff_not,qR]at hg;omega))
  apply hK;clear hK K;refine Qw (b:=_) rfl (fun hb2=>?_) (fun hb2=>?_)
  ·try simp only[decide_eq_true_eq,decide_eq_false_iff_not,Jh,VJ,Ky,VH,JH,VI,VV,VW,reduceCtorEq]at hb2
   rw[if_pos hb2]at hR;obtain⟨qs,hqe,hq,hqt⟩:=id hp;have hqn:0<qs.length:=by
    rcases BD qs.length with z|z
    ·exfalso;apply hf.1;rw[hqe,Kg z];rfl
    ·exact z
   obtain⟨q,hq0⟩:∃q,q=qs.getD 0 qeV:=⟨_,rfl⟩
   have hqm:q∈qs:=by rw[hq0,Ko,JB hqn];exact Vr hqn
   have hft:firstT c.phrases=q.1.toks:=by
    unfold firstT;rw[hqe,hq0];simp[Ko,hqn]
   have hqv:=hqt q hqm;have hqvl:=hqv.live;have nq:=Yl hqv;rw[hft]at hR;obtain⟨lc,o,cc,hpe⟩:=qdw hq hqn;have hq2:=hq.mono hs_H;rw[hpe]at hq2;obtain⟨-,e1⟩:=qfF hq2 hqn;rw[K7,K6,<-hq0]at e1;have hpos:((0:Int)<qs.length)=True:=eq_true (by omega);have mcase:(∃(lb:AM.Loc) (ob:Nat) (cb:Cap),bv=bv/\decide ((0:Int)<q.1.toks.length)=false/\True/\True/\True/\R=false)\/
    (∃(lb:AM.Loc) (ob:Nat) (cb:Cap),bv=bv/\decide ((0:Int)<q.1.toks.length)=true/\decide ((0:Int)<ql.length)=false/\True/\True/\R=false)\/
    (∃(lb:AM.Loc) (ob:Nat) (cb:Cap),bv= .slice lb ob ql.length cb/\decide ((0:Int)<q.1.toks.length)=true/\decide ((0:Int)<ql.length)=true/\((0:Int)<ql.length)=True/\rd w0 H lb ob= .str (ql.getD 0 qdc).1.1/\R=decide ((ql.getD 0 qdc).1.1=[84,72,69,78])):=by
    by_cases z1:q.1.toks=[]
    ·exact .inl ⟨.base 0,0, .exact 0,rfl,by rw[z1];rfl,trivial,trivial,trivial,by rw[hR,decide_eq_true z1];rfl⟩
    ·have z1':decide ((0:Int)<q.1.toks.length)=true:=by
      rw[decide_eq_true_eq];have:=V5.2 z1;omega
     rw[decide_eq_false z1]at hR;by_cases z2:ql.length=0
     ·refine .inr (.inl ⟨.base 0,0, .exact 0,rfl,z1',by rw[z2];rfl,trivial,trivial,?_⟩)
      rw[hR,hbn0.2 z2];rfl
     ·obtain⟨lb,ob,cb,hbe⟩:=qbO hqb (by omega)
      have hb2:=hqb.mono hs_H;rw[hbe]at hb2;obtain⟨e3,-,-⟩:=qer hb2 (i:=0) (by omega);rw[K7,K6]at e3;refine .inr (.inr ⟨lb,ob,cb,hbe,z1',by rw[decide_eq_true_eq];omega,eq_true (by omega),e3,?_⟩);rw[hR,hql];cases ql with
      |nil=>exact absurd rfl z2
      |cons x xs=>rfl
   refine awp_rseq [4] (by rfl) fun K hK=>?_;suffices hM:∀g:Bool,g=R->K [(4, .bool g)] (H) by
    rcases mcase with⟨lb,ob,cb,hbe,hT,hB,hp2,e3,hfin⟩|⟨lb,ob,cb,hbe,hT,hB,hp2,e3,hfin⟩|⟨lb,ob,cb,hbe,hT,hB,hp2,e3,hfin⟩<;>(
     simp+decide only[qh,qi,qj,qo,ev,qZ,qY,putD,Vz,VA,VB,Ka,VC,VD,Kb,and_true,↓Qo,Qd,UJ,↓Qu,QM,Qi qfv,↓QV,Ql Tryd.underlying45 qbn,qcJ,Qi qbR,↓XG,Xh,QE Tryd.underlying31,QT Tryd.underlying31,↓Qj,Qa,Qm,cond_false,Qh,UE,↓qW,qU,↓XW,agP,Xw,gv,QB,QD,QC,Qs,Qg,Qe,Zk,implies_true,VK,decide_true,decide_false,VL,VM,Qc,Qb,forall_const,false_implies,Qk,Qf,J4,VN,VO,VP,VQ,VS,VT,VU,WG,XN,XO,Xb,Xc,Xa,↓ZG,Zt,Wn,ZP,ZO,ZN,ZM,ZL,ZK,Qi qdL,ZI,ZJ,↓qet,QE Tryd.underlying46,QT Tryd.underlying46,qej,qel,↓XT,Zb,Za,Zd,Zc,↓XH,Xj,QO,QH,QG,QA,Xo,Xn,Xm,Xl,QZ,Xk,↓Ye,Uv,Uu,Ut,Us,Ur,Uo,Uj,Ui,Un,Um,Ul,Uk,Ql Tryd.underlying46 UW,YL,YK,YN,YM,qgP,Qi ag9,XK,XC,Wv,↓qV,qP,qM,ne_eq,not_false_eq_true,qO w0 eb_0q0,qN,qJ,VE,setAt,VF,Kj,qC,VG,Kn,Jp,Nat.reduceAdd,qF,qG,qI,qf,qK,qa,qz,qd,qE,qc,qA,qg,qH,qy,allLive,J4,tokV,hpl,hbl,nb,hpe,hpos,e1,nq,hqvl,hbe,hT,hB,hp2,e3,qaL,Qb,Qc,VP,VO,Bt,K7,K6];repeat (with_reducible refine And.intro ?_ ?_;· first|trivial|omega|(intro hg;simp only[Ky,JH,Jh,VH,VI,VJ,decide_eq_true_eq,decide_eq_false_iff_not,qR]at hg;omega))
     exact hM _ hfin.symm)
   intro g hb_9;apply hK;clear hK K;refine Xd ?_;try simp only[QF,Qn]
   refine Xu (Qr (Qv)) ?_;simp+decide only[qh,qi,qj,qo,ev,qZ,qY,putD,Vz,VA,VB,Ka,VC,VD,Kb,and_true,QU,qM,ne_eq,not_false_eq_true,qO w0 eb_0q0,qN,qJ,VE,setAt,VF,Kj,qC,VG,Kn,Jp,Nat.reduceAdd,qF,qG,qI,qf,qK,qa,qz,qd,qE,qc,qA,qg,qH,qy,allLive,J4,tokV,hpl,hbl,nb];rw[<-hb_9];exact⟨h,by assumption,rfl,Vg _⟩
  ·try simp only[decide_eq_true_eq,decide_eq_false_iff_not,Jh,VJ,Ky,VH,JH,VI,VV,VW,reduceCtorEq]at hb2
   rw[if_neg hb2]at hR;refine Qp ?_;refine awp_rseq [1,2,5,23,47] (by rfl) fun K hK=>?_;simp+decide only[qh,qi,qj,qo,ev,qZ,qY,putD,Vz,VA,VB,Ka,VC,VD,Kb,and_true,↓Qj,Qa,XK,cond_false,XC,Wv,↓qV,qP,qM,ne_eq,not_false_eq_true,qO w0 eb_0q0,qN,qJ,VE,setAt,VF,Kj,qC,VG,Kn,Jp,Nat.reduceAdd,qF,qG,qI,qf,qK,qa,qz,qd,qE,qc,qA,qg,qH,qy,allLive,J4,tokV,hpl,hbl,nb];repeat (with_reducible refine And.intro ?_ ?_;· first|trivial|omega|(intro hg;simp only[Ky,JH,Jh,VH,VI,VJ,decide_eq_true_eq,decide_eq_false_iff_not,qR]at hg;omega))
   apply hK;clear hK K;refine Qw (b:=_) rfl (fun hb3=>?_) (fun hb3=>?_)
   ·try simp only[decide_eq_true_eq,decide_eq_false_iff_not,Jh,VJ,Ky,VH,JH,VI,VV,VW,reduceCtorEq]at hb3
    refine QJ ?_;change Awp _ _ _ _ _ _ _;refine Qw (b:=_) rfl (fun hb4=>?_) (fun hb4=>?_)
    ·try simp only[decide_eq_true_eq,decide_eq_false_iff_not,Jh,VJ,Ky,VH,JH,VI,VV,VW,reduceCtorEq]at hb4
     rw[if_pos (.inl hb3)]at hR;refine awp_rseq [4] (by rfl) fun K hK=>?_;simp+decide only[qh,qi,qj,qo,ev,qZ,qY,putD,Vz,VA,VB,Ka,VC,VD,Kb,and_true,↓qW,qU,↓qV,qP,qM,ne_eq,not_false_eq_true,qO w0 eb_0q0,qN,qJ,VE,setAt,VF,Kj,qC,VG,Kn,Jp,Nat.reduceAdd,qF,qG,qI,qf,qK,qa,qz,qd,qE,qc,qA,qg,qH,qy,allLive,J4,tokV,hpl,hbl,nb];repeat (with_reducible refine And.intro ?_ ?_;· first|trivial|omega|(intro hg;simp only[Ky,JH,Jh,VH,VI,VJ,decide_eq_true_eq,decide_eq_false_iff_not,qR]at hg;omega))
     apply hK;clear hK K;refine Xd ?_;try simp only[QF,Qn]
     refine Xu (Qr (Qv)) ?_;simp+decide only[qh,qi,qj,qo,ev,qZ,qY,putD,Vz,VA,VB,Ka,VC,VD,Kb,and_true,QU,qM,ne_eq,not_false_eq_true,qO w0 eb_0q0,qN,qJ,VE,setAt,VF,Kj,qC,VG,Kn,Jp,Nat.reduceAdd,qF,qG,qI,qf,qK,qa,qz,qd,qE,qc,qA,qg,qH,qy,allLive,J4,tokV,hpl,hbl,nb];exact⟨h,by assumption,by rw[hR,hbA],Vg _⟩
    ·exact absurd hb3 (of_decide_eq_false hb4)
   ·try simp only[decide_eq_true_eq,decide_eq_false_iff_not,Jh,VJ,Ky,VH,JH,VI,VV,VW,reduceCtorEq]at hb3
    refine XZ [1,2,5,23,47] (by rfl) ?_;simp+decide only[qh,qi,qj,qo,ev,qZ,qY,putD,Vz,VA,VB,Ka,VC,VD,Kb,and_true,↓Qj,Qa,XK,cond_false,XC,Wv,↓qV,qP,qM,ne_eq,not_false_eq_true,qO w0 eb_0q0,qN,qJ,VE,setAt,VF,Kj,qC,VG,Kn,Jp,Nat.reduceAdd,qF,qG,qI,qf,qK,qa,qz,qd,qE,qc,qA,qg,qH,qy,allLive,J4,tokV,hpl,hbl,nb];repeat (with_reducible refine And.intro ?_ ?_;· first|trivial|omega|(intro hg;simp only[Ky,JH,Jh,VH,VI,VJ,decide_eq_true_eq,decide_eq_false_iff_not,qR]at hg;omega))
    change Awp _ _ _ _ _ _ _;refine Qw (b:=_) rfl (fun hb6=>?_) (fun hb6=>?_)
    ·try simp only[decide_eq_true_eq,decide_eq_false_iff_not,Jh,VJ,Ky,VH,JH,VI,VV,VW,reduceCtorEq]at hb6
     rw[if_pos (.inr hb6)]at hR;refine awp_rseq [4] (by rfl) fun K hK=>?_;simp+decide only[qh,qi,qj,qo,ev,qZ,qY,putD,Vz,VA,VB,Ka,VC,VD,Kb,and_true,↓qW,qU,↓qV,qP,qM,ne_eq,not_false_eq_true,qO w0 eb_0q0,qN,qJ,VE,setAt,VF,Kj,qC,VG,Kn,Jp,Nat.reduceAdd,qF,qG,qI,qf,qK,qa,qz,qd,qE,qc,qA,qg,qH,qy,allLive,J4,tokV,hpl,hbl,nb];repeat (with_reducible refine And.intro ?_ ?_;· first|trivial|omega|(intro hg;simp only[Ky,JH,Jh,VH,VI,VJ,decide_eq_true_eq,decide_eq_false_iff_not,qR]at hg;omega))
     apply hK;clear hK K;refine Xd ?_;try simp only[QF,Qn]
     refine Xu (Qr (Qv)) ?_;simp+decide only[qh,qi,qj,qo,ev,qZ,qY,putD,Vz,VA,VB,Ka,VC,VD,Kb,and_true,QU,qM,ne_eq,not_false_eq_true,qO w0 eb_0q0,qN,qJ,VE,setAt,VF,Kj,qC,VG,Kn,Jp,Nat.reduceAdd,qF,qG,qI,qf,qK,qa,qz,qd,qE,qc,qA,qg,qH,qy,allLive,J4,tokV,hpl,hbl,nb];exact⟨h,by assumption,by rw[hR,hbA],Vg _⟩
    ·try simp only[decide_eq_true_eq,decide_eq_false_iff_not,Jh,VJ,Ky,VH,JH,VI,VV,VW,reduceCtorEq]at hb6
     rw[if_neg (by
      rintro(z|z)
      ·exact hb3 z
      ·exact hb6 z)]at hR
     refine awp_rseq [1,2,51] (by rfl) fun K hK=>?_;simp+decide only[qh,qi,qj,qo,ev,qZ,qY,putD,Vz,VA,VB,Ka,VC,VD,Kb,and_true,↓Qj,Qa,XK,cond_false,XC,Wv,↓qV,qP,qM,ne_eq,not_false_eq_true,qO w0 eb_0q0,qN,qJ,VE,setAt,VF,Kj,qC,VG,Kn,Jp,Nat.reduceAdd,qF,qG,qI,qf,qK,qa,qz,qd,qE,qc,qA,qg,qH,qy,allLive,J4,tokV,hpl,hbl,nb];repeat (with_reducible refine And.intro ?_ ?_;· first|trivial|omega|(intro hg;simp only[Ky,JH,Jh,VH,VI,VJ,decide_eq_true_eq,decide_eq_false_iff_not,qR]at hg;omega))
     apply hK;clear hK K;refine Qw (b:=_) rfl (fun hb7=>?_) (fun hb7=>?_)
     ·try simp only[decide_eq_true_eq,decide_eq_false_iff_not,Jh,VJ,Ky,VH,JH,VI,VV,VW,reduceCtorEq]at hb7
      rw[if_pos hb7]at hR;refine qnK [0,2,3,4,5,1,6,7,8,9,10,11,12,13,14,15,16] [none,none,none,none,none,none,some 5,some 6,some 7,some 8,some 9,some 10,some 11,some 12,some 9,some 7,some 15] 17 [4] mixed (by kernel_rfl) (by rfl) fun K hK=>?_;simp only[WM,List.filterMap_cons,List.filterMap_nil,List.getElem?_cons_zero,List.getElem?_cons_succ];simp+decide only[qh,qi,qj,qo,ev,qZ,qY,putD,Vz,VA,VB,Ka,VC,VD,Kb,and_true,qeK,qgJ,qee,YV,↓Qu,QM,Xy qgm WJ,↓Qo,Qd,WG,Qi qdL,↓XG,Xh,QE Tryd.underlying46,QT Tryd.underlying46,↓Qj,Qa,Qm,cond_false,Qh,UE,qM,ne_eq,not_false_eq_true,qO w0 eb_0q0,qN,qJ,VE,setAt,VF,Kj,qC,VG,Kn,Jp,Nat.reduceAdd,qF,qG,qI,qf,qK,qa,qz,qd,qE,qc,qA,qg,qH,qy,allLive,J4,tokV,hpl,hbl,nb];repeat (with_reducible refine And.intro ?_ ?_;· first|trivial|omega|(intro hg;simp only[Ky,JH,Jh,VH,VI,VJ,decide_eq_true_eq,decide_eq_false_iff_not,qR]at hg;omega))
      refine QN (by rfl) (by rfl) (qme w0 ha _ c.verb c.line c.col pv bv c.phrases (hp.mono zqB) hbl hbs hbc hf) fun x14q1 h14q1 hx14q1=>?_;obtain⟨rfl,hs14⟩:=hx14q1;have hs_h14q1:Sub h h14q1:=Bq zqC hs14;have hr_h14q1:Sub H h14q1:=Bq zqC hs14;have eb_0q0:=hs14 k0q0 _ zqA;rw[qh];refine And.intro (by first|exact Vg _|assumption|exact V8 (by assumption)) ?_;simp+decide only[qh,qi,qj,qo,ev,qZ,qY,putD,Vz,VA,VB,Ka,VC,VD,Kb,and_true,qeK,qgJ,qee,YV,↓Qj,Qa,Qz,cond_false,qpy,Tryd.underlying4,↓qW,qU,↓Zj,agP,Xw,gv,QB,QD,QC,Qs,Qg,Qe,Zk,implies_true,VK,decide_true,decide_false,VL,VM,Qc,Qb,forall_const,false_implies,Qk,Qf,J4,VN,VO,VP,VQ,VS,VT,VU,Xb,Xc,Xa,↓XW,Qd,WG,XN,XO,↓ZG,QM,Zt,Wn,ZP,ZO,ZN,ZM,ZL,ZK,Qi qdL,ZI,ZJ,↓qet,Xh,QE Tryd.underlying46,QT Tryd.underlying46,qej,qel,↓XT,Qm,Zb,Za,Zd,Zc,Qh,ZE,↓qgl,Xj,QO,QH,QG,QA,Xo,Xn,Xm,Xl,QZ,Xk,qgc,qgd,↓XH,↓qV,qP,qM,ne_eq,not_false_eq_true,qO w0 eb_0q0,qN,qJ,VE,setAt,VF,Kj,qC,VG,Kn,Jp,Nat.reduceAdd,qF,qG,qI,qf,qK,qa,qz,qd,qE,qc,qA,qg,qH,qy,allLive,J4,tokV,hpl,hbl,nb];repeat (with_reducible refine And.intro ?_ ?_;· first|trivial|omega|(intro hg;simp only[Ky,JH,Jh,VH,VI,VJ,decide_eq_true_eq,decide_eq_false_iff_not,qR]at hg;omega))
      apply hK;clear hK K;refine Xd ?_;try simp only[QF,Qn]
      refine Xu (Qr (Qv)) ?_;simp+decide only[qh,qi,qj,qo,ev,qZ,qY,putD,Vz,VA,VB,Ka,VC,VD,Kb,and_true,QU,qM,ne_eq,not_false_eq_true,qO w0 eb_0q0,qN,qJ,VE,setAt,VF,Kj,qC,VG,Kn,Jp,Nat.reduceAdd,qF,qG,qI,qf,qK,qa,qz,qd,qE,qc,qA,qg,qH,qy,allLive,J4,tokV,hpl,hbl,nb];refine⟨h,by assumption,?_,Vg _⟩;rw[hR];congr 1;by_cases z:ql.length=0
      ·rw[hbn0.2 z,z]
       cases qag QY c.phrases<;>cases closed<;>rfl
      ·have z2:c.bodies≠[]:=fun e=>z (hbn0.1 e)
       have z3:decide ((0:Int)<ql.length)=true:=by rw[decide_eq_true_eq];omega
       have z4:decide ((ql.length:Int)=0)=false:=by rw[decide_eq_false_iff_not];omega
       rw[z3,z4,decide_eq_false z2];cases qag QY c.phrases<;>cases closed<;>rfl
     ·try simp only[decide_eq_true_eq,decide_eq_false_iff_not,Jh,VJ,Ky,VH,JH,VI,VV,VW,reduceCtorEq]at hb7
      rw[if_neg hb7]at hR;refine QJ ?_;change Awp _ _ _ _ _ _ _;refine awp_rseq [4] (by rfl) fun K hK=>?_;simp+decide only[qh,qi,qj,qo,ev,qZ,qY,putD,Vz,VA,VB,Ka,VC,VD,Kb,and_true,↓qV,qP,qM,ne_eq,not_false_eq_true,qO w0 eb_0q0,qN,qJ,VE,setAt,VF,Kj,qC,VG,Kn,Jp,Nat.reduceAdd,qF,qG,qI,qf,qK,qa,qz,qd,qE,qc,qA,qg,qH,qy,allLive,J4,tokV,hpl,hbl,nb];repeat (with_reducible refine And.intro ?_ ?_;· first|trivial|omega|(intro hg;simp only[Ky,JH,Jh,VH,VI,VJ,decide_eq_true_eq,decide_eq_false_iff_not,qR]at hg;omega))
      apply hK;clear hK K;refine Xd ?_;try simp only[QF,Qn]
      refine Xu (Qr (Qv)) ?_;simp+decide only[qh,qi,qj,qo,ev,qZ,qY,putD,Vz,VA,VB,Ka,VC,VD,Kb,and_true,QU,qM,ne_eq,not_false_eq_true,qO w0 eb_0q0,qN,qJ,VE,setAt,VF,Kj,qC,VG,Kn,Jp,Nat.reduceAdd,qF,qG,qI,qf,qK,qa,qz,qd,qE,qc,qA,qg,qH,qy,allLive,J4,tokV,hpl,hbl,nb];exact⟨h,by assumption,by rw[hR],Vg _⟩
abbrev curB(c:Cur)(pv bv:AVal):Blk:=⟨[.str c.verb, .int .i64 c.line, .int .i64 c.col,pv,bv],0⟩
abbrev parB3(v:AVal)(i:Nat)(ov:AVal):Blk:=⟨[v, .int .i64 i,ov],0⟩
structure CurS(w0:World)(d:Nat)(c:Cur)(pv bv:AVal)(pp tp bp E:AHeap):Prop where
 ph:∃(qs:List (PhrC×AVal)) (w:Str) (ts:List TokC) (tv:AVal),c.phrases=qs.map (·.1)++[⟨w,ts⟩]/\GrowV 2 pv pp (qs.map phC++[[.str w,tv]])/\GrowV 5 tv tp (ts.map Zh)/\∀q∈qs,IsL w0 E 5 q.2 (q.1.toks.map Zh)
 bd:∃bs:List (BodC×AVal×AVal),c.bodies=bs.map (·.1)/\GrowV 3 bv bp (bs.map bdC)/\∀b∈bs,IsL w0 E 5 b.2.1 (b.1.2.1.map Zh)/\StsV w0 d E b.2.2 b.1.2.2
def Few(c:Cur)(i:Nat):Prop:=c.phrases.length<=i/\(∀p∈c.phrases,p.toks.length<=i)/\c.bodies.length<=i
theorem CurS.bv_len{w0:World}{d:Nat}{c:Cur}{pv bv:AVal}{pp tp bp E:AHeap}(hc:CurS w0 d c pv bv pp tp bp E):bv.live=true/\bv.scal=true/\bv.cells=[bv]/\∀H:AHeap,YZ Tryd.prog H 46 bv=⟨True, .int .i64 c.bodies.length⟩:=by
 obtain⟨bs,e,g,-⟩:=hc.bd;refine⟨g.live,g.scal,g.cells,fun H=>?_⟩;rw[qdJ (w0:=w0) (g.isL (Vg _)),e,Jn]
theorem CurS.pv_ok{w0:World}{d:Nat}{c:Cur}{pv bv:AVal}{pp tp bp E:AHeap}(hc:CurS w0 d c pv bv pp tp bp E):pv.live=true/\pv.scal=true/\pv.cells=[pv]:=by
 obtain⟨qs,w,ts,tv,_,g,_⟩:=hc.ph;exact⟨g.live,g.scal,g.cells⟩
theorem qsy(w0:World)(h B:AHeap)(kp ks:Nat)(v ov bv pv:AVal)(op pp tp bp E:AHeap)(c:Cur)(d i:Nat)(l:List TokC)(forms:Str)(hS:Sep [B,one kp (parB3 v i ov),op,one ks (curB c pv bv),pp,tp,bp,E] h)(hv:IsL w0 B 5 v (l.map Zh))(hc:CurS w0 d c pv bv pp tp bp E)
 (hl:l.length<=1000000) (hi:i<=l.length) (hb:c.bodies≠[]):APanic Tryd.prog w0 62 [.ptr (.own kp) 0, .ptr (.own ks) 0, .str forms] h (qsY h (UI l 4 i)):=by
 have eb_p:h kp=some _:=hS.at_ (i:=1) rfl;have eb_s:h ks=some _:=hS.at_ (i:=3) rfl;have ne_p_s:kp≠ks:=hS.ne (i:=1) (j:=3) rfl rfl (by decide);have hs_h:Sub B h:=hS.in_ (i:=0) rfl;have hlv:=hv.live;obtain⟨hbl,-,-,nb⟩:=hc.bv_len;have hn:=V5.2 hb;refine qaP (k:=82) (rs:=[]) Tryd.func62 rfl rfl rfl rfl (Vy rfl) ?_;simp only[Xe];refine Qp ?_;refine awp_rseq [0,1,2,14] (by rfl) fun K hK=>?_;simp+decide only[qh,qi,qj,qo,ev,qZ,qY,putD,Vz,VA,VB,Ka,VC,VD,Kb,and_true,↓qW,qU,↓XE,Xg,XP,XF,↓Qo,Qd,WG,↓Qu,QM,Qi qdL,↓XG,Xh,QE Tryd.underlying46,QT Tryd.underlying46,↓Qj,Qa,Qm,cond_false,Qh,UE,qM,ne_eq,not_false_eq_true,qO w0 eb_p,qO w0 eb_s,ne_p_s,ne_p_s.symm,qN,qJ,VE,setAt,VF,Kj,qC,VG,Kn,Jp,Nat.reduceAdd,qF,qG,qI,qf,qK,qa,qz,qd,qE,qc,qA,qg,qH,qy,allLive,J4,tokV,posV,faultV,hlv,hbl,nb];repeat (with_reducible refine And.intro ?_ ?_;· first|trivial|omega|(intro hg;simp only[Ky,JH,Jh,VH,VI,VJ,decide_eq_true_eq,decide_eq_false_iff_not,qR]at hg;omega))
 apply hK;clear hK K;refine Qw (b:=_) rfl (fun hb1=>?_) (fun hb1=>?_)
 ·try simp only[decide_eq_true_eq,decide_eq_false_iff_not,Jh,VJ,Ky,VH,JH,VI,VV,VW,reduceCtorEq]at hb1
  refine YO 5 (by rfl) (by rfl) ?_;simp only[Ki,Bj];simp+decide only[qh,qi,qj,qo,ev,qZ,qY,putD,Vz,VA,VB,Ka,VC,VD,Kb,and_true,↓qW,qU,↓XE,Xg,XP,XF,↓Qo,Qd,Wl,↓Qu,QM,Qi ag3,qM,ne_eq,not_false_eq_true,qO w0 eb_p,qO w0 eb_s,ne_p_s,ne_p_s.symm,qN,qJ,VE,setAt,VF,Kj,qC,VG,Kn,Jp,Nat.reduceAdd,qF,qG,qI,qf,qK,qa,qz,qd,qE,qc,qA,qg,qH,qy,allLive,J4,tokV,posV,faultV,hlv,hbl,nb];repeat (with_reducible refine And.intro ?_ ?_;· first|trivial|omega|(intro hg;simp only[Ky,JH,Jh,VH,VI,VJ,decide_eq_true_eq,decide_eq_false_iff_not,qR]at hg;omega))
  refine⟨⟨_,_,by rfl,?_⟩,by intro i;first|trivial|exact .inr trivial|exact .inr rfl⟩;exact qdI w0 _ B kp v ov l i 4 i zqA zqB hv hl (by omega)
 ·have:=of_decide_eq_false hb1;omega
theorem qmI(F:List AVal)(w tv u:AVal)(n:Nat)(hn:F.length=n*2):setAt (F++[w,tv]) (n*2+1) [u]=F++[w,u]:=by
 simp only[setAt];rw[List.set_append_right _ _ (by omega),show n*2+1-F.length=1 by omega];rfl
theorem qfG(qs:List (PhrC×AVal)):(qs.map phC).flatten.length=qs.length*2:=by rw[Zw qeb,Jn]
theorem qey{l:List TokC}{c:Cur}{forms:Str}{i:Nat}(hb:c.bodies=[]):qas l c forms i=if (Xr l i forms).2=0 then .ok {c with phrases:=qnR c.phrases (l.getD i noT)} (i+1)
 else if (Xr l i forms).1≠[]then .ok {c with phrases:=c.phrases++[⟨(Xr l i forms).1,[]⟩]} (i+(Xr l i forms).2)
 else .ok c (i+(Xr l i forms).2):=by
 unfold qas;rw[if_neg (by rw[hb];simp)]
theorem qra(ps:List PhrC)(w:Str)(ts:List TokC)(t:TokC):qnR (ps++[⟨w,ts⟩]) t=ps++[⟨w,ts++[t]⟩]:=by simp[qnR]
theorem qjI{qs:List (PhrC×AVal)}{w:Str}{tv pv:AVal}{pp:AHeap}(hg:GrowV 2 pv pp (qs.map phC++[[.str w,tv]])):∃kh ch,pv= .slice (.own kh) 0 (qs.length+1) ch/\(ch= .exact (qs.length+1)\/ch= .grow 2)/\pp=one kh ⟨(qs.map phC).flatten++[.str w,tv],0⟩:=by
 rcases hg with⟨_,_,e⟩|⟨k,c,e1,e2,e3,_,_⟩
 ·simp at e
 ·rw[Jb,Jn,JF]at e1 e2
  exact⟨k,c,e1,e2,by rw[e3];simp⟩
theorem qlL{qs:List (PhrC×AVal)}{w:Str}{tv pv u:AVal}{pp:AHeap}{kh:Nat}{ch:Cap}(hg:GrowV 2 pv pp (qs.map phC++[[.str w,tv]]))(hpv:pv= .slice (.own kh) 0 (qs.length+1) ch)(hch:ch= .exact (qs.length+1)\/ch= .grow 2)(hu:u.live=true):
 GrowV 2 pv (one kh ⟨(qs.map phC).flatten++[.str w,u],0⟩) (qs.map phC++[[.str w,u]]):=by
 have hl:allLive (qs.map phC++[[AVal.str w,tv]]).flatten=true:=by
  rcases hg with⟨_,_,e⟩|⟨_,_,_,_,_,_,hl⟩
  ·simp at e
  ·exact hl
 rw[Bo,YE,Ky]at hl;subst hpv;refine GrowV.new (by rw[Jb,Jn,JF]) hch (fun x hx=>?_) ?_ (by simp)
 ·rcases JS.1 hx with h|h
  ·exact qeb x h
  ·rw[V4.1 h];rfl
 ·rw[Bo,YE,hl.1]
  show(true && (true && (u.live && true)))=true
  rw[hu];rfl
theorem qrV(qs:List (PhrC×AVal))(w:Str)(tv:AVal):((qs.map phC).flatten++[AVal.str w,tv]).getD (qs.length*2+1) .dead=tv:=by
 rw[Ko,List.getElem?_append_right (by rw[qfG];omega),qfG,show qs.length*2+1-qs.length*2=1 by omega];rfl
set_option maxHeartbeats 4000000 in
theorem c_tokOk(w0:World)(ha:Asp w0)(h B:AHeap)(kp ks:Nat)(v ov bv pv:AVal)(op pp tp bp E:AHeap)(c c':Cur)(d i j:Nat)(l:List TokC)(forms:Str)(hS:Sep [B,one kp (parB3 v i ov),op,one ks (curB c pv bv),pp,tp,bp,E] h)(hv:IsL w0 B 5 v (l.map Zh))(hc:CurS w0 d c pv bv pp tp bp E)
 (hl:l.length<=1000000) (hi:i<l.length) (hb:c.bodies=[]) (hf:forms.length<=1000000) (hfa:asciiB forms=true) (hok:qas l c forms i= .ok c' j) (hfew:Few c i) (hov:ov.live=true):
 ACall Tryd.prog w0 62 [.ptr (.own kp) 0, .ptr (.own ks) 0, .str forms] h (fun r h'=>r= .tuple []/\∃pv' pp' tp' E',CurS w0 d c' pv' bv pp' tp' bp E'/\Sep [B,one kp (parB3 v j ov),op,one ks (curB c' pv' bv),pp',tp',bp,E'] h'):=by
 have eb_p:h kp=some _:=hS.at_ (i:=1) rfl;have eb_s:h ks=some _:=hS.at_ (i:=3) rfl;have ne_p_s:kp≠ks:=hS.ne (i:=1) (j:=3) rfl rfl (by decide);have hs_h:Sub B h:=hS.in_ (i:=0) rfl;have hlv:=hv.live;obtain⟨hbl,hbs,hbc,nb⟩:=hc.bv_len;rw[qey hb]at hok;have hst:=qfj l i forms (by omega);obtain⟨S,hS0⟩:∃S,S=Xr l i forms:=⟨_,rfl⟩
 rw[<-hS0]at hok hst;obtain⟨hf1,hf2,hf3⟩:=hfew;refine Xf (n:=82) (rs:=[]) Tryd.func62 rfl rfl rfl rfl (Vy rfl) ?_;simp only[Xe];refine Qp ?_;refine awp_rseq [0,1,2,14] (by rfl) fun K hK=>?_;simp+decide only[qh,qi,qj,qo,ev,qZ,qY,putD,Vz,VA,VB,Ka,VC,VD,Kb,and_true,↓qW,qU,↓XE,Xg,XP,XF,↓Qo,Qd,WG,↓Qu,QM,Qi qdL,↓XG,Xh,QE Tryd.underlying46,QT Tryd.underlying46,↓Qj,Qa,Qm,cond_false,Qh,UE,qM,ne_eq,not_false_eq_true,qO w0 eb_p,qO w0 eb_s,ne_p_s,ne_p_s.symm,qN,qJ,VE,setAt,VF,Kj,qC,VG,Kn,Jp,Nat.reduceAdd,qF,qG,qI,qf,qK,qa,qz,qd,qE,qc,qA,qg,qH,qy,allLive,J4,tokV,posV,faultV,hlv,hbl,nb,hov];repeat (with_reducible refine And.intro ?_ ?_;· first|trivial|omega|(intro hg;simp only[Ky,JH,Jh,VH,VI,VJ,decide_eq_true_eq,decide_eq_false_iff_not,qR]at hg;omega))
 apply hK;clear hK K;refine Qw (b:=_) rfl (fun hb1=>?_) (fun hb1=>?_)
 ·rw[hb]at hb1;cases hb1
 ·try simp only[decide_eq_true_eq,decide_eq_false_iff_not,Jh,VJ,Ky,VH,JH,VI,VV,VW,reduceCtorEq]at hb1
  refine QJ ?_;change Awp _ _ _ _ _ _ _;refine awp_rseq [0,1,6,7] (by rfl) fun K hK=>?_;simp+decide only[qh,qi,qj,qo,ev,qZ,qY,putD,Vz,VA,VB,Ka,VC,VD,Kb,and_true,↓qW,qU,qM,ne_eq,not_false_eq_true,qO w0 eb_p,qO w0 eb_s,ne_p_s,ne_p_s.symm,qN,qJ,VE,setAt,VF,Kj,qC,VG,Kn,Jp,Nat.reduceAdd,qF,qG,qI,qf,qK,qa,qz,qd,qE,qc,qA,qg,qH,qy,allLive,J4,tokV,posV,faultV,hlv,hbl,nb,hov];repeat (with_reducible refine And.intro ?_ ?_;· first|trivial|omega|(intro hg;simp only[Ky,JH,Jh,VH,VI,VJ,decide_eq_true_eq,decide_eq_false_iff_not,qR]at hg;omega))
  refine XD (V:= .tuple [.str S.1, .int .i64 S.2]) (by rfl) (by rfl) (by rw[hS0];exact qem w0 ha _ (.own kp) 0 v l i forms (qO w0 eb_p 0) (qO w0 eb_p 1) (hv.mono zqB) hl (by omega) hf hfa) ?_;simp+decide only[qh,qi,qj,qo,ev,qZ,qY,putD,Vz,VA,VB,Ka,VC,VD,Kb,and_true,↓qW,qU,↓Zl,XY,Zp,KX,JD,VG,Kn,↓qV,qP,qM,ne_eq,not_false_eq_true,qO w0 eb_p,qO w0 eb_s,ne_p_s,ne_p_s.symm,qN,qJ,VE,setAt,VF,Kj,qC,VG,Kn,Jp,Nat.reduceAdd,qF,qG,qI,qf,qK,qa,qz,qd,qE,qc,qA,qg,qH,qy,allLive,J4,tokV,posV,faultV,hlv,hbl,nb,hov];repeat (with_reducible refine And.intro ?_ ?_;· first|trivial|omega|(intro hg;simp only[Ky,JH,Jh,VH,VI,VJ,decide_eq_true_eq,decide_eq_false_iff_not,qR]at hg;omega))
  apply hK;clear hK K;refine Qp ?_;refine QL ?_;refine awp_rseq [0,1,6,7,27] (by rfl) fun K hK=>?_;simp+decide only[qh,qi,qj,qo,ev,qZ,qY,putD,Vz,VA,VB,Ka,VC,VD,Kb,and_true,↓qW,qU,↓Qj,Qa,Qm,cond_false,Qh,ZE,↓qV,qP,qM,ne_eq,not_false_eq_true,qO w0 eb_p,qO w0 eb_s,ne_p_s,ne_p_s.symm,qN,qJ,VE,setAt,VF,Kj,qC,VG,Kn,Jp,Nat.reduceAdd,qF,qG,qI,qf,qK,qa,qz,qd,qE,qc,qA,qg,qH,qy,allLive,J4,tokV,posV,faultV,hlv,hbl,nb,hov];repeat (with_reducible refine And.intro ?_ ?_;· first|trivial|omega|(intro hg;simp only[Ky,JH,Jh,VH,VI,VJ,decide_eq_true_eq,decide_eq_false_iff_not,qR]at hg;omega))
  apply hK;clear hK K;refine Qw (b:=_) rfl (fun hb2=>?_) (fun hb2=>?_)
  ·try simp only[decide_eq_true_eq,decide_eq_false_iff_not,Jh,VJ,Ky,VH,JH,VI,VV,VW,reduceCtorEq]at hb2
   have hz:S.2=0:=by omega
   rw[if_pos hz]at hok;obtain⟨qs,w,ts,tv,hph,hg,hgt,hqE⟩:=hc.ph;obtain⟨kh,ch,rfl,hch,rfl⟩:=qjI hg;have eb_h:h kh=some _:=hS.at_ (i:=4) rfl;have ne_p_h:kp≠kh:=hS.ne (i:=1) (j:=4) rfl rfl (by decide);have ne_s_h:ks≠kh:=hS.ne (i:=3) (j:=4) rfl rfl (by decide);have nph:∀H:AHeap,YZ Tryd.prog H 45 (.slice (.own kh) 0 (qs.length+1) ch)=⟨True, .int .i64 ((qs.length+1:Nat):Int)⟩:=fun H=>by
    have:=(hg.isL (w0:=w0) (Vg _)).len Tryd.underlying45 H
    rwa [Jb,Jn,JF]at this
   rw[hph,Jb,Jn,JF]at hf1;have hwn:IntKind.i64.wrap (((qs.length+1:Nat):Int)-1)=(qs.length:Int):=by rw[wrap_i64 (by omega) (by omega)];omega
   have htl:=hgt.live;have htsl:ts.length<=i:=hf2 ⟨w,ts⟩ (by rw[hph];simp);refine qaO [0,8] mixed (by kernel_rfl) (by rfl) (by rfl) fun K hK=>?_;simp+decide only[qh,qi,qj,qo,ev,qZ,qY,putD,Vz,VA,VB,Ka,VC,VD,Kb,and_true,↓qW,qU,↓XE,Xg,XP,XF,↓Qo,Qd,UJ,↓Qu,QM,Qi qfv,↓XG,Xh,QE Tryd.underlying45,QT Tryd.underlying45,↓Qj,Qa,Qm,cond_false,Qh,qbB,qM,ne_eq,not_false_eq_true,qO w0 eb_p,qO w0 eb_s,ne_p_s,ne_p_s.symm,qN,qJ,VE,setAt,VF,Kj,qC,VG,Kn,Jp,Nat.reduceAdd,qF,qG,qI,qf,qK,qa,qz,qd,qE,qc,qA,qg,qH,qy,allLive,J4,tokV,posV,faultV,hlv,hbl,nb,hov,nph,hwn];try simp(disch:=omega)only[wrap_i64,wrap_u8]
   try simp+decide only[qh,qi,qj,qo,ev,qZ,qY,putD,Vz,VA,VB,Ka,VC,VD,Kb,and_true,↓QV,QM,Ql Tryd.underlying45 qbn,↓qV,qP,qM,ne_eq,not_false_eq_true,qO w0 eb_p,qO w0 eb_s,ne_p_s,ne_p_s.symm,qN,qJ,VE,setAt,VF,Kj,qC,VG,Kn,Jp,Nat.reduceAdd,qF,qG,qI,qf,qK,qa,qz,qd,qE,qc,qA,qg,qH,qy,allLive,J4,tokV,posV,faultV,hlv,hbl,nb,hov,nph,hwn]
   repeat (with_reducible refine And.intro ?_ ?_;· first|trivial|omega|(intro hg;simp only[Ky,JH,Jh,VH,VI,VJ,decide_eq_true_eq,decide_eq_false_iff_not,qR]at hg;omega))
   apply hK;clear hK K;obtain⟨lc,o,cc,hve⟩:=YA hv (by omega);have hv2:=hv.mono hs_h;rw[hve]at hv2;obtain⟨e0,e1,e2,e3,e4⟩:=Uy hv2 hi;obtain⟨t,ht⟩:∃t,t=l.getD i noT:=⟨_,rfl⟩
   rw[<-ht]at e0 e1 e2 e3 e4 hok;obtain⟨cs,hcs⟩:∃cs,cs=(qs.map phC).flatten++[AVal.str w,tv]:=⟨_,rfl⟩
   have hcg:cs.getD (qs.length*2+1) .dead=tv:=by rw[hcs];exact qrV qs w tv
   have hcl:cs.length=qs.length*2+2:=by rw[hcs,Jb,qfG];rfl
   rw[<-hcs]at eb_h hS;have etv:rd w0 h (.own kh) (qs.length*2+1)=tv:=by rw[qO w0 eb_h];exact hcg
   refine qbg 16 [0] [0] mixed (by kernel_rfl) (by rfl) fun K hK=>?_;simp only[Ki,Bj,Ba,Vk,BH,BI];simp+decide only[qh,qi,qj,qo,ev,qZ,qY,putD,Vz,VA,VB,Ka,VC,VD,Kb,and_true,↓qbl,qU,↓qan,Xg,XP,XF,↓WA,Qd,qcJ,↓qbm,Yg,Qi qbR,qco,Wl,Qi ag3,↓WV,Ql Tryd.underlying31 Yv,ZH,Xy qhB Yv,qM,ne_eq,not_false_eq_true,qO w0 eb_p,qO w0 eb_s,ne_p_s,ne_p_s.symm,qN,qJ,VE,setAt,VF,Kj,qC,VG,Kn,Jp,Nat.reduceAdd,qF,qG,qI,qf,qK,qa,qz,qd,qE,qc,qA,qg,qH,qy,allLive,J4,tokV,posV,faultV,hlv,hbl,nb,hov,htl,etv,hve,e0,e1,e2,e3,e4,VX,K6,Jp];repeat (with_reducible refine And.intro ?_ ?_;· first|trivial|omega|(intro hg;simp only[Ky,JH,Jh,VH,VI,VJ,decide_eq_true_eq,decide_eq_false_iff_not,qR]at hg;omega))
   refine qaM (by rfl) ?_;refine QS (cs:=(Zh t)) (by kernel_rfl) fun k5q15 hk5q15=>?_;have hn_5q15:h k5q15=none:=by first|assumption|(simp only[V7]at hk5q15;simp only[hk5q15])
   have hf_5q15:B k5q15=none:=Bh hs_h hn_5q15;have ne_5q15_p:k5q15≠kp:=BG hn_5q15 eb_p;have ne_5q15_s:k5q15≠ks:=BG hn_5q15 eb_s;rw[qh];repeat (with_reducible refine And.intro ?_ ?_;· first|trivial|omega|(intro hg;simp only[Ky,JH,Jh,VH,VI,VJ,decide_eq_true_eq,decide_eq_false_iff_not,qR]at hg;omega))
   try simp only[qi,qj]
   refine Ub (es:=5) (v:=tv) (p:=tp) (xs:=ts.map Zh) (ys:=[Zh t]) (i:=5) (by rfl) (by rfl) Tryd.underlying31 Tryd.underlying31 (fun k e=>by cases e) Yv qgg qdT (by rfl) (by decide) (by rfl) hgt rfl (hS.forget (V8 hn_5q15)) (by rfl) (V9 (Vf _ _ _) (fun x hx=>by rw[V4.1 hx];rfl) (by rfl) (by rfl) (.exact 1) (KL _)) (by rfl) (by simp) (by rw[Jn,JF];omega) (by rw[Jn,JF];omega) fun tv2 tp2 h5 hg2 _ hS2=>?_;simp+decide only[qh,qi,qj,qo,ev,qZ,qY,putD,Vz,VA,VB,Ka,VC,VD,Kb,and_true,↓XE,Xg,XP,XF,↓Qo,Qd,qcJ,qM,ne_eq,not_false_eq_true,ne_5q15_p,ne_5q15_p.symm,ne_5q15_s,ne_5q15_s.symm,qO w0 eb_p,qO w0 eb_s,ne_p_s,ne_p_s.symm,qN,qJ,VE,setAt,VF,Kj,qC,VG,Kn,Jp,Nat.reduceAdd,qF,qG,qI,qf,qK,qa,qz,qd,qE,qc,qA,qg,qH,qy,allLive,J4,tokV,posV,faultV,hlv,hbl,nb,hov,htl,etv,hve,e0,e1,e2,e3,e4,VX,K6,Jp];repeat (with_reducible refine And.intro ?_ ?_;· first|trivial|omega|(intro hg;simp only[Ky,JH,Jh,VH,VI,VJ,decide_eq_true_eq,decide_eq_false_iff_not,qR]at hg;omega))
   refine QR (v:=tv2) (by rfl) (by rfl) (hS2.at_ (i:=4) rfl) qte hg2.live (by rw[hg2.cells];rfl) (by simp only[hg2.cells];omega) (Jq _) (by rw[hg2.cells];simp[XR,hg2.scal]) ?_;simp+decide only[qh,qi,qj,qo,ev,qZ,qY,putD,Vz,VA,VB,Ka,VC,VD,Kb,and_true,qM,ne_eq,not_false_eq_true,ne_5q15_p,ne_5q15_p.symm,ne_5q15_s,ne_5q15_s.symm,qO w0 eb_p,qO w0 eb_s,ne_p_s,ne_p_s.symm,qN,qJ,VE,setAt,VF,Kj,qC,VG,Kn,Jp,Nat.reduceAdd,qF,qG,qI,qf,qK,qa,qz,qd,qE,qc,qA,qg,qH,qy,allLive,J4,tokV,posV,faultV,hlv,hbl,nb,hov,htl,etv,hve,e0,e1,e2,e3,e4,VX,K6,Jp];repeat (with_reducible refine And.intro ?_ ?_;· first|trivial|omega|(intro hg;simp only[Ky,JH,Jh,VH,VI,VJ,decide_eq_true_eq,decide_eq_false_iff_not,qR]at hg;omega))
   apply hK;clear hK K;obtain⟨H6,hH6⟩:∃H6,H6=h5.set kh ⟨setAt cs (qs.length*2+1) tv2.cells,0⟩:=⟨_,rfl⟩
   refine BJ (h':=H6) (by rw[hH6];exact Vg _) ?_;rw[hg2.cells,hcs,qmI _ _ _ _ _ (qfG qs)]at hH6;have hS6:=hS2.put (i:=4) rfl ⟨(qs.map phC).flatten++[AVal.str w,tv2],0⟩;rw[<-hH6]at hS6;simp only[VF,Kj]at hS6;have eb_p:H6 kp=some _:=hS6.at_ (i:=1) rfl;have hs_H6:Sub B H6:=hS6.in_ (i:=0) rfl;refine XZ [0,7] (by rfl) ?_;simp+decide only[qh,qi,qj,qo,ev,qZ,qY,putD,Vz,VA,VB,Ka,VC,VD,Kb,and_true,↓qV,qP,qM,ne_eq,not_false_eq_true,qO w0 eb_p,qN,qJ,VE,setAt,VF,Kj,qC,VG,Kn,Jp,Nat.reduceAdd,qF,qG,qI,qf,qK,qa,qz,qd,qE,qc,qA,qg,qH,qy,allLive,J4,tokV,posV,faultV,hlv,hbl,nb,hov];repeat (with_reducible refine And.intro ?_ ?_;· first|trivial|omega|(intro hg;simp only[Ky,JH,Jh,VH,VI,VJ,decide_eq_true_eq,decide_eq_false_iff_not,qR]at hg;omega))
   change Awp _ _ _ _ _ _ _;refine XZ [] (by rfl) ?_;simp+decide only[qh,qi,qj,qo,ev,qZ,qY,putD,Vz,VA,VB,Ka,VC,VD,Kb,and_true,↓qW,qU,↓XE,Xg,XP,XF,↓Qo,Qd,Wl,↓Qu,QM,Qi ag3,↓Qj,Qa,Qz,cond_false,Qh,XM,qM,ne_eq,not_false_eq_true,qO w0 eb_p,qN,qJ,VE,setAt,VF,Kj,qC,VG,Kn,Jp,Nat.reduceAdd,qF,qG,qI,qf,qK,qa,qz,qd,qE,qc,qA,qg,qH,qy,allLive,J4,tokV,posV,faultV,hlv,hbl,nb,hov];try simp(disch:=omega)only[wrap_i64,wrap_u8]
   repeat (with_reducible refine And.intro ?_ ?_;· first|trivial|omega|(intro hg;simp only[Ky,JH,Jh,VH,VI,VJ,decide_eq_true_eq,decide_eq_false_iff_not,qR]at hg;omega))
   refine QR (by rfl) (by rfl) zqA sz3 (by rfl) (by rfl) zqD (Jq _) (by rfl) ?_;simp only[Bi,setAt,VE,VF,Kj,Jp,Nat.reduceAdd];simp+decide only[qh,qi,qj,qo,ev,qZ,qY,putD,Vz,VA,VB,Ka,VC,VD,Kb,and_true,qM,ne_eq,not_false_eq_true,qO w0 eb_p,qN,qJ,VE,setAt,VF,Kj,qC,VG,Kn,Jp,Nat.reduceAdd,qF,qG,qI,qf,qK,qa,qz,qd,qE,qc,qA,qg,qH,qy,allLive,J4,tokV,posV,faultV,hlv,hbl,nb,hov];repeat (with_reducible refine And.intro ?_ ?_;· first|trivial|omega|(intro hg;simp only[Ky,JH,Jh,VH,VI,VJ,decide_eq_true_eq,decide_eq_false_iff_not,qR]at hg;omega))
   try simp only[WR,Yy,QK,Qt]
   try simp only[QF,Qn]
   refine qeE (Qv) ?_;simp+decide only[qh,qi,qj,qo,ev,qZ,qY,putD,Vz,VA,VB,Ka,VC,VD,Kb,and_true,qeF,qM,ne_eq,not_false_eq_true,qO w0 eb_p,qN,qJ,VE,setAt,VF,Kj,qC,VG,Kn,Jp,Nat.reduceAdd,qF,qG,qI,qf,qK,qa,qz,qd,qE,qc,qA,qg,qH,qy,allLive,J4,tokV,posV,faultV,hlv,hbl,nb,hov];cases hok;exact⟨_,Vg _,_,_,_,_,⟨⟨qs,w,ts++[t],tv2,by simp only;rw[hph,qra],qlL hg rfl hch hg2.live,by rw[VZ];exact hg2,hqE⟩,hc.bd⟩,hS6.put (i:=1) rfl _⟩
  ·try simp only[decide_eq_true_eq,decide_eq_false_iff_not,Jh,VJ,Ky,VH,JH,VI,VV,VW,reduceCtorEq]at hb2
   have hz:S.2≠0:=by omega
   rw[if_neg hz]at hok;refine awp_rseq [0,1,6,7,60] (by rfl) fun K hK=>?_;simp+decide only[qh,qi,qj,qo,ev,qZ,qY,putD,Vz,VA,VB,Ka,VC,VD,Kb,and_true,↓qW,qU,↓Qj,Qa,XK,cond_false,XC,qaB,↓qV,qP,qM,ne_eq,not_false_eq_true,qO w0 eb_p,qO w0 eb_s,ne_p_s,ne_p_s.symm,qN,qJ,VE,setAt,VF,Kj,qC,VG,Kn,Jp,Nat.reduceAdd,qF,qG,qI,qf,qK,qa,qz,qd,qE,qc,qA,qg,qH,qy,allLive,J4,tokV,posV,faultV,hlv,hbl,nb,hov];repeat (with_reducible refine And.intro ?_ ?_;· first|trivial|omega|(intro hg;simp only[Ky,JH,Jh,VH,VI,VJ,decide_eq_true_eq,decide_eq_false_iff_not,qR]at hg;omega))
   apply hK;clear hK K;refine Qw (b:=_) rfl (fun hb3=>?_) (fun hb3=>?_)
   ·try simp only[decide_eq_true_eq,decide_eq_false_iff_not,Jh,VJ,Ky,VH,JH,VI,VV,VW,reduceCtorEq]at hb3
    rw[if_pos hb3]at hok;obtain⟨qs,w,ts,tv,hph,hg,hgt,hqE⟩:=hc.ph;have hpl:=hg.live;rw[hph,Jb,Jn,JF]at hf1;refine XZ [0,7] (by rfl) ?_;simp+decide only[qh,qi,qj,qo,ev,qZ,qY,putD,Vz,VA,VB,Ka,VC,VD,Kb,and_true,↓qW,qU,↓XE,Xg,XP,XF,↓Qo,Qd,UJ,↓Qu,QM,Qi qfv,↓Wm,ZU,↓Zz,bld44_0,evP,Ke,Vh,Ym,Zr,ZV,Ue,ZA,Wt,ZW,qM,ne_eq,not_false_eq_true,qO w0 eb_p,qO w0 eb_s,ne_p_s,ne_p_s.symm,qN,qJ,VE,setAt,VF,Kj,qC,VG,Kn,Jp,Nat.reduceAdd,qF,qG,qI,qf,qK,qa,qz,qd,qE,qc,qA,qg,qH,qy,allLive,J4,tokV,posV,faultV,hlv,hbl,nb,hov,hpl];repeat (with_reducible refine And.intro ?_ ?_;· first|trivial|omega|(intro hg;simp only[Ky,JH,Jh,VH,VI,VJ,decide_eq_true_eq,decide_eq_false_iff_not,qR]at hg;omega))
    refine QS (cs:=[.str S.1, .nilSlice]) (by kernel_rfl) fun k8q7 hk8q7=>?_;have hn_8q7:h k8q7=none:=by first|assumption|(simp only[V7]at hk8q7;simp only[hk8q7])
    have hf_8q7:B k8q7=none:=Bh hs_h hn_8q7;have ne_8q7_p:k8q7≠kp:=BG hn_8q7 eb_p;have ne_8q7_s:k8q7≠ks:=BG hn_8q7 eb_s;refine Ub (es:=2) (v:=pv) (p:=pp) (xs:=qs.map phC++[[.str w,tv]]) (ys:=[[.str S.1, .nilSlice]]) (i:=4) (by rfl) (by rfl) Tryd.underlying45 Tryd.underlying45 (fun k e=>by cases e) qbn by44 qrc (by rfl) (by decide) (by rfl) hg rfl (hS.forget (V8 hn_8q7)) (by rfl) (V9 (Vf _ _ _) (fun x hx=>by rw[V4.1 hx];rfl) (by rfl) (by rfl) (.exact 1) (KL _)) (by rfl) (by simp) (by simp only[Jb,Jn,JF];omega) (by simp only[Jb,Jn,JF];omega) fun pv2 pp2 h8 hg2 _ hS2=>?_;simp+decide only[qh,qi,qj,qo,ev,qZ,qY,putD,Vz,VA,VB,Ka,VC,VD,Kb,and_true,↓XE,Xg,XP,XF,↓Qo,Qd,UJ,qM,ne_eq,not_false_eq_true,ne_8q7_p,ne_8q7_p.symm,ne_8q7_s,ne_8q7_s.symm,qO w0 eb_p,qO w0 eb_s,ne_p_s,ne_p_s.symm,qN,qJ,VE,setAt,VF,Kj,qC,VG,Kn,Jp,Nat.reduceAdd,qF,qG,qI,qf,qK,qa,qz,qd,qE,qc,qA,qg,qH,qy,allLive,J4,tokV,posV,faultV,hlv,hbl,nb,hov,hpl];repeat (with_reducible refine And.intro ?_ ?_;· first|trivial|omega|(intro hg;simp only[Ky,JH,Jh,VH,VI,VJ,decide_eq_true_eq,decide_eq_false_iff_not,qR]at hg;omega))
    refine QR (v:=pv2) (by rfl) (by rfl) (hS2.at_ (i:=3) rfl) sz45 hg2.live (by rw[hg2.cells];rfl) (by simp only[hg2.cells,KX,JD];omega) (Jq _) (by rw[hg2.cells];simp[XR,hg2.scal]) ?_;simp only[hg2.cells,setAt,VF,Kj,Jp,Nat.reduceAdd];simp+decide only[qh,qi,qj,qo,ev,qZ,qY,putD,Vz,VA,VB,Ka,VC,VD,Kb,and_true,qM,ne_eq,not_false_eq_true,ne_8q7_p,ne_8q7_p.symm,ne_8q7_s,ne_8q7_s.symm,qO w0 eb_p,qO w0 eb_s,ne_p_s,ne_p_s.symm,qN,qJ,VE,setAt,VF,Kj,qC,VG,Kn,Jp,Nat.reduceAdd,qF,qG,qI,qf,qK,qa,qz,qd,qE,qc,qA,qg,qH,qy,allLive,J4,tokV,posV,faultV,hlv,hbl,nb,hov,hpl];have eb_p:h8 kp=some _:=hS2.at_ (i:=1) rfl;have hs8:Sub B h8:=hS2.in_ (i:=0) rfl;change Awp _ _ _ _ _ _ _;refine XZ [] (by rfl) ?_;simp+decide only[qh,qi,qj,qo,ev,qZ,qY,putD,Vz,VA,VB,Ka,VC,VD,Kb,and_true,↓qW,qU,↓XE,Xg,XP,XF,↓Qo,Qd,Wl,↓Qu,QM,Qi ag3,↓Qj,Qa,Qz,cond_false,Qh,XM,qM,ne_eq,not_false_eq_true,ne_8q7_p,ne_8q7_p.symm,ne_8q7_s,ne_8q7_s.symm,qO w0 eb_p,qO w0 eb_s,ne_p_s,ne_p_s.symm,qN,qJ,VE,setAt,VF,Kj,qC,VG,Kn,Jp,Nat.reduceAdd,qF,qG,qI,qf,qK,qa,qz,qd,qE,qc,qA,qg,qH,qy,allLive,J4,tokV,posV,faultV,hlv,hbl,nb,hov];try simp(disch:=omega)only[wrap_i64,wrap_u8]
    repeat (with_reducible refine And.intro ?_ ?_;· first|trivial|omega|(intro hg;simp only[Ky,JH,Jh,VH,VI,VJ,decide_eq_true_eq,decide_eq_false_iff_not,qR]at hg;omega))
    refine QR (by rfl) (by rfl) zqA sz3 (by rfl) (by rfl) zqD (Jq _) (by rfl) ?_;simp only[Bi,setAt,VE,VF,Kj,Jp,Nat.reduceAdd];simp+decide only[qh,qi,qj,qo,ev,qZ,qY,putD,Vz,VA,VB,Ka,VC,VD,Kb,and_true,qM,ne_eq,not_false_eq_true,ne_8q7_p,ne_8q7_p.symm,ne_8q7_s,ne_8q7_s.symm,qO w0 eb_p,qO w0 eb_s,ne_p_s,ne_p_s.symm,qN,qJ,VE,setAt,VF,Kj,qC,VG,Kn,Jp,Nat.reduceAdd,qF,qG,qI,qf,qK,qa,qz,qd,qE,qc,qA,qg,qH,qy,allLive,J4,tokV,posV,faultV,hlv,hbl,nb,hov];repeat (with_reducible refine And.intro ?_ ?_;· first|trivial|omega|(intro hg;simp only[Ky,JH,Jh,VH,VI,VJ,decide_eq_true_eq,decide_eq_false_iff_not,qR]at hg;omega))
    try simp only[WR,Yy,QK,Qt]
    try simp only[QF,Qn]
    refine qeE (Qv) ?_;simp+decide only[qh,qi,qj,qo,ev,qZ,qY,putD,Vz,VA,VB,Ka,VC,VD,Kb,and_true,qeF,qM,ne_eq,not_false_eq_true,ne_8q7_p,ne_8q7_p.symm,ne_8q7_s,ne_8q7_s.symm,qO w0 eb_p,qO w0 eb_s,ne_p_s,ne_p_s.symm,qN,qJ,VE,setAt,VF,Kj,qC,VG,Kn,Jp,Nat.reduceAdd,qF,qG,qI,qf,qK,qa,qz,qd,qE,qc,qA,qg,qH,qy,allLive,J4,tokV,posV,faultV,hlv,hbl,nb,hov];cases hok;have hS8:=(hS2.put (i:=3) rfl (curB {c with phrases:=c.phrases++[⟨S.1,[]⟩]} pv2 bv)).put (i:=1) rfl (parB3 v (i+S.2) ov);have hS9:=(BK (ps:=[tp,E]) (hS8.pick [5,7,0,1,2,3,4,6] (by decide) (by simp))).emp.pick [1,2,3,4,5,7,6,0] (by decide) (by simp);have hsu:=Yb (ps:=[tp,E]) (hS8.pick [5,7] (by decide) (by simp)).2;exact⟨_,Vg _,_,_,_,_,⟨⟨qs++[(⟨w,ts⟩,tv)],S.1,[], .nilSlice,by simp only;rw[hph,VZ];rfl,by rw[VZ];exact hg2, .nil,fun q hq=>by
     rcases JS.1 hq with hq|hq
     ·exact(hqE q hq).mono (hsu E (by simp))
     ·rw[V4.1 hq]
      exact hgt.isL (hsu tp (by simp))⟩,by
     obtain⟨bs,b1,b2,b3⟩:=hc.bd;exact⟨bs,b1,b2,fun b hb=>⟨(b3 b hb).1.mono (hsu E (by simp)),(b3 b hb).2.mono (hsu E (by simp))⟩⟩⟩,hS9⟩
   ·try simp only[decide_eq_true_eq,decide_eq_false_iff_not,Jh,VJ,Ky,VH,JH,VI,VV,VW,reduceCtorEq]at hb3
    rw[if_neg (by rw[hb3];simp)]at hok;refine QJ ?_;change Awp _ _ _ _ _ _ _;refine XZ [] (by rfl) ?_;simp+decide only[qh,qi,qj,qo,ev,qZ,qY,putD,Vz,VA,VB,Ka,VC,VD,Kb,and_true,↓qW,qU,↓XE,Xg,XP,XF,↓Qo,Qd,Wl,↓Qu,QM,Qi ag3,↓Qj,Qa,Qz,cond_false,Qh,XM,qM,ne_eq,not_false_eq_true,qO w0 eb_p,qO w0 eb_s,ne_p_s,ne_p_s.symm,qN,qJ,VE,setAt,VF,Kj,qC,VG,Kn,Jp,Nat.reduceAdd,qF,qG,qI,qf,qK,qa,qz,qd,qE,qc,qA,qg,qH,qy,allLive,J4,tokV,posV,faultV,hlv,hbl,nb,hov];try simp(disch:=omega)only[wrap_i64,wrap_u8]
    repeat (with_reducible refine And.intro ?_ ?_;· first|trivial|omega|(intro hg;simp only[Ky,JH,Jh,VH,VI,VJ,decide_eq_true_eq,decide_eq_false_iff_not,qR]at hg;omega))
    refine QR (by rfl) (by rfl) zqA sz3 (by rfl) (by rfl) zqD (Jq _) (by rfl) ?_;simp only[Bi,setAt,VE,VF,Kj,Jp,Nat.reduceAdd];simp+decide only[qh,qi,qj,qo,ev,qZ,qY,putD,Vz,VA,VB,Ka,VC,VD,Kb,and_true,qM,ne_eq,not_false_eq_true,qO w0 eb_p,qO w0 eb_s,ne_p_s,ne_p_s.symm,qN,qJ,VE,setAt,VF,Kj,qC,VG,Kn,Jp,Nat.reduceAdd,qF,qG,qI,qf,qK,qa,qz,qd,qE,qc,qA,qg,qH,qy,allLive,J4,tokV,posV,faultV,hlv,hbl,nb,hov];repeat (with_reducible refine And.intro ?_ ?_;· first|trivial|omega|(intro hg;simp only[Ky,JH,Jh,VH,VI,VJ,decide_eq_true_eq,decide_eq_false_iff_not,qR]at hg;omega))
    try simp only[WR,Yy,QK,Qt]
    try simp only[QF,Qn]
    refine qeE (Qv) ?_;simp+decide only[qh,qi,qj,qo,ev,qZ,qY,putD,Vz,VA,VB,Ka,VC,VD,Kb,and_true,qeF,qM,ne_eq,not_false_eq_true,qO w0 eb_p,qO w0 eb_s,ne_p_s,ne_p_s.symm,qN,qJ,VE,setAt,VF,Kj,qC,VG,Kn,Jp,Nat.reduceAdd,qF,qG,qI,qf,qK,qa,qz,qd,qE,qc,qA,qg,qH,qy,allLive,J4,tokV,posV,faultV,hlv,hbl,nb,hov];cases hok;exact⟨_,Vg _,_,_,_,_,hc,hS.put (i:=1) rfl _⟩
abbrev strC(s:Str):List AVal:=[.str s]
def qiY(B:AHeap)(Q:FaultC->Prop):AVal->AHeap->Prop:=fun x h'=>∃f,Q f/\x= .iface 28 (faultV f)/\Sub B h'
structure ParS(w0:World)(l:List TokC)(B:AHeap)(v ov:AVal)(op:AHeap)(O:List Str)(i:Nat):Prop where
 toks:IsL w0 B 5 v (l.map Zh)
 open_:GrowV 1 ov op (O.map strC)
 isG:isG ov=true
 at_:i<=l.length
abbrev ListRO(l:List TokC):=ListR QY l Xi
abbrev StRO(l:List TokC):=StR QY l Xi
abbrev BodyRO(l:List TokC):=BodyR QY l Xi
abbrev LoopRO(l:List TokC):=LoopR QY l Xi
def qhM(w0:World)(l:List TokC)(B:AHeap)(kp:Nat)(v:AVal)(O:List Str)(dd i:Nat):AVal->AHeap->Prop:=fun r h'=>∃L j ov' op' E,ListRO l dd O i [] (.ok L j)/\i<=j/\L.length<=j-i/\StsV w0 (33-dd) E r L/\ParS w0 l B v ov' op' O j/\Sep [B,one kp (parB3 v j ov'),op',E] h'
def qoa(w0:World)(l:List TokC)(B:AHeap)(kp:Nat)(v:AVal)(O:List Str)(dd i:Nat):AVal->AHeap->Prop:=fun r h'=>dd<=32/\∃s j ov' op' E pv bv,StRO l dd O i (.ok s j)/\i<j/\r= .agg (qdV (s,pv,bv))/\PhV w0 E pv s.phrases/\BdV w0 (StsV w0 (32-dd) E) E bv s.bodies/\ParS w0 l B v ov' op' O j/\Sep [B,one kp (parB3 v j ov'),op',E] h'
def qjd(w0:World)(l:List TokC)(B:AHeap)(kp ks:Nat)(v pv:AVal)(pp tp:AHeap)(O:List Str)(dd n i:Nat)(c:Cur)(w:Str):AHeap->Prop:=fun h'=>∃c' j ov' op' bv' bp' E',BodyRO l dd O c w n i (.ok c' j)/\i<j/\c'.phrases=c.phrases/\c'.verb=c.verb/\c'.line=c.line/\c'.col=c.col/\c'.bodies.length=c.bodies.length+1/\CurS w0 (32-dd) c' pv bv' pp tp bp' E'/\ParS w0 l B v ov' op' O j/\Sep [B,one kp (parB3 v j ov'),op',one ks (curB c' pv bv'),pp,tp,bp',E'] h'
def qjY(w0:World)(l:List TokC)(dd:Nat):Prop:=∀(h B:AHeap) (kp:Nat) (v ov:AVal) (op:AHeap) (O:List Str) (i:Nat),Sep [B,one kp (parB3 v i ov),op] h->ParS w0 l B v ov op O i->Fair O->O.length+1=dd->
 ACallE Tryd.prog w0 19 [.ptr (.own kp) 0, .int .i64 dd] h (qhM w0 l B kp v O dd i) (qiY B fun f=>ListRO l dd O i [] (.bad f))
def StmK(w0:World)(l:List TokC)(dd:Nat):Prop:=∀(h B:AHeap) (kp:Nat) (v ov:AVal) (op:AHeap) (O:List Str) (i:Nat),Sep [B,one kp (parB3 v i ov),op] h->ParS w0 l B v ov op O i->Fair O->O.length+1=dd->isV l i=true->
 ACallE Tryd.prog w0 38 [.ptr (.own kp) 0, .int .i64 dd] h (qoa w0 l B kp v O dd i) (qiY B fun f=>StRO l dd O i (.bad f))
def BodK(w0:World)(l:List TokC)(dd:Nat):Prop:=∀(h B:AHeap) (kp ks:Nat) (v ov bv pv:AVal) (op pp tp bp E:AHeap) (O:List Str) (c:Cur) (w:Str) (n i:Nat),Sep [B,one kp (parB3 v i ov),op,one ks (curB c pv bv),pp,tp,bp,E] h->ParS w0 l B v ov op O i->CurS w0 (32-dd) c pv bv pp tp bp E->Fair O->O.length=dd->i+n<=l.length->0<n\/isV l i=true->Few c i->
 ACallE Tryd.prog w0 59 [.ptr (.own kp) 0, .ptr (.own ks) 0, .str w, .int .i64 n, .int .i64 dd] h (fun r h'=>r= .tuple []/\qjd w0 l B kp ks v pv pp tp O dd n i c w h') (qiY B fun f=>BodyRO l dd O c w n i (.bad f))
theorem qsb{l:List TokC}{i:Nat}(h:isV l i=true):i<l.length:=by
 unfold isV at h;by_cases hi:i<l.length
 ·exact hi
 ·rw[if_neg hi]at h;cases h
structure LsG where
 i:Nat
 ov:AVal
 op:AHeap
 E:AHeap
 qs:List (StC×AVal×AVal)
 rv:AVal
 rp:AHeap
 H:AHeap
structure LsI(w0:World)(l:List TokC)(B:AHeap)(kp:Nat)(v:AVal)(O:List Str)(dd i₀:Nat)(g:LsG):Prop where
 sep:Sep [B,one kp (parB3 v g.i g.ov),g.op,g.rp,g.E] g.H
 par:ParS w0 l B v g.ov g.op O g.i
 row:GrowV 5 g.rv g.rp (g.qs.map qdV)
 els:∀q∈g.qs,PhV w0 g.E q.2.1 q.1.phrases/\BdV w0 (StsV w0 (32-dd) g.E) g.E q.2.2 q.1.bodies
 le:i₀<=g.i
 few:g.qs.length<=g.i-i₀
 deep:dd<=32\/g.qs=[]
 go:∀r,ListRO l dd O g.i (g.qs.map (·.1)) r->ListRO l dd O i₀ [] r
set_option maxHeartbeats 4000000 in
theorem qrZ(w0:World)(hm:MaxL w0)(l:List TokC)(hl:l.length<=65537)(hsh:Short l)(dd:Nat)(hdd:dd<=33)(hst:StmK w0 l dd):qjY w0 l dd:=by
 intro h B kp v ov op O i₀ hS hP hF hO;refine qaP (k:=36) (rs:=[.tmp 4]) Tryd.func19 rfl rfl rfl rfl (Vy rfl) ?_;simp only[Xe];refine awp_rseq [0,1] (by rfl) fun K hK=>?_;simp+decide only[qh,qi,qj,qo,ev,qZ,qY,putD,Vz,VA,VB,Ka,VC,VD,Kb,and_true,↓qV,qP,qM,ne_eq,not_false_eq_true,qN,qJ,VE,setAt,VF,Kj,qC,VG,Kn,Jp,Nat.reduceAdd,qF,qG,qI,qf,qK,qa,qz,qd,qE,qc,qA,qg,qH,qy,allLive,J4,tokV,posV,faultV];repeat (with_reducible refine And.intro ?_ ?_;· first|trivial|omega|(intro hg;simp only[Ky,JH,Jh,VH,VI,VJ,decide_eq_true_eq,decide_eq_false_iff_not,qR]at hg;omega))
 apply hK;clear hK K;refine awp_rseq [0,1,5] (by rfl) fun K hK=>?_;simp+decide only[qh,qi,qj,qo,ev,qZ,qY,putD,Vz,VA,VB,Ka,VC,VD,Kb,and_true,↓qV,qP,qM,ne_eq,not_false_eq_true,qN,qJ,VE,setAt,VF,Kj,qC,VG,Kn,Jp,Nat.reduceAdd,qF,qG,qI,qf,qK,qa,qz,qd,qE,qc,qA,qg,qH,qy,allLive,J4,tokV,posV,faultV];repeat (with_reducible refine And.intro ?_ ?_;· first|trivial|omega|(intro hg;simp only[Ky,JH,Jh,VH,VI,VJ,decide_eq_true_eq,decide_eq_false_iff_not,qR]at hg;omega))
 apply hK;clear hK K;refine Qp ?_;refine QL ?_;refine XI [0,1,5] (fun g:LsG=>[(0, .ptr (.own kp) 0),(1, .int .i64 dd),(5,g.rv)]) (fun g:LsG=>g.H) (fun g:LsG=>LsI w0 l B kp v O dd i₀ g) (fun g:LsG=>l.length-g.i) ⟨i₀,ov,op,emp,[], .nilSlice,emp,h⟩ (by rfl) (Vg _) ⟨hS.emp.emp,hP, .nil,(fun q hq=>by cases hq),KL _,Jq _, .inr rfl,fun r hr=>hr⟩ ?_;rintro⟨i,ov,op,E,qs,rv,rp,H⟩ hI;obtain⟨hS,hP,hrow,hels,hle,hfew,hdeep,hgo⟩:=hI;simp only at hS hP hrow hels hle hfew hdeep hgo|-
 have hs_H:Sub B H:=hS.in_ (i:=0) rfl;have eb_p:H kp=some _:=hS.at_ (i:=1) rfl;have hv:=hP.toks;have hlv:=hv.live;have nv:=Yl hv;have hrl:=hrow.live;refine Qp ?_;have mcase:(∃(lc:AM.Loc) (o:Nat) (c:Cap),v= .slice lc o l.length c/\i<l.length/\decide ((i:Int)<(l.length:Int))=true/\rd w0 H lc (o+i*5)= .int .u8 (l.getD i noT).kind.toNat/\rd w0 H lc (o+i*5+1)= .str (l.getD i noT).text/\rd w0 H lc (o+i*5+2)= .int .i64 (l.getD i noT).line/\rd w0 H lc (o+i*5+3)= .int .i64 (l.getD i noT).col/\rd w0 H lc (o+i*5+4)= .bool (l.getD i noT).left)\/
  (∃(lc:AM.Loc) (o:Nat) (c:Cap),v=v/\¬i<l.length/\decide ((i:Int)<(l.length:Int))=false/\True/\True/\True/\True/\True):=by
  by_cases hlt:i<l.length
  ·obtain⟨lc,o,c,hve⟩:=YA hv (by omega)
   have hv2:=hv.mono hs_H;rw[hve]at hv2;exact .inl ⟨lc,o,c,hve,hlt,by simpa using hlt,Uy hv2 hlt⟩
  ·exact .inr ⟨.base 0,0, .exact 0,rfl,hlt,by simpa using hlt,trivial,trivial,trivial,trivial,trivial⟩
 refine qgj [0,1,5,28] mixed (by kernel_rfl) (by rfl) fun K hK=>?_;suffices hM:∀b:Bool,b=isV l i->K [(0, .ptr (.own kp) 0),(1, .int .i64 dd),(5,rv),(28, .bool b)] (H) by
  rcases mcase with⟨lc,o,c,hve,hkl,hkd,e0,e1,e2,e3,e4⟩|⟨lc,o,c,hve,hkl,hkd,e0,e1,e2,e3,e4⟩<;>(
   simp+decide only[qh,qi,qj,qo,ev,qZ,qY,putD,Vz,VA,VB,Ka,VC,VD,Kb,and_true,↓qkb,qU,↓qla,Xg,XP,XF,↓Yr,Qd,Wl,↓qds,Yg,Qi ag3,qco,Qi qbR,↓vp_len,Xh,QE Tryd.underlying31,QT Tryd.underlying31,↓qlb,Qa,Qz,cond_false,Qh,Zo,↓qoh,vgP,qhP,gv,QB,QD,QC,Qs,Qg,Qe,Zk,implies_true,VK,decide_true,decide_false,VL,VM,Qc,Qb,forall_const,false_implies,Qk,Qf,J4,VN,VO,VP,VQ,VS,VT,VU,Xb,Xc,Xa,↓qlc,qgS,qgT,↓qfz,XN,XO,↓qoi,ZH,ZP,ZO,ZN,ZM,ZL,ZK,ZI,ZJ,↓qfy,Uv,Uu,Ut,Us,Ur,Uo,Uj,Ui,Un,Um,Ul,Uk,Ql Tryd.underlying31 Yv,YL,YK,YN,YM,Xy qhB Yv,qM,ne_eq,not_false_eq_true,qO w0 eb_p,qN,qJ,VE,setAt,VF,Kj,qC,VG,Kn,Jp,Nat.reduceAdd,qF,qG,qI,qf,qK,qa,qz,qd,qE,qc,qA,qg,qH,qy,allLive,J4,tokV,posV,faultV,hlv,nv,hrl,hve,hkd,e0,e1,e2,e3,e4,VX,K6,qaL,Qb,Qc,VP,VO];repeat (with_reducible refine And.intro ?_ ?_;· first|trivial|omega|(intro hg;simp only[Ky,JH,Jh,VH,VI,VJ,decide_eq_true_eq,decide_eq_false_iff_not,qR]at hg;omega))
   first
   |(refine qrf (by rfl) ?_)
   |(refine qfh (V:= .bool (Uh (l.getD i noT))) (f:=37) (cap:=[]) (xs:=[tokV (l.getD i noT)]) (by rfl) (fun hg=>⟨rfl,rfl⟩) (fun hg=>qen w0 hm _ _ (hsh.at hkl)) ?_)
   simp+decide only[qh,qi,qj,qo,ev,qZ,qY,putD,Vz,VA,VB,Ka,VC,VD,Kb,and_true,gv,QB,Qg,Qe,Qs,↓qog,Xj,QO,QH,QG,QA,Xo,Xn,Xm,Xl,QZ,Xk,qM,ne_eq,not_false_eq_true,qO w0 eb_p,qN,qJ,VE,setAt,VF,Kj,qC,VG,Kn,Jp,Nat.reduceAdd,qF,qG,qI,qf,qK,qa,qz,qd,qE,qc,qA,qg,qH,qy,allLive,J4,tokV,posV,faultV,hlv,nv,hrl,hve,hkd,e0,e1,e2,e3,e4,VX,K6,qaL,Qb,Qc,VP,VO];repeat (with_reducible refine And.intro ?_ ?_;· first|trivial|omega|(intro hg;simp only[Ky,JH,Jh,VH,VI,VJ,decide_eq_true_eq,decide_eq_false_iff_not,qR]at hg;omega))
   (refine hM _ ?_;unfold isV;first|rw[if_pos hkl]|rw[if_neg hkl]))
 intro b hb_2;apply hK;clear hK K;refine Qw (b:=_) rfl (fun hb1=>?_) (fun hb1=>?_)
 ·try simp only[decide_eq_true_eq,decide_eq_false_iff_not,Jh,VJ,Ky,VH,JH,VI,VV,VW,reduceCtorEq]at hb1
  have hv1:isV l i=true:=by rw[<-hb_2];exact hb1
  have hdj:[B,rp,E].Pairwise disj:=(hS.pick [0,3,4] (by decide) (by simp)).2;have hcall:=hst H (qaY [B,rp,E]) kp v ov op O i (BK (ps:=[B,rp,E]) (hS.pick [0,3,4,1,2] (by decide) (by simp))) ⟨hv.mono (Yb hdj B (by simp)),hP.open_,hP.isG,hP.at_⟩ hF hO hv1;refine QJ ?_;change Awp _ _ _ _ _ _ _;refine QL ?_;by_cases hbad:∃f,StRO l dd O i (.bad f)
  ·skip
   refine YO 3 (by rfl) (by rfl) ?_;simp only[Ki,Bj];simp+decide only[qh,qi,qj,qo,ev,qZ,qY,putD,Vz,VA,VB,Ka,VC,VD,Kb,and_true,↓qW,qU,qM,ne_eq,not_false_eq_true,qO w0 eb_p,qN,qJ,VE,setAt,VF,Kj,qC,VG,Kn,Jp,Nat.reduceAdd,qF,qG,qI,qf,qK,qa,qz,qd,qE,qc,qA,qg,qH,qy,allLive,J4,tokV,posV,faultV,hrl];repeat (with_reducible refine And.intro ?_ ?_;· first|trivial|omega|(intro hg;simp only[Ky,JH,Jh,VH,VI,VJ,decide_eq_true_eq,decide_eq_false_iff_not,qR]at hg;omega))
   refine⟨⟨_,_,by rfl,?_⟩,by intro i;first|trivial|exact .inr trivial|exact .inr rfl⟩;obtain⟨f,hf⟩:=hbad;refine(hcall.bad fun x h' ⟨_,s,j,_,_,_,_,_,q,_⟩=>by cases q.one hf).mono (fun _ _ q=>q) fun x h' ⟨f',q1,q2,q3⟩=>⟨f',hgo _ (ListR.bad hv1 q1),q2,(Yb hdj B (by simp)).trans q3⟩
  refine XZ [0,1,5] (by rfl) ?_;simp+decide only[qh,qi,qj,qo,ev,qZ,qY,putD,Vz,VA,VB,Ka,VC,VD,Kb,and_true,↓qW,qU,qM,ne_eq,not_false_eq_true,qO w0 eb_p,qN,qJ,VE,setAt,VF,Kj,qC,VG,Kn,Jp,Nat.reduceAdd,qF,qG,qI,qf,qK,qa,qz,qd,qE,qc,qA,qg,qH,qy,allLive,J4,tokV,posV,faultV,hrl];repeat (with_reducible refine And.intro ?_ ?_;· first|trivial|omega|(intro hg;simp only[Ky,JH,Jh,VH,VI,VJ,decide_eq_true_eq,decide_eq_false_iff_not,qR]at hg;omega))
  refine QN (by rfl) (by rfl) (hcall.ok fun x h' ⟨f,q,_⟩=>hbad ⟨f,q⟩) fun x3q3 h3q3 hx3q3=>?_;obtain⟨hd3,s,j,ov2,op2,E2,pv,bv,hR3,hij,rfl,hph3,hbd3,hP3,hS3⟩:=hx3q3;have hS3:=hS3.unfold hdj;have hs_3:Sub B h3q3:=hS3.in_ (i:=0) rfl;refine QS (cs:=qdV (s,pv,bv)) (by kernel_rfl) fun k3q4 hk3q4=>?_;refine Ub (es:=5) (v:=rv) (p:=rp) (xs:=qs.map qdV) (ys:=[qdV (s,pv,bv)]) (i:=1) (by rfl) (by rfl) Tryd.underlying23 Tryd.underlying23 (fun k e=>by cases e) WJ by48 qka (by rfl) (by decide) (by rfl) hrow rfl (hS3.forget (V8 hk3q4)) (by rfl) (V9 (Vf _ _ _) (fun x hx=>by rw[V4.1 hx];rfl) (by rfl) (by show(true && (true && (true && (pv.live && (bv.live && true)))))=true;rw[hph3.live,hbd3.live];rfl) (.exact 1) (KL _)) (by show(true && (true && (true && (pv.scal && (bv.scal && true)))))=true;rw[hph3.scal,hbd3.scal];rfl) (by simp) (by rw[Jn,JF];have:=hP.at_;omega) (by rw[Jn,JF];have:=hP.at_;omega) fun rv2 rp2 h4 hrow2 _ hS4=>?_;simp+decide only[qh,qi,qj,qo,ev,qZ,qY,putD,Vz,VA,VB,Ka,VC,VD,Kb,and_true,↓qV,qP,qM,ne_eq,not_false_eq_true,qO w0 eb_p,qN,qJ,VE,setAt,VF,Kj,qC,VG,Kn,Jp,Nat.reduceAdd,qF,qG,qI,qf,qK,qa,qz,qd,qE,qc,qA,qg,qH,qy,allLive,J4,tokV,posV,faultV,hrl];repeat (with_reducible refine And.intro ?_ ?_;· first|trivial|omega|(intro hg;simp only[Ky,JH,Jh,VH,VI,VJ,decide_eq_true_eq,decide_eq_false_iff_not,qR]at hg;omega))
  try simp only[QK,Qt]
  have hu:∀p∈[E,E2],Sub p (qaY [E,E2]):=Yb (hS4.pick [2,5] (by decide) (by simp)).2;refine⟨⟨j,ov2,op2,qaY [E,E2],qs++[(s,pv,bv)],rv2,rp2,h4⟩,rfl,Vg _,⟨(BK (ps:=[E,E2]) (hS4.pick [2,5,0,3,4,1] (by decide) (by simp))).pick [1,2,3,4,0] (by decide) (by simp),⟨hv,hP3.open_,hP3.isG,hP3.at_⟩,by simp only;rw[VZ];exact hrow2,fun q hq=>?_,by simp only;omega,by simp only[Jb,JF];omega, .inl hd3,fun r hr=>?_⟩,by have:=hP3.at_;simp only;omega⟩
  ·rcases JS.1 hq with z|z
   ·exact⟨(hels q z).1.mono (hu E (by simp)),(hels q z).2.mono (hu E (by simp)) fun _ _=>BL (hu E (by simp))⟩
   ·rw[V4.1 z]
    exact⟨hph3.mono (hu E2 (by simp)),hbd3.mono (hu E2 (by simp)) fun _ _=>BL (hu E2 (by simp))⟩
  ·refine hgo r (ListR.next hv1 hR3 ?_)
   simp only[VZ,Ke,Vh]at hr;exact hr
 ·try simp only[decide_eq_true_eq,decide_eq_false_iff_not,Jh,VJ,Ky,VH,JH,VI,VV,VW,reduceCtorEq]at hb1
  have hv1:isV l i=false:=by rw[<-hb_2,hb1]
  refine XJ ?_;change Awp _ _ _ _ _ _ _;refine awp_rseq [4] (by rfl) fun K hK=>?_;simp+decide only[qh,qi,qj,qo,ev,qZ,qY,putD,Vz,VA,VB,Ka,VC,VD,Kb,and_true,↓qW,qU,↓qV,qP,qM,ne_eq,not_false_eq_true,qO w0 eb_p,qN,qJ,VE,setAt,VF,Kj,qC,VG,Kn,Jp,Nat.reduceAdd,qF,qG,qI,qf,qK,qa,qz,qd,qE,qc,qA,qg,qH,qy,allLive,J4,tokV,posV,faultV,hrl];repeat (with_reducible refine And.intro ?_ ?_;· first|trivial|omega|(intro hg;simp only[Ky,JH,Jh,VH,VI,VJ,decide_eq_true_eq,decide_eq_false_iff_not,qR]at hg;omega))
  apply hK;clear hK K;refine Xd ?_;try simp only[QF,Qn]
  refine Xu (Qr (Qv)) ?_;simp+decide only[qh,qi,qj,qo,ev,qZ,qY,putD,Vz,VA,VB,Ka,VC,VD,Kb,and_true,QU,qM,ne_eq,not_false_eq_true,qO w0 eb_p,qN,qJ,VE,setAt,VF,Kj,qC,VG,Kn,Jp,Nat.reduceAdd,qF,qG,qI,qf,qK,qa,qz,qd,qE,qc,qA,qg,qH,qy,allLive,J4,tokV,posV,faultV];have hu:∀p∈[rp,E],Sub p (qaY [rp,E]):=Yb (hS.pick [3,4] (by decide) (by simp)).2;have hrr:=hrow.isL (w0:=w0) (hu rp (by simp));refine⟨H,Vg _,qs.map (·.1),i,ov,op,qaY [rp,E],hgo _ (ListR.stop hv1),hle,by rw[Jn];exact hfew,?_,hP,(BK (ps:=[rp,E]) (hS.pick [3,4,0,1,2] (by decide) (by simp))).pick [1,2,3,0] (by decide) (by simp)⟩;rcases hdeep with hd|hq
  ·rw[show 33-dd=(32-dd)+1 by omega]
   exact⟨qs,rfl,hrr,fun q hq=>⟨(hels q hq).1.mono (hu E (by simp)),(hels q hq).2.mono (hu E (by simp)) fun _ _=>BL (hu E (by simp))⟩⟩
  ·subst hq
   cases h0:33-dd with
   |zero=>exact⟨rfl,hrr⟩
   |succ d=>exact⟨[],rfl,hrr,fun q hq=>by cases hq⟩
structure B1G where
 j:Nat
 H:AHeap
structure B2G where
 toks:List TokC
 i:Nat
 tv:AVal
 q:AHeap
 H:AHeap
structure B2I(w0:World)(l:List TokC)(B:AHeap)(kp ks kb:Nat)(v ov pv bv:AVal)(op pp tp bp E:AHeap)(c:Cur)(w:Str)(i₀:Nat)(g:B2G):Prop where
 sep:Sep [B,one kp (parB3 v g.i ov),op,one ks (curB c pv bv),pp,tp,bp,E,one kb ⟨[.str w,g.tv, .nilSlice],0⟩,g.q] g.H
 row:GrowV 5 g.tv g.q (g.toks.map Zh)
 at_:g.i<=l.length
 le:i₀<=g.i
 few:g.toks.length<=g.i
theorem qdU{l:List TokC}{fm:Str}{i:Nat}{acc:List TokC}(h:isE l i=true\/isV l i=true\/qae l i≠[]\/0<(Xr l i fm).2):qcb l fm (l.length-i) i acc=(acc,i):=by
 cases hf:l.length-i with
 |zero=>rfl
 |succ f=>rw[qcb,if_pos h]
theorem qkZ{l:List TokC}{fm:Str}{i:Nat}{acc:List TokC}(hi:i<l.length)(h:¬(isE l i=true\/isV l i=true\/qae l i≠[]\/0<(Xr l i fm).2)):qcb l fm (l.length-i) i acc=qcb l fm (l.length-(i+1)) (i+1) (acc++[l.getD i noT]):=by
 obtain⟨f,hf⟩:∃f,l.length-i=f+1:=⟨l.length-i-1,by omega⟩
 rw[hf,qcb,if_neg h,show l.length-(i+1)=f by omega]
def goW(l:List TokC)(i:Nat):Bool:= !(isE l i||(isV l i|| !decide (qae l i=[])))
theorem goW_end{l:List TokC}{i:Nat}(h:¬i<l.length):goW l i=false:=by unfold goW isE;rw[if_neg h];rfl
theorem goW_in{l:List TokC}{i:Nat}(h:i<l.length):goW l i=(!decide ((l.getD i noT).kind=6) && (!Uh (l.getD i noT) && decide (qdG (l.getD i noT)=[]))):=by
 unfold goW isE isV qae;rw[if_pos h,if_pos h];cases decide ((l.getD i noT).kind=6)<;>cases Uh (l.getD i noT)<;>cases decide (qdG (l.getD i noT)=[])<;>rfl
def MC11(w0:World)(H:AHeap)(l:List TokC)(v:AVal)(a:Nat):Prop:=
 (∃(lc:AM.Loc) (o:Nat) (c:Cap),v=v/\decide ((a:Int)<(l.length:Int))=false/\¬a<l.length/\True/\True/\True/\True/\True/\True/\True/\goW l a=false)\/
 (∃(lc:AM.Loc) (o:Nat) (c:Cap),v= .slice lc o l.length c/\decide ((a:Int)<(l.length:Int))=true/\a<l.length/\decide (((l.getD a noT).kind.toNat:Int)=6)=true/\True/\rd w0 H lc (o+a*5)= .int .u8 (l.getD a noT).kind.toNat/\rd w0 H lc (o+a*5+1)= .str (l.getD a noT).text/\rd w0 H lc (o+a*5+2)= .int .i64 (l.getD a noT).line/\rd w0 H lc (o+a*5+3)= .int .i64 (l.getD a noT).col/\rd w0 H lc (o+a*5+4)= .bool (l.getD a noT).left/\goW l a=false)\/
 (∃(lc:AM.Loc) (o:Nat) (c:Cap),v= .slice lc o l.length c/\decide ((a:Int)<(l.length:Int))=true/\a<l.length/\decide (((l.getD a noT).kind.toNat:Int)=6)=false/\Uh (l.getD a noT)=true/\rd w0 H lc (o+a*5)= .int .u8 (l.getD a noT).kind.toNat/\rd w0 H lc (o+a*5+1)= .str (l.getD a noT).text/\rd w0 H lc (o+a*5+2)= .int .i64 (l.getD a noT).line/\rd w0 H lc (o+a*5+3)= .int .i64 (l.getD a noT).col/\rd w0 H lc (o+a*5+4)= .bool (l.getD a noT).left/\goW l a=false)\/
 (∃(lc:AM.Loc) (o:Nat) (c:Cap),v= .slice lc o l.length c/\decide ((a:Int)<(l.length:Int))=true/\a<l.length/\decide (((l.getD a noT).kind.toNat:Int)=6)=false/\Uh (l.getD a noT)=false/\rd w0 H lc (o+a*5)= .int .u8 (l.getD a noT).kind.toNat/\rd w0 H lc (o+a*5+1)= .str (l.getD a noT).text/\rd w0 H lc (o+a*5+2)= .int .i64 (l.getD a noT).line/\rd w0 H lc (o+a*5+3)= .int .i64 (l.getD a noT).col/\rd w0 H lc (o+a*5+4)= .bool (l.getD a noT).left/\goW l a=decide (qdG (l.getD a noT)=[]))
theorem mc11{w0:World}{H:AHeap}{l:List TokC}{v:AVal}{a:Nat}(hv:IsL w0 H 5 v (l.map Zh)):MC11 w0 H l v a:=by
 by_cases hlt:a<l.length
 ·obtain⟨lc,o,c,hve⟩:=YA hv (by omega)
  rw[hve]at hv;have he:=Uy hv hlt;have hg:=goW_in hlt;have z6:decide (((l.getD a noT).kind.toNat:Int)=6)=decide ((l.getD a noT).kind=6):=Wj _ 6;have hd:decide ((a:Int)<(l.length:Int))=true:=by simpa using hlt
  obtain⟨e0,e1,e2,e3,e4⟩:=he;by_cases q6:(l.getD a noT).kind=6
  ·exact .inr (.inl ⟨lc,o,c,hve,hd,hlt,by rw[z6];exact decide_eq_true q6,trivial,e0,e1,e2,e3,e4,by rw[hg,decide_eq_true q6];rfl⟩)
  ·cases hvt:Uh (l.getD a noT)with
   |true=>exact .inr (.inr (.inl ⟨lc,o,c,hve,hd,hlt,by rw[z6];exact decide_eq_false q6,hvt,e0,e1,e2,e3,e4,by rw[hg,hvt,decide_eq_false q6];rfl⟩))
   |false=>exact .inr (.inr (.inr ⟨lc,o,c,hve,hd,hlt,by rw[z6];exact decide_eq_false q6,hvt,e0,e1,e2,e3,e4,by rw[hg,hvt,decide_eq_false q6];rfl⟩))
 ·exact .inl ⟨.base 0,0, .exact 0,rfl,by simpa using hlt,hlt,trivial,trivial,trivial,trivial,trivial,trivial,trivial,goW_end hlt⟩
theorem qgN{O:List Str}(hF:Fair O):(O.getLastD []).length<=1000000/\asciiB (O.getLastD [])=true:=by
 cases O with
 |nil=>exact⟨by simp,rfl⟩
 |cons a O=>exact hF _ (by rw[List.getLastD_cons];exact List.getLastD_mem_cons)
set_option maxHeartbeats 8000000 in
theorem k_bodyA(w0:World)(l:List TokC)(hl:l.length<=65537)(dd:Nat)
 (hrest:∀(H B:AHeap) (kp ks:Nat) (v ov bv pv:AVal) (op pp tp bp E:AHeap) (O:List Str) (c:Cur) (w:Str) (n i:Nat),Sep [B,one kp (parB3 v i ov),op,one ks (curB c pv bv),pp,tp,bp,E] H->ParS w0 l B v ov op O i->CurS w0 (32-dd) c pv bv pp tp bp E->Fair O->O.length=dd->i+n<=l.length->0<n\/isV l i=true->Few c i->Stm.twice c w=false->
   Awp Tryd.prog w0 ⟨210,[],GP w0 210 [] [] (qiY B fun f=>BodyRO l dd O c w n i (.bad f))⟩ (WW 2 (qcM Tryd.f59)) (qcW Tryd.prog w0 [] (fun r h'=>r= .tuple []/\qjd w0 l B kp ks v pv pp tp O dd n i c w h')) [(0, .ptr (.own kp) 0),(1, .ptr (.own ks) 0),(2, .str w),(3, .int .i64 n),(4, .int .i64 dd),(10, .int .i64 i)] (H)):BodK w0 l dd:=by
 intro h B kp ks v ov bv pv op pp tp bp E O c w n i hS hP hC hF hO hin hpos hfew;have hin2:i<=l.length:=hP.at_;have eb_p:h kp=some _:=hS.at_ (i:=1) rfl;have eb_s:h ks=some _:=hS.at_ (i:=3) rfl;have ne_p_s:kp≠ks:=hS.ne (i:=1) (j:=3) rfl rfl (by decide);have hs_h:Sub B h:=hS.in_ (i:=0) rfl;have hv:=hP.toks;have hlv:=hv.live;have hlo:=hP.open_.live;obtain⟨hpl,hps,hpc⟩:=hC.pv_ok;obtain⟨hbl,hbs,hbc,nb⟩:=hC.bv_len;obtain⟨bs,hb1e,hb2e,hb3e⟩:=hC.bd;have hbn:c.bodies.length=bs.length:=by rw[hb1e,Jn]
 obtain⟨hf1,hf2,hf3⟩:=hfew;have hin2:i<=l.length:=hP.at_;have hTw:Stm.twice c w=(bs.map (·.1)).any fun b=>(decide (b.1=w) && !decide (w=[87,72,69,78]))||decide (b.1=[87,72,69,78,32,79,84,72,69,82]):=by rw[<-hb1e];rfl
 refine qaP (k:=210) (rs:=[]) Tryd.func59 rfl rfl rfl rfl (Vy rfl) ?_;simp only[Xe];refine awp_rseq [0,1,2,3,4,10] (by rfl) fun K hK=>?_;simp+decide only[qh,qi,qj,qo,ev,qZ,qY,putD,Vz,VA,VB,Ka,VC,VD,Kb,and_true,↓qW,qU,↓XE,Xg,XP,XF,↓Qo,Qd,Wl,↓Qu,QM,Qi ag3,↓qV,qP,qM,ne_eq,not_false_eq_true,qO w0 eb_p,qO w0 eb_s,ne_p_s,ne_p_s.symm,qN,qJ,VE,setAt,VF,Kj,qC,VG,Kn,Jp,Nat.reduceAdd,qF,qG,qI,qf,qK,qa,qz,qd,qE,qc,qA,qg,qH,qy,allLive,J4,tokV,posV,faultV,hlv,hlo,hbl,hpl,nb];repeat (with_reducible refine And.intro ?_ ?_;· first|trivial|omega|(intro hg;simp only[Ky,JH,Jh,VH,VI,VJ,decide_eq_true_eq,decide_eq_false_iff_not,qR]at hg;omega))
 apply hK;clear hK K;refine Qp ?_;refine awp_rseq [0,1,2,3,4,10,26,27,28] (by rfl) fun K hK=>?_;simp+decide only[qh,qi,qj,qo,ev,qZ,qY,putD,Vz,VA,VB,Ka,VC,VD,Kb,and_true,↓qW,qU,↓XE,Xg,XP,XF,↓Qo,Qd,WG,↓Qu,QM,Qi qdL,↓XG,Xh,QE Tryd.underlying46,QT Tryd.underlying46,qM,ne_eq,not_false_eq_true,qO w0 eb_p,qO w0 eb_s,ne_p_s,ne_p_s.symm,qN,qJ,VE,setAt,VF,Kj,qC,VG,Kn,Jp,Nat.reduceAdd,qF,qG,qI,qf,qK,qa,qz,qd,qE,qc,qA,qg,qH,qy,allLive,J4,tokV,posV,faultV,hlv,hlo,hbl,hpl,nb];repeat (with_reducible refine And.intro ?_ ?_;· first|trivial|omega|(intro hg;simp only[Ky,JH,Jh,VH,VI,VJ,decide_eq_true_eq,decide_eq_false_iff_not,qR]at hg;omega))
 apply hK;clear hK K;refine QL ?_;refine XI [0,1,2,3,4,10,26,27,28] (fun g:B1G=>[(0, .ptr (.own kp) 0),(1, .ptr (.own ks) 0),(2, .str w),(3, .int .i64 n),(4, .int .i64 dd),(10, .int .i64 i),(26,bv),(27, .int .i64 c.bodies.length),(28, .int .i64 g.j)]) (fun g:B1G=>g.H) (fun g:B1G=>Sep [B,one kp (parB3 v i ov),op,one ks (curB c pv bv),pp,tp,bp,E] g.H/\g.j<=bs.length/\Stm.twice c w=((bs.drop g.j).map (·.1)).any fun b=>(decide (b.1=w) && !decide (w=[87,72,69,78]))||decide (b.1=[87,72,69,78,32,79,84,72,69,82])) (fun g:B1G=>bs.length-g.j) ⟨0,h⟩ (by rfl) (Vg _) ⟨hS,Jq _,hTw⟩ ?_;rintro⟨j,H⟩ ⟨hS,hj,hTj⟩;simp only at hS hj hTj|-
 have eb_p:H kp=some _:=hS.at_ (i:=1) rfl;have eb_s:H ks=some _:=hS.at_ (i:=3) rfl;have hs_H:Sub B H:=hS.in_ (i:=0) rfl;refine awp_rseq [0,1,2,3,4,10,26,27,28,29] (by rfl) fun K hK=>?_;simp+decide only[qh,qi,qj,qo,ev,qZ,qY,putD,Vz,VA,VB,Ka,VC,VD,Kb,and_true,↓Qj,Qa,Qz,cond_false,Qh,Zo,qM,ne_eq,not_false_eq_true,qO w0 eb_p,qO w0 eb_s,ne_p_s,ne_p_s.symm,qN,qJ,VE,setAt,VF,Kj,qC,VG,Kn,Jp,Nat.reduceAdd,qF,qG,qI,qf,qK,qa,qz,qd,qE,qc,qA,qg,qH,qy,allLive,J4,tokV,posV,faultV,hlv,hlo,hbl,hpl,nb];repeat (with_reducible refine And.intro ?_ ?_;· first|trivial|omega|(intro hg;simp only[Ky,JH,Jh,VH,VI,VJ,decide_eq_true_eq,decide_eq_false_iff_not,qR]at hg;omega))
 apply hK;clear hK K;refine Qp (Qw (b:=_) rfl (fun hb1=>?_) (fun hb1=>?_))
 ·try simp only[decide_eq_true_eq,decide_eq_false_iff_not,Jh,VJ,Ky,VH,JH,VI,VV,VW,reduceCtorEq]at hb1
  have hj':j<bs.length:=by omega
  obtain⟨q,hqe⟩:∃q,q=bs.getD j qdc:=⟨_,rfl⟩
  have hqm:q∈bs:=by rw[hqe,Ko,JB hj'];exact Vr hj'
  have hqb:=hb2e.isL (w0:=w0) (hS.in_ (i:=6) rfl);obtain⟨lc,o,cc,hpe⟩:=qbO hqb (by omega);rw[hpe]at hqb;obtain⟨e0,e1,e2⟩:=qer hqb hj';rw[<-hqe]at e0 e1 e2;obtain⟨hqt,hqs⟩:=hb3e q hqm;have hl1:=hqt.live;have hs1:=hqt.scal;have hc1:=hqt.cells;obtain⟨hl2,hs2,hc2⟩:=hqs.shape;have hst:Stm.twice c w=(((decide (q.1.1=w) && !decide (w=[87,72,69,78]))||decide (q.1.1=[87,72,69,78,32,79,84,72,69,82]))||((bs.drop (j+1)).map (·.1)).any fun b=>(decide (b.1=w) && !decide (w=[87,72,69,78]))||decide (b.1=[87,72,69,78,32,79,84,72,69,82])):=by
   rw[hTj,J9 hj',Ke,BF];have:bs[j]=q:=by rw[hqe,Ko,JB hj'];rfl
   rw[this]
  obtain⟨⟨qw,qt,qL⟩,qtv,qlv⟩:=q;simp only at e0 e1 e2 hl1 hs1 hc1 hl2 hs2 hc2 hst;have hwj:IntKind.i64.wrap ((j:Int)+1)=((j+1:Nat):Int):=by rw[wrap_i64 (by omega) (by omega)];omega
  refine QJ ?_;change Awp _ _ _ _ _ _ _;refine Qp ?_;refine QL ?_;refine awp_rseq [0,1,2,3,4,10,12,26,27,28] (by rfl) fun K hK=>?_;simp+decide only[qh,qi,qj,qo,ev,qZ,qY,putD,Vz,VA,VB,Ka,VC,VD,Kb,and_true,↓QV,QM,Ql Tryd.underlying46 UW,↓Qu,Xy qmp UW,qM,ne_eq,not_false_eq_true,qO w0 eb_p,qO w0 eb_s,ne_p_s,ne_p_s.symm,qN,qJ,VE,setAt,VF,Kj,qC,VG,Kn,Jp,Nat.reduceAdd,qF,qG,qI,qf,qK,qa,qz,qd,qE,qc,qA,qg,qH,qy,allLive,J4,tokV,posV,faultV,hlv,hlo,hbl,hpl,nb,hpe,e0,e1,e2,hl1,hl2,VO,VX,K6];repeat (with_reducible refine And.intro ?_ ?_;· first|trivial|omega|(intro hg;simp only[Ky,JH,Jh,VH,VI,VJ,decide_eq_true_eq,decide_eq_false_iff_not,qR]at hg;omega))
  refine XL qjZ (cs:=[.str [], .nilSlice, .nilSlice]) (by rfl) fun k3q2 hk3q2=>?_;have hn_3q2:H k3q2=none:=by first|assumption|(simp only[V7]at hk3q2;simp only[hk3q2])
  have hf_3q2:B k3q2=none:=Bh hs_H hn_3q2;have ne_3q2_p:k3q2≠kp:=BG hn_3q2 eb_p;have ne_3q2_s:k3q2≠ks:=BG hn_3q2 eb_s;refine QR (by rfl) (by rfl) zqA UW (by rfl) (by rfl) zqD (Jq _) (by first|rfl|(simp+decide only[ev,putD,Vz,VA,Ka,VE,XR,J4,VO,hs1,hs2,qaa,UZ,WH])) ?_;simp only[Bi,setAt,VE,VF,Kj,Jp,Nat.reduceAdd];simp+decide only[qh,qi,qj,qo,ev,qZ,qY,putD,Vz,VA,VB,Ka,VC,VD,Kb,and_true,qM,ne_eq,not_false_eq_true,ne_3q2_p,ne_3q2_p.symm,ne_3q2_s,ne_3q2_s.symm,qO w0 eb_p,qO w0 eb_s,ne_p_s,ne_p_s.symm,qN,qJ,VE,setAt,VF,Kj,qC,VG,Kn,Jp,Nat.reduceAdd,qF,qG,qI,qf,qK,qa,qz,qd,qE,qc,qA,qg,qH,qy,allLive,J4,tokV,posV,faultV,hlv,hlo,hbl,hpl,nb,hpe,e0,e1,e2,hl1,hl2,VO,VX,K6];repeat (with_reducible refine And.intro ?_ ?_;· first|trivial|omega|(intro hg;simp only[Ky,JH,Jh,VH,VI,VJ,decide_eq_true_eq,decide_eq_false_iff_not,qR]at hg;omega))
  apply hK;clear hK K;refine awp_rseq [0,1,2,3,4,10,26,27,28,44] (by rfl) fun K hK=>?_;simp+decide only[qh,qi,qj,qo,ev,qZ,qY,putD,Vz,VA,VB,Ka,VC,VD,Kb,and_true,↓Qo,Qd,qgP,↓Qu,QM,Qi ag9,↓qW,qU,↓Qj,Qa,Qz,cond_false,XC,Wv,↓Zj,agP,Xw,gv,QB,QD,QC,Qs,Qg,Qe,Zk,implies_true,VK,decide_true,decide_false,VL,VM,Qc,Qb,forall_const,false_implies,Qk,Qf,J4,VN,VO,VP,VQ,VS,VT,VU,Xb,Xc,Xa,↓XT,XK,Zb,Za,Zd,Zc,qaB,↓XH,Xj,QO,QH,QG,QA,Xo,Xn,Xm,Xl,QZ,Xk,↓XW,XN,XO,↓ZG,Zt,Wn,ZP,ZO,ZN,ZM,ZL,ZK,ZI,ZJ,qM,ne_eq,not_false_eq_true,ne_3q2_p,ne_3q2_p.symm,ne_3q2_s,ne_3q2_s.symm,qO w0 eb_p,qO w0 eb_s,ne_p_s,ne_p_s.symm,qN,qJ,VE,setAt,VF,Kj,qC,VG,Kn,Jp,Nat.reduceAdd,qF,qG,qI,qf,qK,qa,qz,qd,qE,qc,qA,qg,qH,qy,allLive,J4,tokV,posV,faultV,hlv,hlo,hbl,hpl,nb];repeat (with_reducible refine And.intro ?_ ?_;· first|trivial|omega|(intro hg;simp only[Ky,JH,Jh,VH,VI,VJ,decide_eq_true_eq,decide_eq_false_iff_not,qR]at hg;omega))
  apply hK;clear hK K;refine Qw (b:=_) rfl (fun hb2=>?_) (fun hb2=>?_)
  ·try simp only[decide_eq_true_eq,decide_eq_false_iff_not,Jh,VJ,Ky,VH,JH,VI,VV,VW,reduceCtorEq]at hb2
   have hT:Stm.twice c w=true:=by
    rw[hst];rcases hb2 with⟨z1,z2⟩|z
    ·simp[z1,z2]
    ·simp[z]
   refine YO 2 (by rfl) (by rfl) ?_;simp only[Ki,Bj];simp+decide only[qh,qi,qj,qo,ev,qZ,qY,putD,Vz,VA,VB,Ka,VC,VD,Kb,and_true,↓qW,qU,qM,ne_eq,not_false_eq_true,ne_3q2_p,ne_3q2_p.symm,ne_3q2_s,ne_3q2_s.symm,qO w0 eb_p,qO w0 eb_s,ne_p_s,ne_p_s.symm,qN,qJ,VE,setAt,VF,Kj,qC,VG,Kn,Jp,Nat.reduceAdd,qF,qG,qI,qf,qK,qa,qz,qd,qE,qc,qA,qg,qH,qy,allLive,J4,tokV,posV,faultV,hlv,hlo,hbl,hpl,nb];repeat (with_reducible refine And.intro ?_ ?_;· first|trivial|omega|(intro hg;simp only[Ky,JH,Jh,VH,VI,VJ,decide_eq_true_eq,decide_eq_false_iff_not,qR]at hg;omega))
   refine⟨⟨_,_,by rfl,?_⟩,by intro i;first|trivial|exact .inr trivial|exact .inr rfl⟩;exact(qdI w0 _ B kp v ov l i 4 i zqA zqB hv (by omega) (by omega)).mono (fun _ _ q=>q) fun x h' ⟨q1,q2⟩=>⟨_,BodyR.twice hT,q1,Bq (by assumption) (Bq zqB q2)⟩
  ·try simp only[decide_eq_true_eq,decide_eq_false_iff_not,Jh,VJ,Ky,VH,JH,VI,VV,VW,reduceCtorEq]at hb2
   have hst2:Stm.twice c w=((bs.drop (j+1)).map (·.1)).any fun b=>(decide (b.1=w) && !decide (w=[87,72,69,78]))||decide (b.1=[87,72,69,78,32,79,84,72,69,82]):=by
    rw[hst];have:(decide (qw=w) && !decide (w=[87,72,69,78])||decide (qw=[87,72,69,78,32,79,84,72,69,82]))=false:=by
     rw[<-BM];intro z;simp only[JH,Ky,decide_eq_true_eq,Jh,decide_eq_false_iff_not]at z;rcases z with⟨z1,z2⟩|z
     ·rcases hb2.1 with y|y
      ·exact y z1
      ·exact z2 y
     ·exact hb2.2 z
    rw[this,VU]
   refine QJ ?_;change Awp _ _ _ _ _ _ _;refine XZ [0,1,2,3,4,10,26,27,28] (by rfl) ?_;simp+decide only[qh,qi,qj,qo,ev,qZ,qY,putD,Vz,VA,VB,Ka,VC,VD,Kb,and_true,↓Qj,Qa,Qm,cond_false,Qh,XM,↓qW,qU,qM,ne_eq,not_false_eq_true,ne_3q2_p,ne_3q2_p.symm,ne_3q2_s,ne_3q2_s.symm,qO w0 eb_p,qO w0 eb_s,ne_p_s,ne_p_s.symm,qN,qJ,VE,setAt,VF,Kj,qC,VG,Kn,Jp,Nat.reduceAdd,qF,qG,qI,qf,qK,qa,qz,qd,qE,qc,qA,qg,qH,qy,allLive,J4,tokV,posV,faultV,hlv,hlo,hbl,hpl,nb,hwj];try simp(disch:=omega)only[wrap_i64,wrap_u8]
   repeat (with_reducible refine And.intro ?_ ?_;· first|trivial|omega|(intro hg;simp only[Ky,JH,Jh,VH,VI,VJ,decide_eq_true_eq,decide_eq_false_iff_not,qR]at hg;omega))
   try simp only[QK,Qt]
   exact⟨⟨j+1,_⟩,by rw[hpe];rfl,Vg _,⟨hS.forget zqB,hj',hst2⟩,by simp only;omega⟩
 ·try simp only[decide_eq_true_eq,decide_eq_false_iff_not,Jh,VJ,Ky,VH,JH,VI,VV,VW,reduceCtorEq]at hb1
  have hj':j=bs.length:=by omega
  have hTf:Stm.twice c w=false:=by rw[hTj,hj',J8];rfl
  refine XJ ?_;change Awp _ _ _ _ _ _ _;refine JP [0,1,2,3,4,10] ?_;exact hrest H B kp ks v ov bv pv op pp tp bp E O c w n i hS hP hC hF hO hin hpos ⟨hf1,hf2,hf3⟩ hTf
set_option maxHeartbeats 8000000 in
theorem k_bodyB(w0:World)(hm:MaxL w0)(ha:Asp w0)(l:List TokC)(hl:l.length<=65537)(hsh:Short l)(dd:Nat)(hdd:dd<=32)(hd0:0<dd)(H B:AHeap)(kp ks:Nat)(v ov bv pv:AVal)(op pp tp bp E:AHeap)(O:List Str)(c:Cur)(w:Str)(n i:Nat)
 (hS:Sep [B,one kp (parB3 v i ov),op,one ks (curB c pv bv),pp,tp,bp,E] H) (hP:ParS w0 l B v ov op O i) (hC:CurS w0 (32-dd) c pv bv pp tp bp E) (hF:Fair O) (hO:O.length=dd) (hin:i+n<=l.length) (hTf:Stm.twice c w=false)
 (hrest:∀(kb:Nat) (g:B2G),B2I w0 l B kp ks kb v ov pv bv op pp tp bp E c w (i+n) g->headW l O w n i=(g.toks,g.i)->¬(w=ZZ/\(headW l O w n i).1=[])->
   Awp Tryd.prog w0 ⟨210,[],GP w0 210 [] [] (qiY B fun f=>BodyRO l dd O c w n i (.bad f))⟩ (WW 6 (qcM Tryd.f59)) (qcW Tryd.prog w0 [] (fun r h'=>r= .tuple []/\qjd w0 l B kp ks v pv pp tp O dd n i c w h')) [(0, .ptr (.own kp) 0),(1, .ptr (.own ks) 0),(2, .str w),(4, .int .i64 dd),(10, .int .i64 i),(13, .ptr (.own kb) 0),(14, .str (O.getLastD []))] (g.H)):
 Awp Tryd.prog w0 ⟨210,[],GP w0 210 [] [] (qiY B fun f=>BodyRO l dd O c w n i (.bad f))⟩ (WW 2 (qcM Tryd.f59)) (qcW Tryd.prog w0 [] (fun r h'=>r= .tuple []/\qjd w0 l B kp ks v pv pp tp O dd n i c w h')) [(0, .ptr (.own kp) 0),(1, .ptr (.own ks) 0),(2, .str w),(3, .int .i64 n),(4, .int .i64 dd),(10, .int .i64 i)] (H):=by
 have eb_p:H kp=some _:=hS.at_ (i:=1) rfl;have eb_s:H ks=some _:=hS.at_ (i:=3) rfl;have ne_p_s:kp≠ks:=hS.ne (i:=1) (j:=3) rfl rfl (by decide);have hs_H:Sub B H:=hS.in_ (i:=0) rfl;have hv:=hP.toks;have hlv:=hv.live;have hlo:=hP.open_.live;obtain⟨hpl,hps,hpc⟩:=hC.pv_ok;obtain⟨hbl,hbs,hbc,nb⟩:=hC.bv_len;have hin2:i<=l.length:=hP.at_;have hwn:IntKind.i64.wrap ((i:Int)+n)=((i+n:Nat):Int):=by rw[wrap_i64 (by omega) (by omega)];omega
 change Awp _ _ _ (Code.seq _ _) _ _ _;refine awp_rseq [0,1,2,4,10] (by rfl) fun K hK=>?_;simp+decide only[qh,qi,qj,qo,ev,qZ,qY,putD,Vz,VA,VB,Ka,VC,VD,Kb,and_true,↓qW,qU,↓XE,Xg,XP,XF,↓Qo,Qd,Wl,↓Qu,QM,Qi ag3,↓Qj,Qa,Qz,cond_false,Qh,XM,qM,ne_eq,not_false_eq_true,qO w0 eb_p,qO w0 eb_s,ne_p_s,ne_p_s.symm,qN,qJ,VE,setAt,VF,Kj,qC,VG,Kn,Jp,Nat.reduceAdd,qF,qG,qI,qf,qK,qa,qz,qd,qE,qc,qA,qg,qH,qy,allLive,J4,tokV,posV,faultV,hlv,hlo,hbl,hpl,nb,hwn];try simp(disch:=omega)only[wrap_i64,wrap_u8]
 repeat (with_reducible refine And.intro ?_ ?_;· first|trivial|omega|(intro hg;simp only[Ky,JH,Jh,VH,VI,VJ,decide_eq_true_eq,decide_eq_false_iff_not,qR]at hg;omega))
 refine QR (by rfl) (by rfl) zqA sz3 (by rfl) (by rfl) zqD (Jq _) (by rfl) ?_;simp only[Bi,setAt,VE,VF,Kj,Jp,Nat.reduceAdd];simp+decide only[qh,qi,qj,qo,ev,qZ,qY,putD,Vz,VA,VB,Ka,VC,VD,Kb,and_true,qM,ne_eq,not_false_eq_true,qO w0 eb_p,qO w0 eb_s,ne_p_s,ne_p_s.symm,qN,qJ,VE,setAt,VF,Kj,qC,VG,Kn,Jp,Nat.reduceAdd,qF,qG,qI,qf,qK,qa,qz,qd,qE,qc,qA,qg,qH,qy,allLive,J4,tokV,posV,faultV,hlv,hlo,hbl,hpl,nb,hwn];repeat (with_reducible refine And.intro ?_ ?_;· first|trivial|omega|(intro hg;simp only[Ky,JH,Jh,VH,VI,VJ,decide_eq_true_eq,decide_eq_false_iff_not,qR]at hg;omega))
 apply hK;clear hK K;refine awp_rseq [0,1,2,4,10,13] (by rfl) fun K hK=>?_;simp+decide only[qh,qi,qj,qo,ev,qZ,qY,putD,Vz,VA,VB,Ka,VC,VD,Kb,and_true,↓qW,qU,↓Wm,ZU,↓Zz,bld50_0,evP,Ke,Vh,Ym,Zr,ZV,Ue,ZA,Wt,ZW,qM,ne_eq,not_false_eq_true,qO w0 eb_p,qO w0 eb_s,ne_p_s,ne_p_s.symm,qN,qJ,VE,setAt,VF,Kj,qC,VG,Kn,Jp,Nat.reduceAdd,qF,qG,qI,qf,qK,qa,qz,qd,qE,qc,qA,qg,qH,qy,allLive,J4,tokV,posV,faultV,hlv,hlo,hbl,hpl,nb];repeat (with_reducible refine And.intro ?_ ?_;· first|trivial|omega|(intro hg;simp only[Ky,JH,Jh,VH,VI,VJ,decide_eq_true_eq,decide_eq_false_iff_not,qR]at hg;omega))
 refine XL qjZ (cs:=[.str [], .nilSlice, .nilSlice]) (by rfl) fun k8q2 hk8q2=>?_;have hn_8q2:H k8q2=none:=by first|assumption|(simp only[V7]at hk8q2;simp only[hk8q2])
 have hf_8q2:B k8q2=none:=Bh hs_H hn_8q2;have ne_8q2_p:k8q2≠kp:=BG hn_8q2 eb_p;have ne_8q2_s:k8q2≠ks:=BG hn_8q2 eb_s;refine QR (by rfl) (by rfl) zqA UW (by rfl) (by rfl) zqD (Jq _) (by rfl) ?_;simp only[Bi,setAt,VE,VF,Kj,Jp,Nat.reduceAdd];simp+decide only[qh,qi,qj,qo,ev,qZ,qY,putD,Vz,VA,VB,Ka,VC,VD,Kb,and_true,qM,ne_eq,not_false_eq_true,ne_8q2_p,ne_8q2_p.symm,ne_8q2_s,ne_8q2_s.symm,qO w0 eb_p,qO w0 eb_s,ne_p_s,ne_p_s.symm,qN,qJ,VE,setAt,VF,Kj,qC,VG,Kn,Jp,Nat.reduceAdd,qF,qG,qI,qf,qK,qa,qz,qd,qE,qc,qA,qg,qH,qy,allLive,J4,tokV,posV,faultV,hlv,hlo,hbl,hpl,nb];repeat (with_reducible refine And.intro ?_ ?_;· first|trivial|omega|(intro hg;simp only[Ky,JH,Jh,VH,VI,VJ,decide_eq_true_eq,decide_eq_false_iff_not,qR]at hg;omega))
 apply hK;clear hK K;obtain⟨H9,hH9⟩:∃H9,H9=(H.set kp (parB3 v (i+n) ov)).set k8q2 ⟨[.str w, .nilSlice, .nilSlice],0⟩:=⟨_,rfl⟩
 refine BJ (h':=H9) (by rw[hH9];exact Vg _) ?_;have hS9:=(hS.put (i:=1) rfl (parB3 v (i+n) ov)).lay hk8q2 ⟨[.str w, .nilSlice, .nilSlice],0⟩;rw[<-hH9]at hS9;simp only[VF,Kj,Kh,Jd]at hS9;have eb_p:H9 kp=some _:=hS9.at_ (i:=1) rfl;have eb_s:H9 ks=some _:=hS9.at_ (i:=3) rfl;have eb_8q2:H9 k8q2=some _:=hS9.at_ (i:=8) rfl;have ne_p_8q2:kp≠k8q2:=hS9.ne (i:=1) (j:=8) rfl rfl (by decide);have ne_s_8q2:ks≠k8q2:=hS9.ne (i:=3) (j:=8) rfl rfl (by decide);have hs_H9:Sub B H9:=hS9.in_ (i:=0) rfl;have hos:IsStrs w0 H9 ov O:=hP.open_.isL (hS9.in_ (i:=2) rfl);have no:=qav hos;obtain⟨lo,oo,co,hove⟩:=qhU hos (by omega);have hos2:=hos;rw[hove]at hos2;have hwo:IntKind.i64.wrap ((O.length:Int)-1)=((O.length-1:Nat):Int):=by rw[wrap_i64 (by omega) (by omega)];omega
 have ef:=qhV hos2 (i:=O.length-1) (by omega);obtain⟨fm,hfm⟩:∃fm,fm=O.getLastD []:=⟨_,rfl⟩
 have hfl:O.getD (O.length-1) []=fm:=by
  rw[hfm,BN,List.getLast?_eq_getElem?];rfl
 rw[hfl]at ef;obtain⟨hfm1,hfm2⟩:=qgN hF;rw[<-hfm]at hfm1 hfm2;refine qaO [0,1,2,4,10,13,14] mixed (by kernel_rfl) (by rfl) (by rfl) fun K hK=>?_;simp+decide only[qh,qi,qj,qo,ev,qZ,qY,putD,Vz,VA,VB,Ka,VC,VD,Kb,and_true,↓qW,qU,↓XE,Xg,XP,XF,↓Qo,Qd,qgO,↓Qu,QM,Qi ag22,↓XG,Xh,QE Tryd.underlying22,QT Tryd.underlying22,↓Qj,Qa,Qm,cond_false,Qh,qbB,qM,ne_eq,not_false_eq_true,qO w0 eb_p,qO w0 eb_s,qO w0 eb_8q2,ne_p_s,ne_p_s.symm,ne_8q2_p,ne_8q2_p.symm,ne_8q2_s,ne_8q2_s.symm,qN,qJ,VE,setAt,VF,Kj,qC,VG,Kn,Jp,Nat.reduceAdd,qF,qG,qI,qf,qK,qa,qz,qd,qE,qc,qA,qg,qH,qy,allLive,J4,tokV,posV,faultV,hlv,hlo,hbl,hpl,nb,no,hwo,hove,ef,VX,Nat.mul_one,K6];try simp(disch:=omega)only[wrap_i64,wrap_u8]
 try simp+decide only[qh,qi,qj,qo,ev,qZ,qY,putD,Vz,VA,VB,Ka,VC,VD,Kb,and_true,↓QV,QM,Ql Tryd.underlying22 sz9,↓Qu,Qi ag9,↓qV,qP,qM,ne_eq,not_false_eq_true,qO w0 eb_p,qO w0 eb_s,qO w0 eb_8q2,ne_p_s,ne_p_s.symm,ne_8q2_p,ne_8q2_p.symm,ne_8q2_s,ne_8q2_s.symm,qN,qJ,VE,setAt,VF,Kj,qC,VG,Kn,Jp,Nat.reduceAdd,qF,qG,qI,qf,qK,qa,qz,qd,qE,qc,qA,qg,qH,qy,allLive,J4,tokV,posV,faultV,hlv,hlo,hbl,hpl,nb,no,hwo,hove,ef,VX,Nat.mul_one,K6]
 repeat (with_reducible refine And.intro ?_ ?_;· first|trivial|omega|(intro hg;simp only[Ky,JH,Jh,VH,VI,VJ,decide_eq_true_eq,decide_eq_false_iff_not,qR]at hg;omega))
 apply hK;clear hK K;refine Qp ?_;refine awp_rseq [0,1,2,4,10,13,14,72] (by rfl) fun K hK=>?_;simp+decide only[qh,qi,qj,qo,ev,qZ,qY,putD,Vz,VA,VB,Ka,VC,VD,Kb,and_true,↓qW,qU,↓Qj,Qa,XK,cond_false,XC,Wv,qM,ne_eq,not_false_eq_true,qO w0 eb_p,qO w0 eb_s,qO w0 eb_8q2,ne_p_s,ne_p_s.symm,ne_8q2_p,ne_8q2_p.symm,ne_8q2_s,ne_8q2_s.symm,qN,qJ,VE,setAt,VF,Kj,qC,VG,Kn,Jp,Nat.reduceAdd,qF,qG,qI,qf,qK,qa,qz,qd,qE,qc,qA,qg,qH,qy,allLive,J4,tokV,posV,faultV,hlv,hlo,hbl,hpl,nb];repeat (with_reducible refine And.intro ?_ ?_;· first|trivial|omega|(intro hg;simp only[Ky,JH,Jh,VH,VI,VJ,decide_eq_true_eq,decide_eq_false_iff_not,qR]at hg;omega))
 apply hK;clear hK K;refine qjV [0,1,2,4,10,13,14] (fun g:B2G=>[(0, .ptr (.own kp) 0),(1, .ptr (.own ks) 0),(2, .str w),(4, .int .i64 dd),(10, .int .i64 i),(13, .ptr (.own k8q2) 0),(14, .str fm)]) (fun g:B2G=>g.H) (fun g:B2G=>B2I w0 l B kp ks k8q2 v ov pv bv op pp tp bp E c w (i+n) g/\headW l O w n i=(g.toks,g.i)/\¬(w=ZZ/\(headW l O w n i).1=[])) ?_ ?_
 ·refine Qw (b:=_) rfl (fun hb1=>?_) (fun hb1=>?_)
  ·try simp only[decide_eq_true_eq,decide_eq_false_iff_not,Jh,VJ,Ky,VH,JH,VI,VV,VW,reduceCtorEq]at hb1
   have hwW:w=ZZ:=hb1;have hW:headW l O w n i=qof l fm (i+n):=by unfold headW;rw[if_pos hwW,hfm]
   refine Qp ?_;refine QL ?_;refine XI [0,1,2,4,10,13,14] (fun g:B2G=>[(0, .ptr (.own kp) 0),(1, .ptr (.own ks) 0),(2, .str w),(4, .int .i64 dd),(10, .int .i64 i),(13, .ptr (.own k8q2) 0),(14, .str fm)]) (fun g:B2G=>g.H) (fun g:B2G=>B2I w0 l B kp ks k8q2 v ov pv bv op pp tp bp E c w (i+n) g/\headW l O w n i=qcb l fm (l.length-g.i) g.i g.toks) (fun g:B2G=>l.length-g.i) ⟨[],i+n, .nilSlice,emp,H9⟩ (by rfl) (Vg _) ⟨⟨hS9.emp, .nil,hin,KL _,Jq _⟩,hW⟩ ?_;rintro⟨toks,a,tv,q,H2⟩ ⟨⟨hS2,hrow,hal,hle,hfw⟩,hgo⟩;simp only at hS2 hrow hal hle hfw hgo|-
   have eb_p:H2 kp=some _:=hS2.at_ (i:=1) rfl;have eb_s:H2 ks=some _:=hS2.at_ (i:=3) rfl;have eb_8q2:H2 k8q2=some _:=hS2.at_ (i:=8) rfl;have hs_H2:Sub B H2:=hS2.in_ (i:=0) rfl;have nv:=Yl hv;have htl:=hrow.live;have nt:∀H:AHeap,YZ Tryd.prog H 31 tv=⟨True, .int .i64 toks.length⟩:=Yl (w0:=w0) (hrow.isL (Vg _));refine Qp ?_;have mcase:MC11 w0 H2 l v a:=mc11 (hv.mono hs_H2);have hta:a<l.length->(l.getD a noT).text.length<=1000000:=fun z=>hsh.at z;unfold MC11 at mcase;refine qbg 52 [] [0,1,2,4,10,13,14,124] mixed (by kernel_rfl) (by rfl) fun K hK=>?_;try simp only[BO,Kh,Jd]
   simp only[Ki,Bj,Ba,Vk,BH,BI];suffices hM:∀b:Bool,b=goW l a->K [(0, .ptr (.own kp) 0),(1, .ptr (.own ks) 0),(2, .str w),(4, .int .i64 dd),(10, .int .i64 i),(13, .ptr (.own k8q2) 0),(14, .str fm),(124, .bool b)] (H2) by
    rcases mcase with⟨lc,o,cc,hve,hkd,hkl,hk6,hvt,e0,e1,e2,e3,e4,hfin⟩|⟨lc,o,cc,hve,hkd,hkl,hk6,hvt,e0,e1,e2,e3,e4,hfin⟩|⟨lc,o,cc,hve,hkd,hkl,hk6,hvt,e0,e1,e2,e3,e4,hfin⟩|⟨lc,o,cc,hve,hkd,hkl,hk6,hvt,e0,e1,e2,e3,e4,hfin⟩<;>(
     try simp only[BO,Kh,Jd]
     simp+decide only[qh,qi,qj,qo,ev,qZ,qY,putD,Vz,VA,VB,Ka,VC,VD,Kb,and_true,↓qbl,qU,↓qan,Xg,XP,XF,↓WA,Qd,Wl,↓qbm,Yg,Qi ag3,qco,Qi qbR,↓fp_len,Xh,QE Tryd.underlying31,QT Tryd.underlying31,↓qfT,Qa,Qz,cond_false,Qh,Zo,↓qoE,fgP,qiz,gv,QB,QD,QC,Qs,Qg,Qe,Zk,implies_true,VK,decide_true,decide_false,VL,VM,Qc,Qb,forall_const,false_implies,Qk,Qf,J4,VN,VO,VP,VQ,VS,VT,VU,Xb,Xc,Xa,↓qhr,qgS,qgT,↓qfZ,XN,XO,↓qoF,ZH,ZP,ZO,ZN,ZM,ZL,ZK,ZI,ZJ,↓qfY,Uv,Uu,Ut,Us,Ur,Uo,Uj,Ui,Un,Um,Ul,Uk,Ql Tryd.underlying31 Yv,YL,YK,YN,YM,Ud,Qi qha,↓qlR,Qm,Zb,Za,Zd,Zc,qai,↓qky,Xj,QO,QH,QG,QA,Xo,Xn,Xm,Xl,QZ,Xk,Xy qhB Yv,qM,ne_eq,not_false_eq_true,qO w0 eb_p,qO w0 eb_s,qO w0 eb_8q2,ne_p_s,ne_p_s.symm,ne_8q2_p,ne_8q2_p.symm,ne_8q2_s,ne_8q2_s.symm,qN,qJ,VE,setAt,VF,Kj,qC,VG,Kn,Jp,Nat.reduceAdd,qF,qG,qI,qf,qK,qa,qz,qd,qE,qc,qA,qg,qH,qy,allLive,J4,tokV,posV,faultV,hlv,hlo,hbl,hpl,nb,hlv,nv,htl,hve,hkd,hk6,hvt,e0,e1,e2,e3,e4,VX,K6,qaL,Qb,Qc,VP,VO];repeat (with_reducible refine And.intro ?_ ?_;· first|trivial|omega|(intro hg;simp only[Ky,JH,Jh,VH,VI,VJ,decide_eq_true_eq,decide_eq_false_iff_not,qR]at hg;omega))
     first
     |(refine qlT (by rfl) ?_)
     |(refine qfo (V:= .bool (Uh (l.getD a noT))) (f:=37) (cap:=[]) (xs:=[tokV (l.getD a noT)]) (by rfl) (fun hg=>⟨rfl,rfl⟩) trivial (fun hg g hsub=>qen w0 hm _ _ (hta hkl)) ?_)
     simp+decide only[qh,qi,qj,qo,ev,qZ,qY,putD,Vz,VA,VB,Ka,VC,VD,Kb,and_true,gv,QB,Qg,Qe,Qs,↓fg_unOp,YB,fgP,qiz,QD,QC,Zk,implies_true,VK,decide_true,decide_false,VL,VM,Qc,Qb,forall_const,false_implies,Qk,Qf,J4,VN,VO,VP,VQ,VS,VT,VU,UD,qei,qek,Xb,Xc,Xa,↓qky,Xj,QO,QH,QG,QA,Xo,Xn,Xm,Xl,QZ,Xk,↓qbl,qU,↓qoE,↓qhr,Xg,XP,XF,qgS,qgT,↓qfZ,Qd,qco,XN,XO,↓qoF,Yg,ZH,ZP,ZO,ZN,ZM,ZL,ZK,Qi qbR,ZI,ZJ,Wl,Qi ag3,↓qfY,Uv,Uu,Ut,Us,Ur,Uo,Uj,Ui,Un,Um,Ul,Uk,Ql Tryd.underlying31 Yv,YL,YK,YN,YM,Xy qhB Yv,qM,ne_eq,not_false_eq_true,qO w0 eb_p,qO w0 eb_s,qO w0 eb_8q2,ne_p_s,ne_p_s.symm,ne_8q2_p,ne_8q2_p.symm,ne_8q2_s,ne_8q2_s.symm,qN,qJ,VE,setAt,VF,Kj,qC,VG,Kn,Jp,Nat.reduceAdd,qF,qG,qI,qf,qK,qa,qz,qd,qE,qc,qA,qg,qH,qy,allLive,J4,tokV,posV,faultV,hlv,hlo,hbl,hpl,nb,hlv,nv,htl,hve,hkd,hk6,hvt,e0,e1,e2,e3,e4,VX,K6,qaL,Qb,Qc,VP,VO];try simp(disch:=omega)only[wrap_i64,wrap_u8]
     repeat (with_reducible refine And.intro ?_ ?_;· first|trivial|omega|(intro hg;simp only[Ky,JH,Jh,VH,VI,VJ,decide_eq_true_eq,decide_eq_false_iff_not,qR]at hg;omega))
     first
     |(refine qlT (by rfl) ?_)
     |(refine qfo (V:= .str (qdG (l.getD a noT))) (f:=57) (cap:=[]) (xs:=[tokV (l.getD a noT)]) (by rfl) (fun hg=>⟨rfl,rfl⟩) trivial (fun hg g hsub=>qoP w0 hm _ _ (hta hkl)) ?_)
     simp+decide only[qh,qi,qj,qo,ev,qZ,qY,putD,Vz,VA,VB,Ka,VC,VD,Kb,and_true,gv,QB,Qg,Qe,Qs,↓qlR,Qa,fgP,qiz,QD,QC,Zk,implies_true,VK,decide_true,decide_false,VL,VM,Qc,Qb,forall_const,false_implies,Qk,Qf,J4,VN,VO,VP,VQ,VS,VT,VU,XK,cond_false,Zb,Za,Zd,Zc,XC,Wv,Xb,Xc,Xa,↓qky,Xj,QO,QH,QG,QA,Xo,Xn,Xm,Xl,QZ,Xk,qM,ne_eq,not_false_eq_true,qO w0 eb_p,qO w0 eb_s,qO w0 eb_8q2,ne_p_s,ne_p_s.symm,ne_8q2_p,ne_8q2_p.symm,ne_8q2_s,ne_8q2_s.symm,qN,qJ,VE,setAt,VF,Kj,qC,VG,Kn,Jp,Nat.reduceAdd,qF,qG,qI,qf,qK,qa,qz,qd,qE,qc,qA,qg,qH,qy,allLive,J4,tokV,posV,faultV,hlv,hlo,hbl,hpl,nb,hlv,nv,htl,hve,hkd,hk6,hvt,e0,e1,e2,e3,e4,VX,K6,qaL,Qb,Qc,VP,VO];repeat (with_reducible refine And.intro ?_ ?_;· first|trivial|omega|(intro hg;simp only[Ky,JH,Jh,VH,VI,VJ,decide_eq_true_eq,decide_eq_false_iff_not,qR]at hg;omega))
     exact hM _ hfin.symm)
   intro b hb_11;apply hK;clear hK K;refine Qw (b:=_) rfl (fun hb2=>?_) (fun hb2=>?_)
   ·try simp only[decide_eq_true_eq,decide_eq_false_iff_not,Jh,VJ,Ky,VH,JH,VI,VV,VW,reduceCtorEq]at hb2
    have hgo1:isE l a=false/\isV l a=false/\qae l a=[]:=by
     have z:goW l a=true:=by rw[<-hb_11];exact hb2
     unfold goW at z;simp only[Jh,VI,VJ,decide_eq_true_eq]at z;exact⟨z.1,z.2.1,z.2.2⟩
    have hal2:a<l.length:=by
     by_cases z:a<l.length
     ·exact z
     ·have y:=hgo1.1
      unfold isE at y;rw[if_neg z]at y;cases y
    refine QJ ?_;change Awp _ _ _ _ _ _ _;refine QL ?_;refine Qp ?_;refine awp_rseq [0,1,2,4,10,13,14,16] (by rfl) fun K hK=>?_;simp+decide only[qh,qi,qj,qo,ev,qZ,qY,putD,Vz,VA,VB,Ka,VC,VD,Kb,and_true,↓qW,qU,qM,ne_eq,not_false_eq_true,qO w0 eb_p,qO w0 eb_s,qO w0 eb_8q2,ne_p_s,ne_p_s.symm,ne_8q2_p,ne_8q2_p.symm,ne_8q2_s,ne_8q2_s.symm,qN,qJ,VE,setAt,VF,Kj,qC,VG,Kn,Jp,Nat.reduceAdd,qF,qG,qI,qf,qK,qa,qz,qd,qE,qc,qA,qg,qH,qy,allLive,J4,tokV,posV,faultV,hlv,hlo,hbl,hpl,nb];repeat (with_reducible refine And.intro ?_ ?_;· first|trivial|omega|(intro hg;simp only[Ky,JH,Jh,VH,VI,VJ,decide_eq_true_eq,decide_eq_false_iff_not,qR]at hg;omega))
    refine XD (V:= .tuple [.str (Xr l a fm).1, .int .i64 (Xr l a fm).2]) (by rfl) (by rfl) (qem w0 ha _ (.own kp) 0 v l a fm (qO w0 eb_p 0) (qO w0 eb_p 1) (hv.mono zqB) (by omega) hal hfm1 hfm2) ?_;simp+decide only[qh,qi,qj,qo,ev,qZ,qY,putD,Vz,VA,VB,Ka,VC,VD,Kb,and_true,↓qW,qU,↓Zl,XY,Zp,KX,JD,VG,Kn,↓qV,qP,qM,ne_eq,not_false_eq_true,qO w0 eb_p,qO w0 eb_s,qO w0 eb_8q2,ne_p_s,ne_p_s.symm,ne_8q2_p,ne_8q2_p.symm,ne_8q2_s,ne_8q2_s.symm,qN,qJ,VE,setAt,VF,Kj,qC,VG,Kn,Jp,Nat.reduceAdd,qF,qG,qI,qf,qK,qa,qz,qd,qE,qc,qA,qg,qH,qy,allLive,J4,tokV,posV,faultV,hlv,hlo,hbl,hpl,nb];repeat (with_reducible refine And.intro ?_ ?_;· first|trivial|omega|(intro hg;simp only[Ky,JH,Jh,VH,VI,VJ,decide_eq_true_eq,decide_eq_false_iff_not,qR]at hg;omega))
    apply hK;clear hK K;refine awp_rseq [0,1,2,4,10,13,14,132] (by rfl) fun K hK=>?_;simp+decide only[qh,qi,qj,qo,ev,qZ,qY,putD,Vz,VA,VB,Ka,VC,VD,Kb,and_true,↓qW,qU,↓Qj,Qa,Qm,cond_false,Qh,UE,qM,ne_eq,not_false_eq_true,qO w0 eb_p,qO w0 eb_s,qO w0 eb_8q2,ne_p_s,ne_p_s.symm,ne_8q2_p,ne_8q2_p.symm,ne_8q2_s,ne_8q2_s.symm,qN,qJ,VE,setAt,VF,Kj,qC,VG,Kn,Jp,Nat.reduceAdd,qF,qG,qI,qf,qK,qa,qz,qd,qE,qc,qA,qg,qH,qy,allLive,J4,tokV,posV,faultV,hlv,hlo,hbl,hpl,nb];repeat (with_reducible refine And.intro ?_ ?_;· first|trivial|omega|(intro hg;simp only[Ky,JH,Jh,VH,VI,VJ,decide_eq_true_eq,decide_eq_false_iff_not,qR]at hg;omega))
    apply hK;clear hK K;refine Qw (b:=_) rfl (fun hb3=>?_) (fun hb3=>?_)
    ·try simp only[decide_eq_true_eq,decide_eq_false_iff_not,Jh,VJ,Ky,VH,JH,VI,VV,VW,reduceCtorEq]at hb3
     have hWd:headW l O w n i=(toks,a):=by rw[hgo];exact qdU (.inr (.inr (.inr (by omega))))
     refine XJ ?_;change Awp _ _ _ _ _ _ _;refine awp_rseq [0,1,2,4,10,13,14,158] (by rfl) fun K hK=>?_;simp+decide only[qh,qi,qj,qo,ev,qZ,qY,putD,Vz,VA,VB,Ka,VC,VD,Kb,and_true,↓Qo,Qd,qdF,↓Qu,QM,Qi qbR,↓XG,Xh,QE Tryd.underlying31,QT Tryd.underlying31,↓Qj,Qa,Qm,cond_false,Qh,ZE,qM,ne_eq,not_false_eq_true,qO w0 eb_p,qO w0 eb_s,qO w0 eb_8q2,ne_p_s,ne_p_s.symm,ne_8q2_p,ne_8q2_p.symm,ne_8q2_s,ne_8q2_s.symm,qN,qJ,VE,setAt,VF,Kj,qC,VG,Kn,Jp,Nat.reduceAdd,qF,qG,qI,qf,qK,qa,qz,qd,qE,qc,qA,qg,qH,qy,allLive,J4,tokV,posV,faultV,hlv,hlo,hbl,hpl,nb,nt,htl];repeat (with_reducible refine And.intro ?_ ?_;· first|trivial|omega|(intro hg;simp only[Ky,JH,Jh,VH,VI,VJ,decide_eq_true_eq,decide_eq_false_iff_not,qR]at hg;omega))
     apply hK;clear hK K;refine Qw (b:=_) rfl (fun hb4=>?_) (fun hb4=>?_)
     ·try simp only[decide_eq_true_eq,decide_eq_false_iff_not,Jh,VJ,Ky,VH,JH,VI,VV,VW,reduceCtorEq]at hb4
      have htk:toks=[]:=Kg (by omega);refine YO 2 (by rfl) (by rfl) ?_;simp only[Ki,Bj];simp+decide only[qh,qi,qj,qo,ev,qZ,qY,putD,Vz,VA,VB,Ka,VC,VD,Kb,and_true,↓qW,qU,qM,ne_eq,not_false_eq_true,qO w0 eb_p,qO w0 eb_s,qO w0 eb_8q2,ne_p_s,ne_p_s.symm,ne_8q2_p,ne_8q2_p.symm,ne_8q2_s,ne_8q2_s.symm,qN,qJ,VE,setAt,VF,Kj,qC,VG,Kn,Jp,Nat.reduceAdd,qF,qG,qI,qf,qK,qa,qz,qd,qE,qc,qA,qg,qH,qy,allLive,J4,tokV,posV,faultV,hlv,hlo,hbl,hpl,nb];repeat (with_reducible refine And.intro ?_ ?_;· first|trivial|omega|(intro hg;simp only[Ky,JH,Jh,VH,VI,VJ,decide_eq_true_eq,decide_eq_false_iff_not,qR]at hg;omega))
      refine⟨⟨_,_,by rfl,?_⟩,by intro i;first|trivial|exact .inr trivial|exact .inr rfl⟩;exact(qdI w0 _ B kp v ov l a 4 i zqA zqB hv (by omega) (by omega)).mono (fun _ _ q=>q) fun x h' ⟨q1,q2⟩=>⟨_,BP hTf ⟨hwW,by rw[hWd];exact htk⟩,q1,Bq (by assumption) q2⟩
     ·try simp only[decide_eq_true_eq,decide_eq_false_iff_not,Jh,VJ,Ky,VH,JH,VI,VV,VW,reduceCtorEq]at hb4
      have htk:toks≠[]:=fun z=>by rw[z]at hb4;exact hb4 rfl
      refine QJ ?_;try simp only[QK,Qt]
      first
      |exact⟨⟨toks,a,tv,q,H2⟩,rfl,Vg _,⟨hS2,hrow,hal,hle,hfw⟩,hWd,fun z=>htk (by rw[hWd]at z;exact z.2)⟩
      |exact⟨⟨[],i+n, .nilSlice,emp,H9⟩,rfl,Vg _,⟨hS9.emp, .nil,hin,KL _,Jq _⟩,by unfold headW;rw[if_neg hwW],fun z=>hwW z.1⟩
    ·try simp only[decide_eq_true_eq,decide_eq_false_iff_not,Jh,VJ,Ky,VH,JH,VI,VV,VW,reduceCtorEq]at hb3
     have hgo2:headW l O w n i=qcb l fm (l.length-(a+1)) (a+1) (toks++[l.getD a noT]):=by
      rw[hgo];refine qkZ hal2 ?_;rintro(z|z|z|z)
      ·rw[hgo1.1]at z;cases z
      ·rw[hgo1.2.1]at z;cases z
      ·exact z hgo1.2.2
      ·omega
     refine QJ ?_;change Awp _ _ _ _ _ _ _;obtain⟨lc,o,cc,hve⟩:=YA hv (by omega);have hv2:=hv.mono hs_H2;rw[hve]at hv2;obtain⟨e0,e1,e2,e3,e4⟩:=Uy hv2 hal2;obtain⟨t,ht⟩:∃t,t=l.getD a noT:=⟨_,rfl⟩
     rw[<-ht]at e0 e1 e2 e3 e4 hgo2;refine qbg 13 [] [0,1,2,4,10,13,14] mixed (by kernel_rfl) (by rfl) fun K hK=>?_;simp only[Ki,Bj,Ba,Vk,BH,BI];simp+decide only[qh,qi,qj,qo,ev,qZ,qY,putD,Vz,VA,VB,Ka,VC,VD,Kb,and_true,↓WA,Qd,qdF,↓qbm,Yg,Qi qbR,↓qbl,qU,↓qan,Xg,XP,XF,qco,Wl,Qi ag3,↓WV,Ql Tryd.underlying31 Yv,ZH,Xy qhB Yv,qM,ne_eq,not_false_eq_true,qO w0 eb_p,qO w0 eb_s,qO w0 eb_8q2,ne_p_s,ne_p_s.symm,ne_8q2_p,ne_8q2_p.symm,ne_8q2_s,ne_8q2_s.symm,qN,qJ,VE,setAt,VF,Kj,qC,VG,Kn,Jp,Nat.reduceAdd,qF,qG,qI,qf,qK,qa,qz,qd,qE,qc,qA,qg,qH,qy,allLive,J4,tokV,posV,faultV,hlv,hlo,hbl,hpl,nb,hve,htl,e0,e1,e2,e3,e4,VX,K6];repeat (with_reducible refine And.intro ?_ ?_;· first|trivial|omega|(intro hg;simp only[Ky,JH,Jh,VH,VI,VJ,decide_eq_true_eq,decide_eq_false_iff_not,qR]at hg;omega))
     refine qaM (by rfl) ?_;refine QS (cs:=(Zh t)) (by kernel_rfl) fun k14q12 hk14q12=>?_;have hn_14q12:H2 k14q12=none:=by first|assumption|(simp only[V7]at hk14q12;simp only[hk14q12])
     have hf_14q12:B k14q12=none:=Bh hs_H2 hn_14q12;have ne_14q12_p:k14q12≠kp:=BG hn_14q12 eb_p;have ne_14q12_s:k14q12≠ks:=BG hn_14q12 eb_s;have ne_14q12_8q2:k14q12≠k8q2:=BG hn_14q12 eb_8q2;rw[qh];repeat (with_reducible refine And.intro ?_ ?_;· first|trivial|omega|(intro hg;simp only[Ky,JH,Jh,VH,VI,VJ,decide_eq_true_eq,decide_eq_false_iff_not,qR]at hg;omega))
     try simp only[qi,qj]
     refine Ub (es:=5) (v:=tv) (p:=q) (xs:=toks.map Zh) (ys:=[Zh t]) (i:=9) (by rfl) (by rfl) Tryd.underlying31 Tryd.underlying31 (fun k e=>by cases e) Yv qgg qdT (by rfl) (by decide) (by rfl) hrow rfl (hS2.forget (V8 hn_14q12)) (by rfl) (V9 (Vf _ _ _) (fun x hx=>by rw[V4.1 hx];rfl) (by rfl) (by rfl) (.exact 1) (KL _)) (by rfl) (by simp) (by rw[Jn,JF];omega) (by rw[Jn,JF];omega) fun tv2 q2 h14 hrow2 _ hS3=>?_;simp+decide only[qh,qi,qj,qo,ev,qZ,qY,putD,Vz,VA,VB,Ka,VC,VD,Kb,and_true,↓Qo,Qd,qdF,qM,ne_eq,not_false_eq_true,ne_14q12_p,ne_14q12_p.symm,ne_14q12_s,ne_14q12_s.symm,ne_14q12_8q2,ne_14q12_8q2.symm,qO w0 eb_p,qO w0 eb_s,qO w0 eb_8q2,ne_p_s,ne_p_s.symm,ne_8q2_p,ne_8q2_p.symm,ne_8q2_s,ne_8q2_s.symm,qN,qJ,VE,setAt,VF,Kj,qC,VG,Kn,Jp,Nat.reduceAdd,qF,qG,qI,qf,qK,qa,qz,qd,qE,qc,qA,qg,qH,qy,allLive,J4,tokV,posV,faultV,hlv,hlo,hbl,hpl,nb,hve,htl,e0,e1,e2,e3,e4,VX,K6];repeat (with_reducible refine And.intro ?_ ?_;· first|trivial|omega|(intro hg;simp only[Ky,JH,Jh,VH,VI,VJ,decide_eq_true_eq,decide_eq_false_iff_not,qR]at hg;omega))
     refine QR (v:=tv2) (by rfl) (by rfl) (hS3.at_ (i:=8) rfl) qte hrow2.live (by rw[hrow2.cells];rfl) (by simp only[hrow2.cells,KX,JD];omega) (Jq _) (by rw[hrow2.cells];simp[XR,hrow2.scal]) ?_;simp only[hrow2.cells,setAt,VF,Kj,Jp,Nat.reduceAdd];simp+decide only[qh,qi,qj,qo,ev,qZ,qY,putD,Vz,VA,VB,Ka,VC,VD,Kb,and_true,qM,ne_eq,not_false_eq_true,ne_14q12_p,ne_14q12_p.symm,ne_14q12_s,ne_14q12_s.symm,ne_14q12_8q2,ne_14q12_8q2.symm,qO w0 eb_p,qO w0 eb_s,qO w0 eb_8q2,ne_p_s,ne_p_s.symm,ne_8q2_p,ne_8q2_p.symm,ne_8q2_s,ne_8q2_s.symm,qN,qJ,VE,setAt,VF,Kj,qC,VG,Kn,Jp,Nat.reduceAdd,qF,qG,qI,qf,qK,qa,qz,qd,qE,qc,qA,qg,qH,qy,allLive,J4,tokV,posV,faultV,hlv,hlo,hbl,hpl,nb,hve,htl,e0,e1,e2,e3,e4,VX,K6];have eb_p:h14 kp=some _:=hS3.at_ (i:=1) rfl;have hwa:IntKind.i64.wrap ((a:Int)+1)=((a+1:Nat):Int):=by rw[wrap_i64 (by omega) (by omega)];omega
     apply hK;clear hK K;refine XZ [0,1,2,4,10,13,14] (by rfl) ?_;simp+decide only[qh,qi,qj,qo,ev,qZ,qY,putD,Vz,VA,VB,Ka,VC,VD,Kb,and_true,↓qW,qU,↓XE,Xg,XP,XF,↓Qo,Qd,Wl,↓Qu,QM,Qi ag3,↓Qj,Qa,Qm,cond_false,Qh,XM,qM,ne_eq,not_false_eq_true,ne_14q12_p,ne_14q12_p.symm,ne_14q12_s,ne_14q12_s.symm,ne_14q12_8q2,ne_14q12_8q2.symm,qO w0 eb_p,qO w0 eb_s,qO w0 eb_8q2,ne_p_s,ne_p_s.symm,ne_8q2_p,ne_8q2_p.symm,ne_8q2_s,ne_8q2_s.symm,qN,qJ,VE,setAt,VF,Kj,qC,VG,Kn,Jp,Nat.reduceAdd,qF,qG,qI,qf,qK,qa,qz,qd,qE,qc,qA,qg,qH,qy,allLive,J4,tokV,posV,faultV,hlv,hlo,hbl,hpl,nb,hwa];try simp(disch:=omega)only[wrap_i64,wrap_u8]
     repeat (with_reducible refine And.intro ?_ ?_;· first|trivial|omega|(intro hg;simp only[Ky,JH,Jh,VH,VI,VJ,decide_eq_true_eq,decide_eq_false_iff_not,qR]at hg;omega))
     refine QR (by rfl) (by rfl) zqA sz3 (by rfl) (by rfl) zqD (Jq _) (by rfl) ?_;simp only[Bi,setAt,VE,VF,Kj,Jp,Nat.reduceAdd];simp+decide only[qh,qi,qj,qo,ev,qZ,qY,putD,Vz,VA,VB,Ka,VC,VD,Kb,and_true,qM,ne_eq,not_false_eq_true,ne_14q12_p,ne_14q12_p.symm,ne_14q12_s,ne_14q12_s.symm,ne_14q12_8q2,ne_14q12_8q2.symm,qO w0 eb_p,qO w0 eb_s,qO w0 eb_8q2,ne_p_s,ne_p_s.symm,ne_8q2_p,ne_8q2_p.symm,ne_8q2_s,ne_8q2_s.symm,qN,qJ,VE,setAt,VF,Kj,qC,VG,Kn,Jp,Nat.reduceAdd,qF,qG,qI,qf,qK,qa,qz,qd,qE,qc,qA,qg,qH,qy,allLive,J4,tokV,posV,faultV,hlv,hlo,hbl,hpl,nb,hwa];repeat (with_reducible refine And.intro ?_ ?_;· first|trivial|omega|(intro hg;simp only[Ky,JH,Jh,VH,VI,VJ,decide_eq_true_eq,decide_eq_false_iff_not,qR]at hg;omega))
     try simp only[QK,Qt]
     exact⟨⟨toks++[t],a+1,tv2,q2,(h14.set k8q2 ⟨[.str w,tv2, .nilSlice],0⟩).set kp (parB3 v (a+1) ov)⟩,rfl,Vg _,⟨⟨(hS3.put (i:=8) rfl ⟨[.str w,tv2, .nilSlice],0⟩).put (i:=1) rfl (parB3 v (a+1) ov),by simp only;rw[VZ];exact hrow2,hal2,by simp only;omega,by simp only[Jb,JF];omega⟩,hgo2⟩,by simp only;omega⟩
   ·try simp only[decide_eq_true_eq,decide_eq_false_iff_not,Jh,VJ,Ky,VH,JH,VI,VV,VW,reduceCtorEq]at hb2
    have hWd:headW l O w n i=(toks,a):=by
     rw[hgo];refine qdU ?_;have z:goW l a=false:=by rw[<-hb_11];exact hb2
     unfold goW at z;simp only[VJ,JH,Jh,decide_eq_false_iff_not]at z;rcases z with z|z|z
     ·exact .inl z
     ·exact .inr (.inl z)
     ·exact .inr (.inr (.inl z))
    refine XJ ?_;change Awp _ _ _ _ _ _ _;refine awp_rseq [0,1,2,4,10,13,14,158] (by rfl) fun K hK=>?_;simp+decide only[qh,qi,qj,qo,ev,qZ,qY,putD,Vz,VA,VB,Ka,VC,VD,Kb,and_true,↓Qo,Qd,qdF,↓Qu,QM,Qi qbR,↓XG,Xh,QE Tryd.underlying31,QT Tryd.underlying31,↓Qj,Qa,Qm,cond_false,Qh,ZE,qM,ne_eq,not_false_eq_true,qO w0 eb_p,qO w0 eb_s,qO w0 eb_8q2,ne_p_s,ne_p_s.symm,ne_8q2_p,ne_8q2_p.symm,ne_8q2_s,ne_8q2_s.symm,qN,qJ,VE,setAt,VF,Kj,qC,VG,Kn,Jp,Nat.reduceAdd,qF,qG,qI,qf,qK,qa,qz,qd,qE,qc,qA,qg,qH,qy,allLive,J4,tokV,posV,faultV,hlv,hlo,hbl,hpl,nb,nt,htl];repeat (with_reducible refine And.intro ?_ ?_;· first|trivial|omega|(intro hg;simp only[Ky,JH,Jh,VH,VI,VJ,decide_eq_true_eq,decide_eq_false_iff_not,qR]at hg;omega))
    apply hK;clear hK K;refine Qw (b:=_) rfl (fun hb5=>?_) (fun hb5=>?_)
    ·try simp only[decide_eq_true_eq,decide_eq_false_iff_not,Jh,VJ,Ky,VH,JH,VI,VV,VW,reduceCtorEq]at hb5
     have htk:toks=[]:=Kg (by omega);refine YO 2 (by rfl) (by rfl) ?_;simp only[Ki,Bj];simp+decide only[qh,qi,qj,qo,ev,qZ,qY,putD,Vz,VA,VB,Ka,VC,VD,Kb,and_true,↓qW,qU,qM,ne_eq,not_false_eq_true,qO w0 eb_p,qO w0 eb_s,qO w0 eb_8q2,ne_p_s,ne_p_s.symm,ne_8q2_p,ne_8q2_p.symm,ne_8q2_s,ne_8q2_s.symm,qN,qJ,VE,setAt,VF,Kj,qC,VG,Kn,Jp,Nat.reduceAdd,qF,qG,qI,qf,qK,qa,qz,qd,qE,qc,qA,qg,qH,qy,allLive,J4,tokV,posV,faultV,hlv,hlo,hbl,hpl,nb];repeat (with_reducible refine And.intro ?_ ?_;· first|trivial|omega|(intro hg;simp only[Ky,JH,Jh,VH,VI,VJ,decide_eq_true_eq,decide_eq_false_iff_not,qR]at hg;omega))
     refine⟨⟨_,_,by rfl,?_⟩,by intro i;first|trivial|exact .inr trivial|exact .inr rfl⟩;exact(qdI w0 _ B kp v ov l a 4 i zqA zqB hv (by omega) (by omega)).mono (fun _ _ q=>q) fun x h' ⟨q1,q2⟩=>⟨_,BP hTf ⟨hwW,by rw[hWd];exact htk⟩,q1,Bq (by assumption) q2⟩
    ·try simp only[decide_eq_true_eq,decide_eq_false_iff_not,Jh,VJ,Ky,VH,JH,VI,VV,VW,reduceCtorEq]at hb5
     have htk:toks≠[]:=fun z=>by rw[z]at hb5;exact hb5 rfl
     refine QJ ?_;try simp only[QK,Qt]
     first
     |exact⟨⟨toks,a,tv,q,H2⟩,rfl,Vg _,⟨hS2,hrow,hal,hle,hfw⟩,hWd,fun z=>htk (by rw[hWd]at z;exact z.2)⟩
     |exact⟨⟨[],i+n, .nilSlice,emp,H9⟩,rfl,Vg _,⟨hS9.emp, .nil,hin,KL _,Jq _⟩,by unfold headW;rw[if_neg hwW],fun z=>hwW z.1⟩
  ·try simp only[decide_eq_true_eq,decide_eq_false_iff_not,Jh,VJ,Ky,VH,JH,VI,VV,VW,reduceCtorEq]at hb1
   have hwW:¬w=ZZ:=hb1;refine QJ ?_;try simp only[QK,Qt]
   first
   |exact⟨⟨toks,a,tv,q,H2⟩,rfl,Vg _,⟨hS2,hrow,hal,hle,hfw⟩,hWd,fun z=>htk (by rw[hWd]at z;exact z.2)⟩
   |exact⟨⟨[],i+n, .nilSlice,emp,H9⟩,rfl,Vg _,⟨hS9.emp, .nil,hin,KL _,Jq _⟩,by unfold headW;rw[if_neg hwW],fun z=>hwW z.1⟩
 ·rintro⟨toks,a,tv,q,H2⟩ ⟨hI,hhd,hbare⟩
  refine JP [0,1,2,4,10,13,14] ?_;have:=hrest k8q2 _ hI hhd hbare;rw[<-hfm]at this;exact this
theorem qrs{w0:World}{h:AHeap}:∀{d:Nat} {v:AVal} {l:List StC},StsV w0 d h v l->StsV w0 d h (Yd v) l
 |0,_,_,hp=>⟨hp.1,hp.2.clip⟩
 |d+1,_,_,⟨qs,e,a,b⟩=>⟨qs,e,a.clip,b⟩
theorem qau{w0:World}{h:AHeap}{d:Nat}{v:AVal}{l:List StC}(hp:StsV w0 d h v l):∀H:AHeap,YZ Tryd.prog H 23 v=⟨True, .int .i64 l.length⟩:=by
 intro H;obtain⟨qs,rfl,a⟩:=hp.isL;have:=a.len Tryd.underlying23 H
 rwa [Jn,<-Jn (f:=(·.1))]at this
set_option maxHeartbeats 8000000 in
theorem k_bodyC(w0:World)(hm:MaxL w0)(ha:Asp w0)(l:List TokC)(hl:l.length<=65537)(hsh:Short l)(dd:Nat)(hdd:dd<=32)(hli:qjY w0 l (dd+1))(B:AHeap)(kp ks kb:Nat)(v ov bv pv:AVal)(op pp tp bp E:AHeap)(O:List Str)(c:Cur)(w:Str)(n i:Nat)
 (hP0:ParS w0 l B v ov op O i) (hC:CurS w0 (32-dd) c pv bv pp tp bp E) (hF:Fair O) (hO:O.length=dd) (hin:i+n<=l.length) (hpos:0<n\/isV l i=true) (hfew:Few c i) (hTf:Stm.twice c w=false) (g:B2G)
 (hI:B2I w0 l B kp ks kb v ov pv bv op pp tp bp E c w (i+n) g) (hhd:headW l O w n i=(g.toks,g.i)) (hbare:¬(w=ZZ/\(headW l O w n i).1=[])):
 Awp Tryd.prog w0 ⟨210,[],GP w0 210 [] [] (qiY B fun f=>BodyRO l dd O c w n i (.bad f))⟩ (WW 6 (qcM Tryd.f59)) (qcW Tryd.prog w0 [] (fun r h'=>r= .tuple []/\qjd w0 l B kp ks v pv pp tp O dd n i c w h')) [(0, .ptr (.own kp) 0),(1, .ptr (.own ks) 0),(2, .str w),(4, .int .i64 dd),(10, .int .i64 i),(13, .ptr (.own kb) 0),(14, .str (O.getLastD []))] (g.H):=by
 obtain⟨toks,a,tv,q,H⟩:=g;obtain⟨hS,hrow,hal,hle,hfw⟩:=hI;simp only at hS hrow hal hle hfw hhd|-
 have eb_p:H kp=some _:=hS.at_ (i:=1) rfl;have eb_s:H ks=some _:=hS.at_ (i:=3) rfl;have eb_b:H kb=some _:=hS.at_ (i:=8) rfl;have ne_p_s:kp≠ks:=hS.ne (i:=1) (j:=3) rfl rfl (by decide);have ne_p_b:kp≠kb:=hS.ne (i:=1) (j:=8) rfl rfl (by decide);have ne_s_b:ks≠kb:=hS.ne (i:=3) (j:=8) rfl rfl (by decide);have hs_H:Sub B H:=hS.in_ (i:=0) rfl;have hv:=hP0.toks;have hlv:=hv.live;obtain⟨hpl,hps,hpc⟩:=hC.pv_ok;obtain⟨hbl,hbs,hbc,nb⟩:=hC.bv_len;obtain⟨fm,hfm⟩:∃fm,fm=O.getLastD []:=⟨_,rfl⟩
 obtain⟨hfm1,hfm2⟩:=qgN hF;rw[<-hfm]at hfm1 hfm2|-
 have hW2:(headW l O w n i).2=a:=by rw[hhd]
 have hdj:[B,one ks (curB c pv bv),pp,tp,bp,E,one kb ⟨[.str w,tv, .nilSlice],0⟩,q].Pairwise disj:=(hS.pick [0,3,4,5,6,7,8,9] (by decide) (by simp)).2;have hcall:=hli H (qaY [B,one ks (curB c pv bv),pp,tp,bp,E,one kb ⟨[.str w,tv, .nilSlice],0⟩,q]) kp v ov op O a (BK (ps:=[B,one ks (curB c pv bv),pp,tp,bp,E,one kb ⟨[.str w,tv, .nilSlice],0⟩,q]) (hS.pick [0,3,4,5,6,7,8,9,1,2] (by decide) (by simp))) ⟨hv.mono (Yb hdj B (by simp)),hP0.open_,hP0.isG,hal⟩ hF (by omega);have hwd:IntKind.i64.wrap ((dd:Int)+1)=((dd+1:Nat):Int):=by rw[wrap_i64 (by omega) (by omega)];omega
 change Awp _ _ _ (Code.seq _ _) _ _ _;by_cases hbad:∃f,ListRO l (dd+1) O a [] (.bad f)
 ·skip
  refine Qp ?_;refine YO 3 (by rfl) (by rfl) ?_;simp only[Ki,Bj];simp+decide only[qh,qi,qj,qo,ev,qZ,qY,putD,Vz,VA,VB,Ka,VC,VD,Kb,and_true,↓qW,qU,↓Qj,Qa,Qm,cond_false,Qh,XM,qM,ne_eq,not_false_eq_true,qO w0 eb_p,qO w0 eb_s,qO w0 eb_b,ne_p_s,ne_p_s.symm,ne_p_b,ne_p_b.symm,ne_s_b,ne_s_b.symm,qN,qJ,VE,setAt,VF,Kj,qC,VG,Kn,Jp,Nat.reduceAdd,qF,qG,qI,qf,qK,qa,qz,qd,qE,qc,qA,qg,qH,qy,allLive,J4,tokV,posV,faultV,hlv,hbl,hpl,nb];try simp(disch:=omega)only[wrap_i64,wrap_u8]
  repeat (with_reducible refine And.intro ?_ ?_;· first|trivial|omega|(intro hg;simp only[Ky,JH,Jh,VH,VI,VJ,decide_eq_true_eq,decide_eq_false_iff_not,qR]at hg;omega))
  refine⟨⟨_,_,by rfl,?_⟩,by intro i;first|trivial|exact .inr trivial|exact .inr rfl⟩;try rw[hwd]
  obtain⟨f,hf⟩:=hbad;refine(hcall.bad fun x h' ⟨L,j,_,_,_,y,_⟩=>by cases y.one hf).mono (fun _ _ q=>q) fun x h' ⟨f',q1,q2,q3⟩=>⟨f',BodyR.bad hTf hbare (by rw[hW2];exact q1),q2,(Yb hdj B (by simp)).trans q3⟩
 refine awp_rseq [0,1,2,10,13,14] (by rfl) fun K hK=>?_;simp+decide only[qh,qi,qj,qo,ev,qZ,qY,putD,Vz,VA,VB,Ka,VC,VD,Kb,and_true,↓qW,qU,↓Qj,Qa,Qm,cond_false,Qh,XM,qM,ne_eq,not_false_eq_true,qO w0 eb_p,qO w0 eb_s,qO w0 eb_b,ne_p_s,ne_p_s.symm,ne_p_b,ne_p_b.symm,ne_s_b,ne_s_b.symm,qN,qJ,VE,setAt,VF,Kj,qC,VG,Kn,Jp,Nat.reduceAdd,qF,qG,qI,qf,qK,qa,qz,qd,qE,qc,qA,qg,qH,qy,allLive,J4,tokV,posV,faultV,hlv,hbl,hpl,nb];try simp(disch:=omega)only[wrap_i64,wrap_u8]
 repeat (with_reducible refine And.intro ?_ ?_;· first|trivial|omega|(intro hg;simp only[Ky,JH,Jh,VH,VI,VJ,decide_eq_true_eq,decide_eq_false_iff_not,qR]at hg;omega))
 refine QN (by rfl) (by rfl) (hcall.ok fun x h' ⟨f,q,_⟩=>hbad ⟨f,q⟩) fun x18q3 h18q3 hx18q3=>?_;obtain⟨L,j,ov2,op2,E2,hR,hij,hLn,hsts,hP2,hS2⟩:=hx18q3;have hS2:=hS2.unfold hdj;obtain⟨hrl,hrs,hrc⟩:=hsts.shape;simp+decide only[qh,qi,qj,qo,ev,qZ,qY,putD,Vz,VA,VB,Ka,VC,VD,Kb,and_true,↓Qo,Qd,qdE,qM,ne_eq,not_false_eq_true,qO w0 eb_p,qO w0 eb_s,qO w0 eb_b,ne_p_s,ne_p_s.symm,ne_p_b,ne_p_b.symm,ne_s_b,ne_s_b.symm,qN,qJ,VE,setAt,VF,Kj,qC,VG,Kn,Jp,Nat.reduceAdd,qF,qG,qI,qf,qK,qa,qz,qd,qE,qc,qA,qg,qH,qy,allLive,J4,tokV,posV,faultV,hlv,hbl,hpl,nb];repeat (with_reducible refine And.intro ?_ ?_;· first|trivial|omega|(intro hg;simp only[Ky,JH,Jh,VH,VI,VJ,decide_eq_true_eq,decide_eq_false_iff_not,qR]at hg;omega))
 refine QR (v:=x18q3) (by rfl) (by rfl) (hS2.at_ (i:=6) rfl) qrp hrl (by rw[hrc];rfl) (by simp only[hrc,KX,JD];omega) (Jq _) (by rw[hrc];simp[XR,hrs]) ?_;simp only[hrc,setAt,VF,Kj,Jp,Nat.reduceAdd];simp+decide only[qh,qi,qj,qo,ev,qZ,qY,putD,Vz,VA,VB,Ka,VC,VD,Kb,and_true,qM,ne_eq,not_false_eq_true,qO w0 eb_p,qO w0 eb_s,qO w0 eb_b,ne_p_s,ne_p_s.symm,ne_p_b,ne_p_b.symm,ne_s_b,ne_s_b.symm,qN,qJ,VE,setAt,VF,Kj,qC,VG,Kn,Jp,Nat.reduceAdd,qF,qG,qI,qf,qK,qa,qz,qd,qE,qc,qA,qg,qH,qy,allLive,J4,tokV,posV,faultV,hlv,hbl,hpl,nb];repeat (with_reducible refine And.intro ?_ ?_;· first|trivial|omega|(intro hg;simp only[Ky,JH,Jh,VH,VI,VJ,decide_eq_true_eq,decide_eq_false_iff_not,qR]at hg;omega))
 apply hK;clear hK K;refine Qp ?_;obtain⟨H19,hH19⟩:∃H19,H19=h18q3.set kb ⟨[.str w,tv,x18q3],0⟩:=⟨_,rfl⟩
 refine BJ (h':=H19) (by rw[hH19];exact Vg _) ?_;have hS3:=hS2.put (i:=6) rfl ⟨[.str w,tv,x18q3],0⟩;rw[<-hH19]at hS3;simp only[VF,Kj,Kh,Jd]at hS3;have eb_p:H19 kp=some _:=hS3.at_ (i:=8) rfl;have eb_s:H19 ks=some _:=hS3.at_ (i:=1) rfl;have eb_b:H19 kb=some _:=hS3.at_ (i:=6) rfl;have hs_H19:Sub B H19:=hS3.in_ (i:=0) rfl;have hj:=hP2.at_;have nL:=qau hsts;have hlo2:=hP2.open_.live;have htl:=hrow.live;obtain⟨S,hSS⟩:∃S,S=Xr l j fm:=⟨_,rfl⟩
 have hE:qcK l O w L j=(decide (L.length=0) && (!decide (w=ZZ)||(!decide (S.1=ZZ) && !decide (S.1=qiZ)))):=by rw[hSS,hfm];rfl
 refine awp_rseq [0,1,2,10,13,17] (by rfl) fun K hK=>?_;simp+decide only[qh,qi,qj,qo,ev,qZ,qY,putD,Vz,VA,VB,Ka,VC,VD,Kb,and_true,↓qW,qU,qM,ne_eq,not_false_eq_true,qO w0 eb_p,qO w0 eb_s,qO w0 eb_b,ne_p_s,ne_p_s.symm,ne_p_b,ne_p_b.symm,ne_s_b,ne_s_b.symm,qN,qJ,VE,setAt,VF,Kj,qC,VG,Kn,Jp,Nat.reduceAdd,qF,qG,qI,qf,qK,qa,qz,qd,qE,qc,qA,qg,qH,qy,allLive,J4,tokV,posV,faultV,hlv,hbl,hpl,nb];repeat (with_reducible refine And.intro ?_ ?_;· first|trivial|omega|(intro hg;simp only[Ky,JH,Jh,VH,VI,VJ,decide_eq_true_eq,decide_eq_false_iff_not,qR]at hg;omega))
 refine XD (V:= .tuple [.str S.1, .int .i64 S.2]) (by rfl) (by rfl) (by rw[hSS];exact qem w0 ha _ (.own kp) 0 v l j fm (qO w0 eb_p 0) (qO w0 eb_p 1) (hv.mono zqB) (by omega) hj hfm1 hfm2) ?_;simp+decide only[qh,qi,qj,qo,ev,qZ,qY,putD,Vz,VA,VB,Ka,VC,VD,Kb,and_true,↓qW,qU,↓Zl,XY,Zp,KX,JD,VG,Kn,↓qV,qP,qM,ne_eq,not_false_eq_true,qO w0 eb_p,qO w0 eb_s,qO w0 eb_b,ne_p_s,ne_p_s.symm,ne_p_b,ne_p_b.symm,ne_s_b,ne_s_b.symm,qN,qJ,VE,setAt,VF,Kj,qC,VG,Kn,Jp,Nat.reduceAdd,qF,qG,qI,qf,qK,qa,qz,qd,qE,qc,qA,qg,qH,qy,allLive,J4,tokV,posV,faultV,hlv,hbl,hpl,nb];repeat (with_reducible refine And.intro ?_ ?_;· first|trivial|omega|(intro hg;simp only[Ky,JH,Jh,VH,VI,VJ,decide_eq_true_eq,decide_eq_false_iff_not,qR]at hg;omega))
 apply hK;clear hK K;refine awp_rseq [0,1,10,13,188] (by rfl) fun K hK=>?_;simp+decide only[qh,qi,qj,qo,ev,qZ,qY,putD,Vz,VA,VB,Ka,VC,VD,Kb,and_true,↓Qo,Qd,qdE,↓Qu,QM,Qi qhb,↓XG,Xh,QE Tryd.underlying23,QT Tryd.underlying23,↓Qj,Qa,Qm,cond_false,Qh,ZE,↓qW,qU,↓Zj,agP,Xw,gv,QB,QD,QC,Qs,Qg,Qe,Zk,implies_true,VK,decide_true,decide_false,VL,VM,Qc,Qb,forall_const,false_implies,Qk,Qf,J4,VN,VO,VP,VQ,VS,VT,VU,Xb,Xc,Xa,↓XT,XK,Zb,Za,Zd,Zc,XC,qaB,↓qgl,Xj,QO,QH,QG,QA,Xo,Xn,Xm,Xl,QZ,Xk,qgc,qgd,↓XH,qM,ne_eq,not_false_eq_true,qO w0 eb_p,qO w0 eb_s,qO w0 eb_b,ne_p_s,ne_p_s.symm,ne_p_b,ne_p_b.symm,ne_s_b,ne_s_b.symm,qN,qJ,VE,setAt,VF,Kj,qC,VG,Kn,Jp,Nat.reduceAdd,qF,qG,qI,qf,qK,qa,qz,qd,qE,qc,qA,qg,qH,qy,allLive,J4,tokV,posV,faultV,hlv,hbl,hpl,nb,nL,hrl,hlo2,htl];repeat (with_reducible refine And.intro ?_ ?_;· first|trivial|omega|(intro hg;simp only[Ky,JH,Jh,VH,VI,VJ,decide_eq_true_eq,decide_eq_false_iff_not,qR]at hg;omega))
 apply hK;clear hK K;refine Qw (b:=_) rfl (fun hb1=>?_) (fun hb1=>?_)
 ·try simp only[decide_eq_true_eq,decide_eq_false_iff_not,Jh,VJ,Ky,VH,JH,VI,VV,VW,reduceCtorEq]at hb1
  have hEt:qcK l O w L j=true:=by
   rw[hE,Ky,decide_eq_true_eq];refine⟨by omega,?_⟩;rcases hb1.2 with z|⟨z1,z2⟩
   ·rw[decide_eq_false (show ¬w=ZZ from z)];rfl
   ·rw[decide_eq_false (show ¬S.1=ZZ from z1),decide_eq_false (show ¬S.1=qiZ from z2)];simp
  refine YO 2 (by rfl) (by rfl) ?_;simp only[Ki,Bj];simp+decide only[qh,qi,qj,qo,ev,qZ,qY,putD,Vz,VA,VB,Ka,VC,VD,Kb,and_true,↓qW,qU,qM,ne_eq,not_false_eq_true,qO w0 eb_p,qO w0 eb_s,qO w0 eb_b,ne_p_s,ne_p_s.symm,ne_p_b,ne_p_b.symm,ne_s_b,ne_s_b.symm,qN,qJ,VE,setAt,VF,Kj,qC,VG,Kn,Jp,Nat.reduceAdd,qF,qG,qI,qf,qK,qa,qz,qd,qE,qc,qA,qg,qH,qy,allLive,J4,tokV,posV,faultV,hlv,hbl,hpl,nb];repeat (with_reducible refine And.intro ?_ ?_;· first|trivial|omega|(intro hg;simp only[Ky,JH,Jh,VH,VI,VJ,decide_eq_true_eq,decide_eq_false_iff_not,qR]at hg;omega))
  refine⟨⟨_,_,by rfl,?_⟩,by intro i;first|trivial|exact .inr trivial|exact .inr rfl⟩;exact(qdI w0 _ B kp v ov2 l j 4 i zqA zqB hv (by omega) (by omega)).mono (fun _ _ q=>q) fun x h' ⟨q1,q2⟩=>⟨_,BodyR.empty hTf hbare (by rw[hW2];exact hR) hEt,q1,Bq (by assumption) q2⟩
 ·try simp only[decide_eq_true_eq,decide_eq_false_iff_not,Jh,VJ,Ky,VH,JH,VI,VV,VW,reduceCtorEq]at hb1
  have hEf:qcK l O w L j=false:=by
   rw[hE,<-BM];intro z;rw[Ky,decide_eq_true_eq,JH,Ky]at z;obtain⟨z1,z2⟩:=z;rcases hb1 with y|⟨y1,y2⟩
   ·omega
   ·rcases z2 with x|⟨x1,x2⟩
    ·rw[show decide (w=ZZ)=true from decide_eq_true y1]at x;cases x
    ·rcases y2 with u|u
     ·rw[show decide (S.1=ZZ)=true from decide_eq_true u]at x1;cases x1
     ·rw[show decide (S.1=qiZ)=true from decide_eq_true u]at x2;cases x2
  refine QJ ?_;change Awp _ _ _ _ _ _ _;have htv:=hrow.isL (w0:=w0) (hS3.in_ (i:=7) rfl);obtain⟨qL,hqL,hrv0⟩:=(hsts.mono (hS3.in_ (i:=10) rfl)).isL;have hck:=htv.clip;have hcr:=hrv0.clip;have hckl:=hck.live;have hcrl:=hcr.live;refine qfe 7 [1,13] mixed (by kernel_rfl) (by rfl) fun K hK=>?_;simp only[Ki,Bj,Ba,Vk];simp+decide only[qh,qi,qj,qo,ev,qZ,qY,putD,Vz,VA,VB,Ka,VC,VD,Kb,and_true,↓Yr,Qd,qdF,↓qds,Yg,Qi qbR,qM,ne_eq,not_false_eq_true,qO w0 eb_p,qO w0 eb_s,qO w0 eb_b,ne_p_s,ne_p_s.symm,ne_p_b,ne_p_b.symm,ne_s_b,ne_s_b.symm,qN,qJ,VE,setAt,VF,Kj,qC,VG,Kn,Jp,Nat.reduceAdd,qF,qG,qI,qf,qK,qa,qz,qd,qE,qc,qA,qg,qH,qy,allLive,J4,tokV,posV,faultV,hlv,hbl,hpl,nb,htl,hrl,hckl,hcrl];repeat (with_reducible refine And.intro ?_ ?_;· first|trivial|omega|(intro hg;simp only[Ky,JH,Jh,VH,VI,VJ,decide_eq_true_eq,decide_eq_false_iff_not,qR]at hg;omega))
  refine qcc (V:=Yd tv) (by rfl) (by rfl) (qgf w0 _ tv _ htv) ?_;simp+decide only[qh,qi,qj,qo,ev,qZ,qY,putD,Vz,VA,VB,Ka,VC,VD,Kb,and_true,↓Yr,Qd,qdE,↓qds,Yg,Qi qhb,qM,ne_eq,not_false_eq_true,qO w0 eb_p,qO w0 eb_s,qO w0 eb_b,ne_p_s,ne_p_s.symm,ne_p_b,ne_p_b.symm,ne_s_b,ne_s_b.symm,qN,qJ,VE,setAt,VF,Kj,qC,VG,Kn,Jp,Nat.reduceAdd,qF,qG,qI,qf,qK,qa,qz,qd,qE,qc,qA,qg,qH,qy,allLive,J4,tokV,posV,faultV,hlv,hbl,hpl,nb,htl,hrl,hckl,hcrl];repeat (with_reducible refine And.intro ?_ ?_;· first|trivial|omega|(intro hg;simp only[Ky,JH,Jh,VH,VI,VJ,decide_eq_true_eq,decide_eq_false_iff_not,qR]at hg;omega))
  refine qcc (V:=Yd x18q3) (by rfl) (by rfl) (qmg w0 _ x18q3 _ hrv0) ?_;simp+decide only[qh,qi,qj,qo,ev,qZ,qY,putD,Vz,VA,VB,Ka,VC,VD,Kb,and_true,↓Yr,Qd,qdF,qM,ne_eq,not_false_eq_true,qO w0 eb_p,qO w0 eb_s,qO w0 eb_b,ne_p_s,ne_p_s.symm,ne_p_b,ne_p_b.symm,ne_s_b,ne_s_b.symm,qN,qJ,VE,setAt,VF,Kj,qC,VG,Kn,Jp,Nat.reduceAdd,qF,qG,qI,qf,qK,qa,qz,qd,qE,qc,qA,qg,qH,qy,allLive,J4,tokV,posV,faultV,hlv,hbl,hpl,nb,htl,hrl,hckl,hcrl];repeat (with_reducible refine And.intro ?_ ?_;· first|trivial|omega|(intro hg;simp only[Ky,JH,Jh,VH,VI,VJ,decide_eq_true_eq,decide_eq_false_iff_not,qR]at hg;omega))
  try simp only[qi,qj]
  refine QR (v:=Yd tv) (by rfl) (by rfl) eb_b qte hckl (by rw[hck.cells];rfl) (by simp only[hck.cells,KX,JD];omega) (Jq _) (by rw[hck.cells];simp[XR,hck.scal]) ?_;simp only[hck.cells,setAt,VF,Kj,Jp,Nat.reduceAdd];simp+decide only[qh,qi,qj,qo,ev,qZ,qY,putD,Vz,VA,VB,Ka,VC,VD,Kb,and_true,↓Qo,Qd,qdE,qM,ne_eq,not_false_eq_true,qO w0 eb_p,qO w0 eb_s,qO w0 eb_b,ne_p_s,ne_p_s.symm,ne_p_b,ne_p_b.symm,ne_s_b,ne_s_b.symm,qN,qJ,VE,setAt,VF,Kj,qC,VG,Kn,Jp,Nat.reduceAdd,qF,qG,qI,qf,qK,qa,qz,qd,qE,qc,qA,qg,qH,qy,allLive,J4,tokV,posV,faultV,hlv,hbl,hpl,nb,htl,hrl,hckl,hcrl];repeat (with_reducible refine And.intro ?_ ?_;· first|trivial|omega|(intro hg;simp only[Ky,JH,Jh,VH,VI,VJ,decide_eq_true_eq,decide_eq_false_iff_not,qR]at hg;omega))
  refine QR (v:=Yd x18q3) (by rfl) (by rfl) (Vf _ _ _) qrp hcrl (by rw[hcr.cells];rfl) (by simp only[hcr.cells,KX,JD];omega) (Jq _) (by rw[hcr.cells];simp[XR,hcr.scal]) ?_;simp only[hcr.cells,Bi,setAt,VF,Kj,Jp,Nat.reduceAdd];simp+decide only[qh,qi,qj,qo,ev,qZ,qY,putD,Vz,VA,VB,Ka,VC,VD,Kb,and_true,qM,ne_eq,not_false_eq_true,qO w0 eb_p,qO w0 eb_s,qO w0 eb_b,ne_p_s,ne_p_s.symm,ne_p_b,ne_p_b.symm,ne_s_b,ne_s_b.symm,qN,qJ,VE,setAt,VF,Kj,qC,VG,Kn,Jp,Nat.reduceAdd,qF,qG,qI,qf,qK,qa,qz,qd,qE,qc,qA,qg,qH,qy,allLive,J4,tokV,posV,faultV,hlv,hbl,hpl,nb,htl,hrl,hckl,hcrl];repeat (with_reducible refine And.intro ?_ ?_;· first|trivial|omega|(intro hg;simp only[Ky,JH,Jh,VH,VI,VJ,decide_eq_true_eq,decide_eq_false_iff_not,qR]at hg;omega))
  apply hK;clear hK K;obtain⟨H23,hH23⟩:∃H23,H23=H19.set kb ⟨[.str w,Yd tv,Yd x18q3],0⟩:=⟨_,rfl⟩
  refine BJ (h':=H23) (by rw[hH23];exact Vg _) ?_;have hS4:=hS3.put (i:=6) rfl ⟨[.str w,Yd tv,Yd x18q3],0⟩;rw[<-hH23]at hS4;simp only[VF,Kj]at hS4;have eb_p:H23 kp=some _:=hS4.at_ (i:=8) rfl;have eb_s:H23 ks=some _:=hS4.at_ (i:=1) rfl;have eb_b:H23 kb=some _:=hS4.at_ (i:=6) rfl;have hs_H23:Sub B H23:=hS4.in_ (i:=0) rfl;obtain⟨bs,hb1e,hb2e,hb3e⟩:=id hC.bd;have hbn:c.bodies.length=bs.length:=by rw[hb1e,Jn]
  obtain⟨hf1,hf2,hf3⟩:=hfew;have hin2:i<=l.length:=hP0.at_;refine qft 7 [0] mixed (by kernel_rfl) (by rfl) ?_;simp only[Ki,Bj,Ba,Vk,BH,BI];simp+decide only[qh,qi,qj,qo,ev,qZ,qY,putD,Vz,VA,VB,Ka,VC,VD,Kb,and_true,↓qbl,qU,↓qan,Xg,XP,XF,↓WA,Qd,WG,↓qbm,Yg,Qi qdL,Xy qmp UW,qM,ne_eq,not_false_eq_true,qO w0 eb_p,qO w0 eb_s,qO w0 eb_b,ne_p_s,ne_p_s.symm,ne_p_b,ne_p_b.symm,ne_s_b,ne_s_b.symm,qN,qJ,VE,setAt,VF,Kj,qC,VG,Kn,Jp,Nat.reduceAdd,qF,qG,qI,qf,qK,qa,qz,qd,qE,qc,qA,qg,qH,qy,allLive,J4,tokV,posV,faultV,hlv,hbl,hpl,nb,hckl,hcrl,VO];repeat (with_reducible refine And.intro ?_ ?_;· first|trivial|omega|(intro hg;simp only[Ky,JH,Jh,VH,VI,VJ,decide_eq_true_eq,decide_eq_false_iff_not,qR]at hg;omega))
  refine qaM (by rfl) ?_;refine QS (cs:=[.str w,Yd tv,Yd x18q3]) (by kernel_rfl) fun k23q6 hk23q6=>?_;have hn_23q6:H23 k23q6=none:=by first|assumption|(simp only[V7]at hk23q6;simp only[hk23q6])
  have hf_23q6:B k23q6=none:=Bh hs_H23 hn_23q6;have ne_23q6_p:k23q6≠kp:=BG hn_23q6 eb_p;have ne_23q6_s:k23q6≠ks:=BG hn_23q6 eb_s;have ne_23q6_b:k23q6≠kb:=BG hn_23q6 eb_b;rw[qh];repeat (with_reducible refine And.intro ?_ ?_;· first|trivial|omega|(intro hg;simp only[Ky,JH,Jh,VH,VI,VJ,decide_eq_true_eq,decide_eq_false_iff_not,qR]at hg;omega))
  try simp only[qi,qj]
  refine Ub (es:=3) (v:=bv) (p:=bp) (xs:=bs.map bdC) (ys:=[[.str w,Yd tv,Yd x18q3]]) (i:=4) (by rfl) (by rfl) Tryd.underlying46 Tryd.underlying46 (fun k e=>by cases e) UW by50 qjZ (by rfl) (by decide) (by rfl) hb2e rfl (hS4.forget (V8 hn_23q6)) (by rfl) (V9 (Vf _ _ _) (fun x hx=>by rw[V4.1 hx];rfl) (by rfl) (by show(true && ((Yd tv).live && ((Yd x18q3).live && true)))=true;rw[hckl,hcrl];rfl) (.exact 1) (KL _)) (by show(true && ((Yd tv).scal && ((Yd x18q3).scal && true)))=true;rw[hck.scal,hcr.scal];rfl) (by simp) (by simp only[Jn,JF];omega) (by simp only[Jn,JF];omega) fun bv2 bp2 h23 hb2g _ hS5=>?_;simp+decide only[qh,qi,qj,qo,ev,qZ,qY,putD,Vz,VA,VB,Ka,VC,VD,Kb,and_true,↓XE,Xg,XP,XF,↓Qo,Qd,WG,qM,ne_eq,not_false_eq_true,ne_23q6_p,ne_23q6_p.symm,ne_23q6_s,ne_23q6_s.symm,ne_23q6_b,ne_23q6_b.symm,qO w0 eb_p,qO w0 eb_s,qO w0 eb_b,ne_p_s,ne_p_s.symm,ne_p_b,ne_p_b.symm,ne_s_b,ne_s_b.symm,qN,qJ,VE,setAt,VF,Kj,qC,VG,Kn,Jp,Nat.reduceAdd,qF,qG,qI,qf,qK,qa,qz,qd,qE,qc,qA,qg,qH,qy,allLive,J4,tokV,posV,faultV,hlv,hbl,hpl,nb,hckl,hcrl,VO];repeat (with_reducible refine And.intro ?_ ?_;· first|trivial|omega|(intro hg;simp only[Ky,JH,Jh,VH,VI,VJ,decide_eq_true_eq,decide_eq_false_iff_not,qR]at hg;omega))
  refine QR (v:=bv2) (by rfl) (by rfl) (hS5.at_ (i:=1) rfl) sz46 hb2g.live (by rw[hb2g.cells];rfl) (by simp only[hb2g.cells,KX,JD];omega) (Jq _) (by rw[hb2g.cells];simp[XR,hb2g.scal]) ?_;simp only[hb2g.cells,setAt,VF,Kj,Jp,Nat.reduceAdd];simp+decide only[qh,qi,qj,qo,ev,qZ,qY,putD,Vz,VA,VB,Ka,VC,VD,Kb,and_true,qM,ne_eq,not_false_eq_true,ne_23q6_p,ne_23q6_p.symm,ne_23q6_s,ne_23q6_s.symm,ne_23q6_b,ne_23q6_b.symm,qO w0 eb_p,qO w0 eb_s,qO w0 eb_b,ne_p_s,ne_p_s.symm,ne_p_b,ne_p_b.symm,ne_s_b,ne_s_b.symm,qN,qJ,VE,setAt,VF,Kj,qC,VG,Kn,Jp,Nat.reduceAdd,qF,qG,qI,qf,qK,qa,qz,qd,qE,qc,qA,qg,qH,qy,allLive,J4,tokV,posV,faultV,hlv,hbl,hpl,nb,hckl,hcrl,VO];repeat (with_reducible refine And.intro ?_ ?_;· first|trivial|omega|(intro hg;simp only[Ky,JH,Jh,VH,VI,VJ,decide_eq_true_eq,decide_eq_false_iff_not,qR]at hg;omega))
  try simp only[WR,Yy,QK,Qt]
  try simp only[QF,Qn]
  refine qeE (Qv) ?_;simp+decide only[qh,qi,qj,qo,ev,qZ,qY,putD,Vz,VA,VB,Ka,VC,VD,Kb,and_true,qeF,qM,ne_eq,not_false_eq_true,ne_23q6_p,ne_23q6_p.symm,ne_23q6_s,ne_23q6_s.symm,ne_23q6_b,ne_23q6_b.symm,qO w0 eb_p,qO w0 eb_s,qO w0 eb_b,ne_p_s,ne_p_s.symm,ne_p_b,ne_p_b.symm,ne_s_b,ne_s_b.symm,qN,qJ,VE,setAt,VF,Kj,qC,VG,Kn,Jp,Nat.reduceAdd,qF,qG,qI,qf,qK,qa,qz,qd,qE,qc,qA,qg,qH,qy,allLive,J4,tokV,posV,faultV,hlv,hbl,hpl,nb];have hS6:=hS5.put (i:=1) rfl (curB {c with bodies:=c.bodies++[(w,toks,L)]} pv bv2);simp only[VF,Kj]at hS6;have hdE:[E,q,E2].Pairwise disj:=(hS6.pick [5,7,10] (by decide) (by simp)).2;have hu:=Yb hdE;have hS7:=(BK (ps:=[E,q,E2]) (hS6.pick [5,7,10,0,8,9,1,2,3,4] (by decide) (by simp))).pick [1,2,3,4,5,6,7,0] (by decide) (by simp);refine⟨_,Vg _,{c with bodies:=c.bodies++[(w,toks,L)]},j,ov2,op2,bv2,bp2,qaY [E,q,E2],by have:=BodyR.ok hTf hbare (by rw[hW2];exact hR) hEf;rw[hhd]at this;exact this,?_,rfl,rfl,rfl,rfl,by simp,⟨?_,?_⟩,⟨hv,hP2.open_,hP2.isG,hP2.at_⟩,hS7⟩
  ·rcases hpos with z|z
   ·omega
   ·by_cases hn0:n=0
    ·rcases Nat.lt_or_ge i j with y|y
     ·exact y
     ·exfalso
      have hij2:a=j:=by omega
      have hai:a=i:=by omega
      have hL0:L.length=0:=by omega
      have hwW:w=ZZ:=by
       by_cases y2:w=ZZ
       ·exact y2
       ·rw[hE,hL0,decide_eq_false y2]at hEf;cases hEf
      refine hbare ⟨hwW,?_⟩;unfold headW;rw[if_pos hwW,hn0,K6];unfold qof;rw[qdU (.inr (.inl z))]
    ·omega
  ·obtain⟨qs,w1,ts,tv1,p1,p2,p3,p4⟩:=hC.ph
   exact⟨qs,w1,ts,tv1,p1,p2,p3,fun x hx=>(p4 x hx).mono (hu E (by simp))⟩
  ·refine⟨bs++[((w,toks,L),Yd tv,Yd x18q3)],by simp only;rw[hb1e,VZ];rfl,by rw[VZ];exact hb2g,fun b hb=>?_⟩
   rcases JS.1 hb with z|z
   ·exact⟨(hb3e b z).1.mono (hu E (by simp)),(hb3e b z).2.mono (hu E (by simp))⟩
   ·rw[V4.1 z]
    refine⟨(hrow.isL (hu q (by simp))).clip,?_⟩;have:=qrs (hsts.mono (hu E2 (by simp)))
    rwa [show 33-(dd+1)=32-dd by omega]at this
theorem k_body(w0:World)(hm:MaxL w0)(ha:Asp w0)(l:List TokC)(hl:l.length<=65537)(hsh:Short l)(dd:Nat)(hdd:dd<=32)(hd0:0<dd)(hli:qjY w0 l (dd+1)):BodK w0 l dd:=
 k_bodyA w0 l hl dd fun H B kp ks v ov bv pv op pp tp bp E O c w n i hS hP hC hF hO hin hpos hfew hTf=>
  k_bodyB w0 hm ha l hl hsh dd hdd hd0 H B kp ks v ov bv pv op pp tp bp E O c w n i hS hP hC hF hO hin hTf fun kb g hI hhd hbare=>
   k_bodyC w0 hm ha l hl hsh dd hdd hli B kp ks kb v ov bv pv op pp tp bp E O c w n i hP hC hF hO hin hpos hfew hTf g hI hhd hbare
theorem cond_P{P:Str×Str->Prop}{b:Bool}{x y:Str×Str}(hx:P x)(hy:P y):P (bif b then x else y):=by cases b<;>assumption
def qoW(p:Str×Str):Prop:=(p.1.length<=1000000/\asciiB p.1=true)/\p.2.length<=1000000/\asciiB p.2=true
instance (p:Str×Str):Decidable (qoW p):=by unfold qoW;exact inferInstance
theorem qit(s:Str):qoW (Xi s):=by
 unfold Xi;repeat' (refine cond_P (P:=qoW) (by decide) ?_)
 decide
theorem Fair.snoc{O:List Str}(hF:Fair O)(s:Str):Fair (O++[(Xi s).2]):=fun f hf=>by
 rcases JS.1 hf with h|h
 ·exact hF f h
 ·rw[V4.1 h];exact(qit s).2
structure StI(w0:World)(l:List TokC)(B:AHeap)(kp ks k4:Nat)(b4:Blk)(v ov pv bv:AVal)(op pp tp bp E:AHeap)(O:List Str)(d:Nat)(c:Cur)(j:Nat)(H:AHeap):Prop where
 sep:Sep [B,one kp (parB3 v j ov),op,one ks (curB c pv bv),pp,tp,bp,E,one k4 b4] H
 par:ParS w0 l B v ov op O j
 cur:CurS w0 d c pv bv pp tp bp E
 few:Few c j
def qdS:Blk:=⟨[.str [], .int .i64 0, .int .i64 0, .nilSlice, .nilSlice],0⟩
set_option maxHeartbeats 8000000 in
theorem k_stmA(w0:World)(l:List TokC)(hl:l.length<=65537)(dd:Nat)(hdd:dd<=33)
 (hrest:dd<=32->∀(H B:AHeap) (kp ks k4:Nat) (v ov pv bv:AVal) (op pp tp bp E:AHeap) (O:List Str) (i:Nat),StI w0 l B kp ks k4 qdS v ov pv bv op pp tp bp E (O++[(Xi (l.getD i noT).text).2]) (32-dd) (qbM l i) (i+1) H->Fair O->O.length+1=dd->isV l i=true->
   Awp Tryd.prog w0 ⟨201,[],GP w0 201 [] [] (qiY B fun f=>StRO l dd O i (.bad f))⟩ (WW 6 (qhD (WW 1 (qcM Tryd.f38)))) (qdB (qcW Tryd.prog w0 [.cell 4 48] (qoa w0 l B kp v O dd i))) [(0, .ptr (.own kp) 0),(1, .int .i64 dd),(4, .ptr (.own k4) 0),(5, .int .i64 i),(6, .ptr (.own ks) 0),(7, .str (Xi (l.getD i noT).text).1),(8, .str (Xi (l.getD i noT).text).2)] (H)):StmK w0 l dd:=by
 intro h B kp v ov op O i hS hP hF hO hvi;have eb_p:h kp=some _:=hS.at_ (i:=1) rfl;have hs_h:Sub B h:=hS.in_ (i:=0) rfl;have hv:=hP.toks;have hlv:=hv.live;have hlo:=hP.open_.live;have hi:=qsb hvi;refine qaP (k:=201) (rs:=[.cell 4 48]) Tryd.func38 rfl rfl rfl rfl (Vy rfl) ?_;simp only[Xe];refine awp_rseq [0,1,4] (by rfl) fun K hK=>?_;refine XL qka (cs:=[.str [], .int .i64 0, .int .i64 0, .nilSlice, .nilSlice]) (by rfl) fun k0q0 hk0q0=>?_;have hn_0q0:h k0q0=none:=by first|assumption|(simp only[V7]at hk0q0;simp only[hk0q0])
 have hf_0q0:B k0q0=none:=Bh hs_h hn_0q0;have ne_0q0_p:k0q0≠kp:=BG hn_0q0 eb_p;simp+decide only[qh,qi,qj,qo,ev,qZ,qY,putD,Vz,VA,VB,Ka,VC,VD,Kb,and_true,qM,ne_eq,not_false_eq_true,ne_0q0_p,ne_0q0_p.symm,qO w0 eb_p,qN,qJ,VE,setAt,VF,Kj,qC,VG,Kn,Jp,Nat.reduceAdd,qF,qG,qI,qf,qK,qa,qz,qd,qE,qc,qA,qg,qH,qy,allLive,J4,tokV,posV,faultV,hlv,hlo];repeat (with_reducible refine And.intro ?_ ?_;· first|trivial|omega|(intro hg;simp only[Ky,JH,Jh,VH,VI,VJ,decide_eq_true_eq,decide_eq_false_iff_not,qR]at hg;omega))
 apply hK;clear hK K;refine qpW ?_;refine awp_rseq [0,1,4,5] (by rfl) fun K hK=>?_;simp+decide only[qh,qi,qj,qo,ev,qZ,qY,putD,Vz,VA,VB,Ka,VC,VD,Kb,and_true,↓qW,qU,↓XE,Xg,XP,XF,↓Qo,Qd,Wl,↓Qu,QM,Qi ag3,↓qV,qP,qM,ne_eq,not_false_eq_true,ne_0q0_p,ne_0q0_p.symm,qO w0 eb_p,qN,qJ,VE,setAt,VF,Kj,qC,VG,Kn,Jp,Nat.reduceAdd,qF,qG,qI,qf,qK,qa,qz,qd,qE,qc,qA,qg,qH,qy,allLive,J4,tokV,posV,faultV,hlv,hlo];repeat (with_reducible refine And.intro ?_ ?_;· first|trivial|omega|(intro hg;simp only[Ky,JH,Jh,VH,VI,VJ,decide_eq_true_eq,decide_eq_false_iff_not,qR]at hg;omega))
 apply hK;clear hK K;refine Qp ?_;refine awp_rseq [0,1,4,5,23] (by rfl) fun K hK=>?_;simp+decide only[qh,qi,qj,qo,ev,qZ,qY,putD,Vz,VA,VB,Ka,VC,VD,Kb,and_true,↓qW,qU,↓Qj,Qa,Qm,cond_false,Qh,UE,qM,ne_eq,not_false_eq_true,ne_0q0_p,ne_0q0_p.symm,qO w0 eb_p,qN,qJ,VE,setAt,VF,Kj,qC,VG,Kn,Jp,Nat.reduceAdd,qF,qG,qI,qf,qK,qa,qz,qd,qE,qc,qA,qg,qH,qy,allLive,J4,tokV,posV,faultV,hlv,hlo];repeat (with_reducible refine And.intro ?_ ?_;· first|trivial|omega|(intro hg;simp only[Ky,JH,Jh,VH,VI,VJ,decide_eq_true_eq,decide_eq_false_iff_not,qR]at hg;omega))
 apply hK;clear hK K;refine Qw (b:=_) rfl (fun hb1=>?_) (fun hb1=>?_)
 ·try simp only[decide_eq_true_eq,decide_eq_false_iff_not,Jh,VJ,Ky,VH,JH,VI,VV,VW,reduceCtorEq]at hb1
  refine YO 2 (by rfl) (by rfl) ?_;simp only[Ki,Bj];simp+decide only[qh,qi,qj,qo,ev,qZ,qY,putD,Vz,VA,VB,Ka,VC,VD,Kb,and_true,↓qW,qU,qM,ne_eq,not_false_eq_true,ne_0q0_p,ne_0q0_p.symm,qO w0 eb_p,qN,qJ,VE,setAt,VF,Kj,qC,VG,Kn,Jp,Nat.reduceAdd,qF,qG,qI,qf,qK,qa,qz,qd,qE,qc,qA,qg,qH,qy,allLive,J4,tokV,posV,faultV,hlv,hlo];repeat (with_reducible refine And.intro ?_ ?_;· first|trivial|omega|(intro hg;simp only[Ky,JH,Jh,VH,VI,VJ,decide_eq_true_eq,decide_eq_false_iff_not,qR]at hg;omega))
  refine⟨⟨_,_,by rfl,?_⟩,by intro i;first|trivial|exact .inr trivial|exact .inr rfl⟩;exact(qdI w0 _ B kp v ov l i 3 i zqA zqB hv (by omega) (by omega)).mono (fun _ _ q=>q) fun x h' ⟨q1,q2⟩=>⟨_,StR.deep (by omega),q1,Bq zqB q2⟩
 ·try simp only[decide_eq_true_eq,decide_eq_false_iff_not,Jh,VJ,Ky,VH,JH,VI,VV,VW,reduceCtorEq]at hb1
  have hd32:dd<=32:=by omega
  refine QJ ?_;change Awp _ _ _ _ _ _ _;obtain⟨H4,hH4⟩:∃H4,H4=h.set k0q0 qdS:=⟨_,rfl⟩
  refine BJ (h':=H4) (by rw[hH4];exact Vg _) ?_;have hS4:=hS.lay hk0q0 qdS;rw[<-hH4]at hS4;simp only[Kh,Jd]at hS4;have eb_p:H4 kp=some _:=hS4.at_ (i:=1) rfl;have eb_0q0:H4 k0q0=some _:=hS4.at_ (i:=3) rfl;have hs_H4:Sub B H4:=hS4.in_ (i:=0) rfl;obtain⟨lc,o,cc,hve⟩:=YA hv (by omega);have hv2:=hv.mono hs_H4;rw[hve]at hv2;obtain⟨e0,e1,e2,e3,e4⟩:=Uy hv2 hi;obtain⟨t,ht⟩:∃t,t=l.getD i noT:=⟨_,rfl⟩
  have hcur:qbM l i=⟨t.text,t.line,t.col,[⟨[],[]⟩],[]⟩:=by rw[ht];rfl
  rw[<-ht]at e0 e1 e2 e3 e4;have e3':rd w0 H4 lc (o+i*5+2+1)= .int .i64 t.col:=e3;refine qbg 20 [] [0,1,4,5,6] mixed (by kernel_rfl) (by rfl) fun K hK=>?_;simp only[Ki,Bj,Ba,Vk,BH,BI];simp+decide only[qh,qi,qj,qo,ev,qZ,qY,putD,Vz,VA,VB,Ka,VC,VD,Kb,and_true,↓qbl,qU,↓qan,Xg,XP,XF,↓WA,Qd,qco,↓qbm,Yg,Qi qbR,↓WV,Ql Tryd.underlying31 Yv,ZH,qbe,Qi ag9,qsj,Xy ag26 sz26,↓qis,ZU,↓Zz,qsM,evP,Ke,Vh,Ym,Zr,ZV,Ue,ZA,Wt,ZW,qM,ne_eq,not_false_eq_true,qO w0 eb_p,qN,qJ,VE,setAt,VF,Kj,qC,VG,Kn,Jp,Nat.reduceAdd,qF,qG,qI,qf,qK,qa,qz,qd,qE,qc,qA,qg,qH,qy,allLive,J4,tokV,posV,faultV,hlv,hlo,hve,e1,e2,e3,e3',VX,K6];repeat (with_reducible refine And.intro ?_ ?_;· first|trivial|omega|(intro hg;simp only[Ky,JH,Jh,VH,VI,VJ,decide_eq_true_eq,decide_eq_false_iff_not,qR]at hg;omega))
  refine qaM (by rfl) ?_;refine QS (cs:=[.str [], .nilSlice]) (by kernel_rfl) fun k4q17 hk4q17=>?_;have hn_4q17:H4 k4q17=none:=by first|assumption|(simp only[V7]at hk4q17;simp only[hk4q17])
  have hf_4q17:B k4q17=none:=Bh hs_H4 hn_4q17;have ne_4q17_p:k4q17≠kp:=BG hn_4q17 eb_p;rw[qh];simp+decide only[qh,qi,qj,qo,ev,qZ,qY,putD,Vz,VA,VB,Ka,VC,VD,Kb,and_true,↓qis,ZU,↓Zz,qmj,evP,Ke,Vh,Ym,Zr,ZV,Ue,ZA,Wt,ZW,qM,ne_eq,not_false_eq_true,ne_4q17_p,ne_4q17_p.symm,qO w0 eb_p,qN,qJ,VE,setAt,VF,Kj,qC,VG,Kn,Jp,Nat.reduceAdd,qF,qG,qI,qf,qK,qa,qz,qd,qE,qc,qA,qg,qH,qy,allLive,J4,tokV,posV,faultV,hlv,hlo,hve,e1,e2,e3,e3',VX,K6];repeat (with_reducible refine And.intro ?_ ?_;· first|trivial|omega|(intro hg;simp only[Ky,JH,Jh,VH,VI,VJ,decide_eq_true_eq,decide_eq_false_iff_not,qR]at hg;omega))
  refine qaM (by rfl) ?_;refine XL qka (cs:=[.str [], .int .i64 0, .int .i64 0, .nilSlice, .nilSlice]) (by rfl) fun k4q19 hk4q19=>?_;have ne_4q19_4q17:k4q19≠k4q17:=by simp only[V7]at hk4q19;simp only[hk4q19,ne_eq,not_false_eq_true]
  have hn_4q19:H4 k4q19=none:=by first|assumption|(simp only[V7]at hk4q19;simp only[hk4q19])
  have hf_4q19:B k4q19=none:=Bh hs_H4 hn_4q19;have ne_4q19_p:k4q19≠kp:=BG hn_4q19 eb_p;rw[qh];repeat (with_reducible refine And.intro ?_ ?_;· first|trivial|omega|(intro hg;simp only[Ky,JH,Jh,VH,VI,VJ,decide_eq_true_eq,decide_eq_false_iff_not,qR]at hg;omega))
  try simp only[qi,qj]
  refine QR (by rfl) (by rfl) zqA WJ (by rfl) (by rfl) zqD (Jq _) (by rfl) ?_;simp only[Bi,setAt,VE,VF,Kj,Jp,Nat.reduceAdd];simp+decide only[qh,qi,qj,qo,ev,qZ,qY,putD,Vz,VA,VB,Ka,VC,VD,Kb,and_true,qM,ne_eq,not_false_eq_true,ne_4q17_p,ne_4q17_p.symm,ne_4q19_4q17,ne_4q19_4q17.symm,ne_4q19_p,ne_4q19_p.symm,qO w0 eb_p,qN,qJ,VE,setAt,VF,Kj,qC,VG,Kn,Jp,Nat.reduceAdd,qF,qG,qI,qf,qK,qa,qz,qd,qE,qc,qA,qg,qH,qy,allLive,J4,tokV,posV,faultV,hlv,hlo,hve,e1,e2,e3,e3',VX,K6];repeat (with_reducible refine And.intro ?_ ?_;· first|trivial|omega|(intro hg;simp only[Ky,JH,Jh,VH,VI,VJ,decide_eq_true_eq,decide_eq_false_iff_not,qR]at hg;omega))
  apply hK;clear hK K;obtain⟨H5,hH5⟩:∃H5,H5=(H4.set k4q17 ⟨[.str [], .nilSlice],0⟩).set k4q19 ⟨[.str t.text, .int .i64 t.line, .int .i64 t.col, .slice (.own k4q17) 0 1 (.exact 1), .nilSlice],0⟩:=⟨_,rfl⟩
  refine BJ (h':=H5) (by rw[hH5];exact Vg _) ?_;have hS5:=(hS4.lay hn_4q17 ⟨[.str [], .nilSlice],0⟩).lay ((AHeap.set_ne _ _ ne_4q19_4q17).trans hn_4q19) ⟨[.str t.text, .int .i64 t.line, .int .i64 t.col, .slice (.own k4q17) 0 1 (.exact 1), .nilSlice],0⟩;rw[<-hH5]at hS5;simp only[Kh,Jd]at hS5;have eb_p:H5 kp=some _:=hS5.at_ (i:=1) rfl;have eb_4q19:H5 k4q19=some _:=hS5.at_ (i:=5) rfl;have hs_H5:Sub B H5:=hS5.in_ (i:=0) rfl;refine awp_rseq [0,1,4,5,6,7,8] (by rfl) fun K hK=>?_;simp+decide only[qh,qi,qj,qo,ev,qZ,qY,putD,Vz,VA,VB,Ka,VC,VD,Kb,and_true,↓Qo,Qd,qcp,↓Qu,QM,Qi ag9,qM,ne_eq,not_false_eq_true,qO w0 eb_p,qO w0 eb_4q19,ne_4q19_p,ne_4q19_p.symm,qN,qJ,VE,setAt,VF,Kj,qC,VG,Kn,Jp,Nat.reduceAdd,qF,qG,qI,qf,qK,qa,qz,qd,qE,qc,qA,qg,qH,qy,allLive,J4,tokV,posV,faultV,hlv,hlo];repeat (with_reducible refine And.intro ?_ ?_;· first|trivial|omega|(intro hg;simp only[Ky,JH,Jh,VH,VI,VJ,decide_eq_true_eq,decide_eq_false_iff_not,qR]at hg;omega))
  refine XD (V:= .tuple [.str (Xi t.text).1, .str (Xi t.text).2]) (by rfl) (by rfl) (c_forms w0 _ t.text) ?_;simp+decide only[qh,qi,qj,qo,ev,qZ,qY,putD,Vz,VA,VB,Ka,VC,VD,Kb,and_true,↓qW,qU,↓Zl,XY,Zp,KX,JD,VG,Kn,↓qV,qP,qM,ne_eq,not_false_eq_true,qO w0 eb_p,qO w0 eb_4q19,ne_4q19_p,ne_4q19_p.symm,qN,qJ,VE,setAt,VF,Kj,qC,VG,Kn,Jp,Nat.reduceAdd,qF,qG,qI,qf,qK,qa,qz,qd,qE,qc,qA,qg,qH,qy,allLive,J4,tokV,posV,faultV,hlv,hlo];repeat (with_reducible refine And.intro ?_ ?_;· first|trivial|omega|(intro hg;simp only[Ky,JH,Jh,VH,VI,VJ,decide_eq_true_eq,decide_eq_false_iff_not,qR]at hg;omega))
  apply hK;clear hK K;refine awp_rseq [0,1,4,5,6,7,8] (by rfl) fun K hK=>?_;simp+decide only[qh,qi,qj,qo,ev,qZ,qY,putD,Vz,VA,VB,Ka,VC,VD,Kb,and_true,↓qW,qU,↓XE,Xg,XP,XF,↓Qo,Qd,qgO,↓Qu,QM,Qi ag22,qM,ne_eq,not_false_eq_true,qO w0 eb_p,qO w0 eb_4q19,ne_4q19_p,ne_4q19_p.symm,qN,qJ,VE,setAt,VF,Kj,qC,VG,Kn,Jp,Nat.reduceAdd,qF,qG,qI,qf,qK,qa,qz,qd,qE,qc,qA,qg,qH,qy,allLive,J4,tokV,posV,faultV,hlv,hlo];repeat (with_reducible refine And.intro ?_ ?_;· first|trivial|omega|(intro hg;simp only[Ky,JH,Jh,VH,VI,VJ,decide_eq_true_eq,decide_eq_false_iff_not,qR]at hg;omega))
  refine QS (cs:=[.str (Xi t.text).2]) (by kernel_rfl) fun k6q6 hk6q6=>?_;have hn_6q6:H5 k6q6=none:=by first|assumption|(simp only[V7]at hk6q6;simp only[hk6q6])
  have hf_6q6:B k6q6=none:=Bh hs_H5 hn_6q6;have ne_6q6_p:k6q6≠kp:=BG hn_6q6 eb_p;have ne_6q6_4q19:k6q6≠k4q19:=BG hn_6q6 eb_4q19;refine Ub (es:=1) (v:=ov) (p:=op) (xs:=O.map strC) (ys:=[strC (Xi t.text).2]) (i:=2) (by rfl) (by rfl) Tryd.underlying22 Tryd.underlying22 (fun k e=>by cases e) sz9 by9 ze9 (by rfl) (by decide) (by rfl) hP.open_ rfl (hS5.forget (V8 hn_6q6)) (by rfl) (V9 (Vf _ _ _) (fun x hx=>by rw[V4.1 hx];rfl) (by rfl) (by rfl) (.exact 1) (KL _)) (by rfl) (by simp) (by simp only[Jn,JF];omega) (by simp only[Jn,JF];omega) fun ov2 op2 h6 hov2 hG2 hS6=>?_;simp+decide only[qh,qi,qj,qo,ev,qZ,qY,putD,Vz,VA,VB,Ka,VC,VD,Kb,and_true,↓XE,Xg,XP,XF,↓Qo,Qd,qgO,qM,ne_eq,not_false_eq_true,ne_6q6_p,ne_6q6_p.symm,ne_6q6_4q19,ne_6q6_4q19.symm,qO w0 eb_p,qO w0 eb_4q19,ne_4q19_p,ne_4q19_p.symm,qN,qJ,VE,setAt,VF,Kj,qC,VG,Kn,Jp,Nat.reduceAdd,qF,qG,qI,qf,qK,qa,qz,qd,qE,qc,qA,qg,qH,qy,allLive,J4,tokV,posV,faultV,hlv,hlo];repeat (with_reducible refine And.intro ?_ ?_;· first|trivial|omega|(intro hg;simp only[Ky,JH,Jh,VH,VI,VJ,decide_eq_true_eq,decide_eq_false_iff_not,qR]at hg;omega))
  refine QR (v:=ov2) (by rfl) (by rfl) (hS6.at_ (i:=1) rfl) sz22 hov2.live (by rw[hov2.cells];rfl) (by simp only[hov2.cells,KX,JD];omega) (Jq _) (by rw[hov2.cells];simp[XR,hov2.scal]) ?_;simp only[hov2.cells,setAt,VF,Kj,Jp,Nat.reduceAdd];simp+decide only[qh,qi,qj,qo,ev,qZ,qY,putD,Vz,VA,VB,Ka,VC,VD,Kb,and_true,qM,ne_eq,not_false_eq_true,ne_6q6_p,ne_6q6_p.symm,ne_6q6_4q19,ne_6q6_4q19.symm,qO w0 eb_p,qO w0 eb_4q19,ne_4q19_p,ne_4q19_p.symm,qN,qJ,VE,setAt,VF,Kj,qC,VG,Kn,Jp,Nat.reduceAdd,qF,qG,qI,qf,qK,qa,qz,qd,qE,qc,qA,qg,qH,qy,allLive,J4,tokV,posV,faultV,hlv,hlo];repeat (with_reducible refine And.intro ?_ ?_;· first|trivial|omega|(intro hg;simp only[Ky,JH,Jh,VH,VI,VJ,decide_eq_true_eq,decide_eq_false_iff_not,qR]at hg;omega))
  apply hK;clear hK K;obtain⟨H7,hH7⟩:∃H7,H7=h6.set kp (parB3 v i ov2):=⟨_,rfl⟩
  refine BJ (h':=H7) (by rw[hH7];exact Vg _) ?_;have hS7:=hS6.put (i:=1) rfl (parB3 v i ov2);rw[<-hH7]at hS7;simp only[VF,Kj]at hS7;have eb_p:H7 kp=some _:=hS7.at_ (i:=1) rfl;have hs_H7:Sub B H7:=hS7.in_ (i:=0) rfl;have hwi:IntKind.i64.wrap ((i:Int)+1)=((i+1:Nat):Int):=by rw[wrap_i64 (by omega) (by omega)];omega
  refine awp_rseq [0,1,4,5,6,7,8] (by rfl) fun K hK=>?_;simp+decide only[qh,qi,qj,qo,ev,qZ,qY,putD,Vz,VA,VB,Ka,VC,VD,Kb,and_true,↓qW,qU,↓XE,Xg,XP,XF,↓Qo,Qd,Wl,↓Qu,QM,Qi ag3,↓Qj,Qa,Qm,cond_false,Qh,XM,qM,ne_eq,not_false_eq_true,qO w0 eb_p,qN,qJ,VE,setAt,VF,Kj,qC,VG,Kn,Jp,Nat.reduceAdd,qF,qG,qI,qf,qK,qa,qz,qd,qE,qc,qA,qg,qH,qy,allLive,J4,tokV,posV,faultV,hlv,hlo,hwi];try simp(disch:=omega)only[wrap_i64,wrap_u8]
  repeat (with_reducible refine And.intro ?_ ?_;· first|trivial|omega|(intro hg;simp only[Ky,JH,Jh,VH,VI,VJ,decide_eq_true_eq,decide_eq_false_iff_not,qR]at hg;omega))
  refine QR (by rfl) (by rfl) zqA sz3 (by rfl) (by rfl) zqD (Jq _) (by rfl) ?_;simp only[Bi,setAt,VE,VF,Kj,Jp,Nat.reduceAdd];simp+decide only[qh,qi,qj,qo,ev,qZ,qY,putD,Vz,VA,VB,Ka,VC,VD,Kb,and_true,qM,ne_eq,not_false_eq_true,qO w0 eb_p,qN,qJ,VE,setAt,VF,Kj,qC,VG,Kn,Jp,Nat.reduceAdd,qF,qG,qI,qf,qK,qa,qz,qd,qE,qc,qA,qg,qH,qy,allLive,J4,tokV,posV,faultV,hlv,hlo,hwi];repeat (with_reducible refine And.intro ?_ ?_;· first|trivial|omega|(intro hg;simp only[Ky,JH,Jh,VH,VI,VJ,decide_eq_true_eq,decide_eq_false_iff_not,qR]at hg;omega))
  apply hK;clear hK K;have hS8:=(hS7.put (i:=1) rfl (parB3 v (i+1) ov2)).emp.emp.emp.pick [0,1,2,5,4,6,7,8,3] (by decide) (by simp);refine JP [0,1,4,5,6,7,8] ?_;have:=hrest hd32 (H7.set kp (parB3 v (i+1) ov2)) B kp k4q19 k0q0 v ov2 (.slice (.own k4q17) 0 1 (.exact 1)) .nilSlice op2 (one k4q17 ⟨[.str [], .nilSlice],0⟩) emp emp emp O i ⟨?_,?_,?_,?_⟩ hF hO hvi
  ·rw[<-ht]at this
   exact this
  ·rw[hcur]
   exact hS8
  ·refine⟨hv,?_,hG2,by omega⟩
   rw[<-ht,VZ];exact hov2
  ·rw[hcur]
   exact⟨⟨[],[],[], .nilSlice,rfl,GrowV.new (xs:=[[AVal.str [], .nilSlice]]) rfl (.inl rfl) (fun x hx=>by rw[V4.1 hx];rfl) (by rfl) rfl, .nil,fun q hq=>by cases hq⟩,⟨[],rfl, .nil,fun b hb=>by cases hb⟩⟩
  ·rw[hcur]
   exact⟨by simp only[JF];omega,fun p hp=>by rw[V4.1 hp];exact Jq _,Jq _⟩
theorem qoI{w0:World}{d:Nat}{c:Cur}{pv bv:AVal}{pp tp bp E H:AHeap}(hc:CurS w0 d c pv bv pp tp bp E)(h1:Sub pp H)(h2:Sub tp H)(h3:Sub E H):PhV w0 H pv c.phrases:=by
 obtain⟨qs,w,ts,tv,p1,p2,p3,p4⟩:=hc.ph;refine⟨qs++[(⟨w,ts⟩,tv)],by rw[p1,VZ];rfl,by rw[VZ];exact p2.isL h1,fun q hq=>?_⟩;rcases JS.1 hq with z|z
 ·exact(p4 q z).mono h3
 ·rw[V4.1 z];exact p3.isL h2
theorem qoJ{w0:World}{d:Nat}{c:Cur}{pv bv:AVal}{pp tp bp E H:AHeap}(hc:CurS w0 d c pv bv pp tp bp E)(h1:Sub bp H)(h3:Sub E H):BdV w0 (StsV w0 d H) H bv c.bodies:=by
 obtain⟨bs,p1,p2,p3⟩:=hc.bd;exact⟨bs,p1,p2.isL h1,fun b hb=>⟨(p3 b hb).1.mono h3,(p3 b hb).2.mono h3⟩⟩
theorem qnu{w0:World}{d:Nat}{c:Cur}{pv bv:AVal}{pp tp bp E:AHeap}{j:Nat}(hc:CurS w0 d c pv bv pp tp bp E)(hf:Few c j)(hj:j<=1000000):qoU c.phrases:=by
 obtain⟨qs,w,ts,tv,p1,p2,p3,p4⟩:=hc.ph;exact⟨by rw[p1];simp,Vb hf.1 hj,fun p hp=>Vb (hf.2.1 p hp) hj⟩
theorem few_tok{l:List TokC}{c c':Cur}{ph:Str}{j j':Nat}(hf:Few c j)(hne:c.phrases≠[])(hb:c.bodies=[])(h:qas l c ph j= .ok c' j'):Few c' j'/\j<j':=by
 obtain⟨f1,f2,f3⟩:=hf;rw[qey hb]at h;have hp:=V5.2 hne;split at h
 ·cases h
  refine⟨⟨?_,fun p hp=>?_,by simp only;omega⟩,by omega⟩
  ·simp only[qnR,Jb,List.length_dropLast,JF];omega
  ·simp only[qnR]at hp
   rcases JS.1 hp with z|z
   ·have:=f2 p (List.dropLast_subset _ z);omega
   ·rw[V4.1 z]
    have:=f2 (c.phrases.getLastD ⟨[],[]⟩) (by
     rw[BN,List.getLast?_eq_some_getLast hne];exact List.getLast_mem hne)
    simp only[Jb,JF];omega
 ·rename_i hz
  split at h
  ·cases h
   refine⟨⟨?_,fun p hp=>?_,by simp only;omega⟩,by omega⟩
   ·simp only[Jb,JF];omega
   ·simp only at hp
    rcases JS.1 hp with z|z
    ·have:=f2 p z;omega
    ·rw[V4.1 z];exact Jq _
  ·cases h
   exact⟨⟨by omega,fun p hp=>by have:=f2 p hp;omega,by omega⟩,by omega⟩
theorem qrm{l:List TokC}{c:Cur}{ph:Str}{j:Nat}(hb:c.bodies=[]):∃c' j',qas l c ph j= .ok c' j':=by
 rw[qey hb];split
 ·exact⟨_,_,rfl⟩
 ·split<;>exact⟨_,_,rfl⟩
theorem tok_le{l:List TokC}{c c':Cur}{ph:Str}{j j':Nat}(hb:c.bodies=[])(hj:j<l.length)(h:qas l c ph j= .ok c' j'):j'<=l.length:=by
 rw[qey hb]at h;have:=qfj l j ph (BQ hj);split at h
 ·cases h;omega
 ·split at h<;>cases h<;>exact this
theorem Few.up{c:Cur}{j j':Nat}(h:Few c j)(hj:j<=j'):Few c j':=⟨Vb h.1 hj,fun p hp=>Vb (h.2.1 p hp) hj,Vb h.2.2 hj⟩
theorem qlS{c c':Cur}{j j':Nat}(h:Few c j)(hp:c'.phrases=c.phrases)(hb:c'.bodies.length=c.bodies.length+1)(hj:j<j'):Few c' j':=⟨by rw[hp];exact Vb h.1 (BQ hj),fun p hpm=>by rw[hp]at hpm;exact Vb (h.2.1 p hpm) (BQ hj),by rw[hb];have:=h.2.2;omega⟩
theorem impV_eq(m:Option Str):impV m= .tuple [.str (m.getD []), .bool m.isSome]:=by cases m<;>rfl
structure LoG where
 c:Cur
 j:Nat
 ov:AVal
 pv:AVal
 bv:AVal
 op:AHeap
 pp:AHeap
 tp:AHeap
 bp:AHeap
 E:AHeap
 H:AHeap
theorem isE_in{l:List TokC}{j:Nat}(h:j<l.length):isE l j=decide ((l.getD j noT).kind=6):=by unfold isE;rw[if_pos h]
theorem qoA{l:List TokC}{j:Nat}(h:¬j<l.length):isE l j=true:=by unfold isE;rw[if_neg h]
set_option maxHeartbeats 16000000 in
theorem k_stmB(w0:World)(hm:MaxL w0)(ha:Asp w0)(l:List TokC)(hl:l.length<=65537)(hsh:Short l)(dd:Nat)(hdd:dd<=32)(hd0:0<dd)(hbk:BodK w0 l dd)(B:AHeap)(kp ks k4:Nat)(b4:Blk)(v:AVal)(O O0:List Str)(ph bd:Str)(i:Nat)(Q:AVal->AHeap->Prop)(QP:FaultC->Prop)
 (hF:Fair O) (hO:O.length=dd) (hbd:O.getLastD []=bd) (hph1:ph.length<=1000000) (hph2:asciiB ph=true) (hbad0:∀f,LoopRO l dd O ph (qbM l i) (i+1) (.bad f)->QP f)
 (ov pv bv:AVal) (op pp tp bp E H:AHeap) (hI:StI w0 l B kp ks k4 b4 v ov pv bv op pp tp bp E O (32-dd) (qbM l i) (i+1) H)
 (hrest:∀(H:AHeap) (ov pv bv:AVal) (op pp tp bp E:AHeap) (c:Cur) (cl:Bool) (j:Nat),StI w0 l B kp ks k4 b4 v ov pv bv op pp tp bp E O (32-dd) c j H->i<j->LoopRO l dd O ph (qbM l i) (i+1) (.ok (c,cl) j)->
   Awp Tryd.prog w0 ⟨201,[],GP w0 201 [] [] (qiY B QP)⟩ (WW 9 (qhD (WW 1 (qcM Tryd.f38)))) (qdB (qcW Tryd.prog w0 [.cell 4 48] (Q))) [(0, .ptr (.own kp) 0),(4, .ptr (.own k4) 0),(5, .int .i64 i),(6, .ptr (.own ks) 0),(9, .bool cl)] (H)):
 Awp Tryd.prog w0 ⟨201,[],GP w0 201 [] [] (qiY B QP)⟩ (WW 6 (qhD (WW 1 (qcM Tryd.f38)))) (qdB (qcW Tryd.prog w0 [.cell 4 48] (Q))) [(0, .ptr (.own kp) 0),(1, .int .i64 dd),(4, .ptr (.own k4) 0),(5, .int .i64 i),(6, .ptr (.own ks) 0),(7, .str ph),(8, .str bd)] (H):=by
 change Awp _ _ _ (Code.seq _ _) _ _ _;refine awp_rseq [0,1,4,5,6,7,8,9] (by rfl) fun K hK=>?_;simp+decide only[qh,qi,qj,qo,ev,qZ,qY,putD,Vz,VA,VB,Ka,VC,VD,Kb,and_true,↓qV,qP,qM,ne_eq,not_false_eq_true,qN,qJ,VE,setAt,VF,Kj,qC,VG,Kn,Jp,Nat.reduceAdd,qF,qG,qI,qf,qK,qa,qz,qd,qE,qc,qA,qg,qH,qy,allLive,J4,tokV,posV,faultV];repeat (with_reducible refine And.intro ?_ ?_;· first|trivial|omega|(intro hg;simp only[Ky,JH,Jh,VH,VI,VJ,decide_eq_true_eq,decide_eq_false_iff_not,qR]at hg;omega))
 apply hK;clear hK K;refine Qp ?_;refine qpY ?_;change Awp _ _ _ _ _ _ _;refine Qp ?_;refine QL ?_;refine XI [0,1,4,5,6,7,8,9] (fun g:LoG=>[(0, .ptr (.own kp) 0),(1, .int .i64 dd),(4, .ptr (.own k4) 0),(5, .int .i64 i),(6, .ptr (.own ks) 0),(7, .str ph),(8, .str bd),(9, .bool false)]) (fun g:LoG=>g.H) (fun g:LoG=>StI w0 l B kp ks k4 b4 v g.ov g.pv g.bv g.op g.pp g.tp g.bp g.E O (32-dd) g.c g.j g.H/\i<g.j/\∀r,LoopRO l dd O ph g.c g.j r->LoopRO l dd O ph (qbM l i) (i+1) r) (fun g:LoG=>l.length-g.j) ⟨qbM l i,i+1,ov,pv,bv,op,pp,tp,bp,E,H⟩ (by rfl) (Vg _) ⟨hI,Nat.lt_succ_self _,fun r hr=>hr⟩ ?_;rintro⟨c,j,ov,pv,bv,op,pp,tp,bp,E,H⟩ ⟨⟨hS,hP,hC,hfew⟩,hij,hgo⟩;simp only at hS hP hC hfew hij hgo|-
 have eb_p:H kp=some _:=hS.at_ (i:=1) rfl;have eb_s:H ks=some _:=hS.at_ (i:=3) rfl;have ne_p_s:kp≠ks:=hS.ne (i:=1) (j:=3) rfl rfl (by decide);have hs_H:Sub B H:=hS.in_ (i:=0) rfl;have hv:=hP.toks;have hlv:=hv.live;have nv:=Yl hv;have hjl:=hP.at_;have hlo:=hP.open_.live;obtain⟨hpl,hps,hpc⟩:=hC.pv_ok;obtain⟨hbl,hbs,hbc,nb⟩:=hC.bv_len;refine Qp ?_;have mcase:(∃(lc:AM.Loc) (o:Nat) (cc:Cap),v= .slice lc o l.length cc/\j<l.length/\decide ((j:Int)<(l.length:Int))=true/\rd w0 H lc (o+j*5)= .int .u8 (l.getD j noT).kind.toNat/\decide (((l.getD j noT).kind.toNat:Int)=6)=decide ((l.getD j noT).kind=6)/\(!isE l j)= !decide ((l.getD j noT).kind=6))\/
  (∃(lc:AM.Loc) (o:Nat) (cc:Cap),v=v/\¬j<l.length/\decide ((j:Int)<(l.length:Int))=false/\True/\True/\(!isE l j)=false):=by
  by_cases hlt:j<l.length
  ·obtain⟨lc,o,cc,hve⟩:=YA hv (by omega)
   have hv2:=hv.mono hs_H;rw[hve]at hv2;exact .inl ⟨lc,o,cc,hve,hlt,by simpa using hlt,(Uy hv2 hlt).1,Wj _ 6,by rw[isE_in hlt]⟩
  ·exact .inr ⟨.base 0,0, .exact 0,rfl,hlt,by simpa using hlt,trivial,trivial,by rw[qoA hlt];rfl⟩
 refine qaO [0,1,4,5,6,7,8,9,92] mixed (by kernel_rfl) (by rfl) (by rfl) fun K hK=>?_;suffices hM:∀b:Bool,b= !isE l j->K [(0, .ptr (.own kp) 0),(1, .int .i64 dd),(4, .ptr (.own k4) 0),(5, .int .i64 i),(6, .ptr (.own ks) 0),(7, .str ph),(8, .str bd),(9, .bool false),(92, .bool b)] (H) by
  rcases mcase with⟨lc,o,cc,hve,hkl,hkd,e0,hk6,hfin⟩|⟨lc,o,cc,hve,hkl,hkd,e0,hk6,hfin⟩<;>(
   simp+decide only[qh,qi,qj,qo,ev,qZ,qY,putD,Vz,VA,VB,Ka,VC,VD,Kb,and_true,↓qW,qU,↓XE,Xg,XP,XF,↓Qo,Qd,Wl,↓Qu,QM,Qi ag3,qco,Qi qbR,↓XG,Xh,QE Tryd.underlying31,QT Tryd.underlying31,↓Qj,Qa,Qz,cond_false,Qh,Zo,↓Zj,agP,Xw,gv,QB,QD,QC,Qs,Qg,Qe,Zk,implies_true,VK,decide_true,decide_false,VL,VM,Qc,Qb,forall_const,false_implies,Qk,Qf,J4,VN,VO,VP,VQ,VS,VT,VU,Xb,Xc,Xa,↓qes,qgS,qgT,↓XW,XN,XO,↓ZG,Zt,Wn,ZP,ZO,ZN,ZM,ZL,ZK,ZI,ZJ,↓Ye,Uv,Uu,Ut,Us,Ur,Uo,Uj,Ui,Un,Um,Ul,Uk,Ql Tryd.underlying31 Yv,YL,YK,YN,YM,Ud,Qi qha,↓XT,Qm,Zb,Za,Zd,Zc,qai,↓XH,Xj,QO,QH,QG,QA,Xo,Xn,Xm,Xl,QZ,Xk,qM,ne_eq,not_false_eq_true,qO w0 eb_p,qO w0 eb_s,qN,qJ,VE,setAt,VF,Kj,qC,VG,Kn,Jp,Nat.reduceAdd,qF,qG,qI,qf,qK,qa,qz,qd,qE,qc,qA,qg,qH,qy,allLive,J4,tokV,posV,faultV,hlv,nv,hve,hkd,e0,hk6,VX,K6,qaL,Qb,Qc,VP,VO];repeat (with_reducible refine And.intro ?_ ?_;· first|trivial|omega|(intro hg;simp only[Ky,JH,Jh,VH,VI,VJ,decide_eq_true_eq,decide_eq_false_iff_not,qR]at hg;omega))
   exact hM _ hfin.symm)
 intro b hb_9;apply hK;clear hK K;refine Qw (b:=_) rfl (fun hb1=>?_) (fun hb1=>?_)
 ·try simp only[decide_eq_true_eq,decide_eq_false_iff_not,Jh,VJ,Ky,VH,JH,VI,VV,VW,reduceCtorEq]at hb1
  have hE0:isE l j=false:=by
   have z:(!isE l j)=true:=by rw[<-hb_9];exact hb1
   simpa using z
  have hjlt:j<l.length:=by
   by_cases z:j<l.length
   ·exact z
   ·rw[qoA z]at hE0;cases hE0
  obtain⟨lc,o,cc,hve⟩:=YA hv (by omega);have hv2:=hv.mono hs_H;rw[hve]at hv2;obtain⟨e0,e1,e2,e3,e4⟩:=Uy hv2 hjlt;obtain⟨t,ht⟩:∃t,t=l.getD j noT:=⟨_,rfl⟩
  rw[<-ht]at e0 e1 e2 e3 e4;have htx:t.text.length<=1000000:=by rw[ht];exact hsh.at hjlt
  have hEV:qae l j=qdG t:=by unfold qae;rw[ht]
  have hVV:isV l j=Uh t:=by unfold isV;rw[if_pos hjlt,ht]
  refine QJ ?_;change Awp _ _ _ _ _ _ _;refine QL ?_;refine qbg 11 [] [0,1,4,5,6,7,8,9,10] mixed (by kernel_rfl) (by rfl) fun K hK=>?_;simp only[Ki,Bj,Ba,Vk,BH,BI];simp+decide only[qh,qi,qj,qo,ev,qZ,qY,putD,Vz,VA,VB,Ka,VC,VD,Kb,and_true,↓qbl,qU,↓qan,Xg,XP,XF,↓WA,Qd,qco,↓qbm,Yg,Qi qbR,Wl,Qi ag3,↓WV,Ql Tryd.underlying31 Yv,ZH,Xy qhB Yv,qM,ne_eq,not_false_eq_true,qO w0 eb_p,qO w0 eb_s,qN,qJ,VE,setAt,VF,Kj,qC,VG,Kn,Jp,Nat.reduceAdd,qF,qG,qI,qf,qK,qa,qz,qd,qE,qc,qA,qg,qH,qy,allLive,J4,tokV,posV,faultV,hlv,hve,e0,e1,e2,e3,e4,VX,K6];repeat (with_reducible refine And.intro ?_ ?_;· first|trivial|omega|(intro hg;simp only[Ky,JH,Jh,VH,VI,VJ,decide_eq_true_eq,decide_eq_false_iff_not,qR]at hg;omega))
  refine qaM (by rfl) ?_;refine XL qdT (cs:=[.int .u8 0, .str [], .int .i64 0, .int .i64 0, .bool false]) (by rfl) fun k10q10 hk10q10=>?_;have hn_10q10:H k10q10=none:=by first|assumption|(simp only[V7]at hk10q10;simp only[hk10q10])
  have hf_10q10:B k10q10=none:=Bh hs_H hn_10q10;have ne_10q10_p:k10q10≠kp:=BG hn_10q10 eb_p;have ne_10q10_s:k10q10≠ks:=BG hn_10q10 eb_s;rw[qh];repeat (with_reducible refine And.intro ?_ ?_;· first|trivial|omega|(intro hg;simp only[Ky,JH,Jh,VH,VI,VJ,decide_eq_true_eq,decide_eq_false_iff_not,qR]at hg;omega))
  try simp only[qi,qj]
  refine QR (by rfl) (by rfl) zqA Yv (by rfl) (by rfl) zqD (Jq _) (by rfl) ?_;simp only[Bi,setAt,VE,VF,Kj,Jp,Nat.reduceAdd];simp+decide only[qh,qi,qj,qo,ev,qZ,qY,putD,Vz,VA,VB,Ka,VC,VD,Kb,and_true,qM,ne_eq,not_false_eq_true,ne_10q10_p,ne_10q10_p.symm,ne_10q10_s,ne_10q10_s.symm,qO w0 eb_p,qO w0 eb_s,qN,qJ,VE,setAt,VF,Kj,qC,VG,Kn,Jp,Nat.reduceAdd,qF,qG,qI,qf,qK,qa,qz,qd,qE,qc,qA,qg,qH,qy,allLive,J4,tokV,posV,faultV,hlv,hve,e0,e1,e2,e3,e4,VX,K6];repeat (with_reducible refine And.intro ?_ ?_;· first|trivial|omega|(intro hg;simp only[Ky,JH,Jh,VH,VI,VJ,decide_eq_true_eq,decide_eq_false_iff_not,qR]at hg;omega))
  apply hK;clear hK K;refine Qp ?_;obtain⟨H11,hH11⟩:∃H11,H11=H.set k10q10 ⟨[.int .u8 t.kind.toNat, .str t.text, .int .i64 t.line, .int .i64 t.col, .bool t.left],0⟩:=⟨_,rfl⟩
  refine BJ (h':=H11) (by rw[hH11];exact Vg _) ?_;have hS1:=hS.lay hn_10q10 ⟨[.int .u8 t.kind.toNat, .str t.text, .int .i64 t.line, .int .i64 t.col, .bool t.left],0⟩;rw[<-hH11]at hS1;simp only[Kh,Jd]at hS1;have eb_p:H11 kp=some _:=hS1.at_ (i:=1) rfl;have eb_s:H11 ks=some _:=hS1.at_ (i:=3) rfl;have eb_10q10:H11 k10q10=some _:=hS1.at_ (i:=9) rfl;have hs_H11:Sub B H11:=hS1.in_ (i:=0) rfl;obtain⟨hbd1,hbd2⟩:=qgN hF;rw[hbd]at hbd1 hbd2;obtain⟨S,hSS⟩:∃S,S=Xr l j bd:=⟨_,rfl⟩
  have hSle:=qfj l j bd hjl;rw[<-hSS]at hSle;have hSO:Xr l j (O.getLastD [])=S:=by rw[hbd,hSS]
  have hwj:IntKind.i64.wrap ((j:Int)+1)=((j+1:Nat):Int):=by rw[wrap_i64 (by omega) (by omega)];omega
  refine awp_rseq [0,1,4,5,6,7,8,9,10,11] (by rfl) fun K hK=>?_;simp+decide only[qh,qi,qj,qo,ev,qZ,qY,putD,Vz,VA,VB,Ka,VC,VD,Kb,and_true,↓Qu,QM,Xy qhB Yv,qM,ne_eq,not_false_eq_true,qO w0 eb_p,qO w0 eb_s,qO w0 eb_10q10,ne_10q10_p,ne_10q10_p.symm,ne_10q10_s,ne_10q10_s.symm,qN,qJ,VE,setAt,VF,Kj,qC,VG,Kn,Jp,Nat.reduceAdd,qF,qG,qI,qf,qK,qa,qz,qd,qE,qc,qA,qg,qH,qy,allLive,J4,tokV,posV,faultV];repeat (with_reducible refine And.intro ?_ ?_;· first|trivial|omega|(intro hg;simp only[Ky,JH,Jh,VH,VI,VJ,decide_eq_true_eq,decide_eq_false_iff_not,qR]at hg;omega))
  refine XD (V:= .str (qdG t)) (by rfl) (by rfl) (qoP w0 hm _ t htx) ?_;simp+decide only[qh,qi,qj,qo,ev,qZ,qY,putD,Vz,VA,VB,Ka,VC,VD,Kb,and_true,↓qV,qP,qM,ne_eq,not_false_eq_true,qO w0 eb_p,qO w0 eb_s,qO w0 eb_10q10,ne_10q10_p,ne_10q10_p.symm,ne_10q10_s,ne_10q10_s.symm,qN,qJ,VE,setAt,VF,Kj,qC,VG,Kn,Jp,Nat.reduceAdd,qF,qG,qI,qf,qK,qa,qz,qd,qE,qc,qA,qg,qH,qy,allLive,J4,tokV,posV,faultV];repeat (with_reducible refine And.intro ?_ ?_;· first|trivial|omega|(intro hg;simp only[Ky,JH,Jh,VH,VI,VJ,decide_eq_true_eq,decide_eq_false_iff_not,qR]at hg;omega))
  apply hK;clear hK K;refine awp_rseq [0,1,4,5,6,7,8,9,10,11,106] (by rfl) fun K hK=>?_;simp+decide only[qh,qi,qj,qo,ev,qZ,qY,putD,Vz,VA,VB,Ka,VC,VD,Kb,and_true,↓qW,qU,↓Qj,Qa,XK,cond_false,XC,qaB,qM,ne_eq,not_false_eq_true,qO w0 eb_p,qO w0 eb_s,qO w0 eb_10q10,ne_10q10_p,ne_10q10_p.symm,ne_10q10_s,ne_10q10_s.symm,qN,qJ,VE,setAt,VF,Kj,qC,VG,Kn,Jp,Nat.reduceAdd,qF,qG,qI,qf,qK,qa,qz,qd,qE,qc,qA,qg,qH,qy,allLive,J4,tokV,posV,faultV];repeat (with_reducible refine And.intro ?_ ?_;· first|trivial|omega|(intro hg;simp only[Ky,JH,Jh,VH,VI,VJ,decide_eq_true_eq,decide_eq_false_iff_not,qR]at hg;omega))
  apply hK;clear hK K;refine Qw (b:=_) rfl (fun hb2=>?_) (fun hb2=>?_)
  ·try simp only[decide_eq_true_eq,decide_eq_false_iff_not,Jh,VJ,Ky,VH,JH,VI,VV,VW,reduceCtorEq]at hb2
   refine Qp ?_;refine awp_rseq [0,4,5,6,9,110] (by rfl) fun K hK=>?_;simp+decide only[qh,qi,qj,qo,ev,qZ,qY,putD,Vz,VA,VB,Ka,VC,VD,Kb,and_true,↓qW,qU,↓Qo,Qd,qcp,↓Qu,QM,Qi ag9,↓Qj,Qa,Qz,cond_false,XC,Wv,qM,ne_eq,not_false_eq_true,qO w0 eb_p,qO w0 eb_s,qO w0 eb_10q10,ne_10q10_p,ne_10q10_p.symm,ne_10q10_s,ne_10q10_s.symm,qN,qJ,VE,setAt,VF,Kj,qC,VG,Kn,Jp,Nat.reduceAdd,qF,qG,qI,qf,qK,qa,qz,qd,qE,qc,qA,qg,qH,qy,allLive,J4,tokV,posV,faultV];repeat (with_reducible refine And.intro ?_ ?_;· first|trivial|omega|(intro hg;simp only[Ky,JH,Jh,VH,VI,VJ,decide_eq_true_eq,decide_eq_false_iff_not,qR]at hg;omega))
   apply hK;clear hK K;refine Qw (b:=_) rfl (fun hb3=>?_) (fun hb3=>?_)
   ·try simp only[decide_eq_true_eq,decide_eq_false_iff_not,Jh,VJ,Ky,VH,JH,VI,VV,VW,reduceCtorEq]at hb3
    have hZ1:StI w0 l B kp ks k4 b4 v ov pv bv op pp tp bp E O (32-dd) c (j+1) (H11.set kp (parB3 v (j+1) ov)):=⟨(hS1.put (i:=1) rfl (parB3 v (j+1) ov)).pick [0,1,2,3,4,5,6,7,8] (by decide) (by simp),⟨hv,hP.open_,hP.isG,by omega⟩,hC,hfew.up (Nat.le_succ _)⟩
    have hZ2:=hgo _ (LoopR.endS hE0 (hEV.trans hb3) (by rw[hEV];exact hb2));have hZ3:i<j+1:=by omega
    refine awp_rseq [0,4,5,6,9] (by rfl) fun K hK=>?_;simp+decide only[qh,qi,qj,qo,ev,qZ,qY,putD,Vz,VA,VB,Ka,VC,VD,Kb,and_true,↓qV,qP,qM,ne_eq,not_false_eq_true,qO w0 eb_p,qO w0 eb_s,qO w0 eb_10q10,ne_10q10_p,ne_10q10_p.symm,ne_10q10_s,ne_10q10_s.symm,qN,qJ,VE,setAt,VF,Kj,qC,VG,Kn,Jp,Nat.reduceAdd,qF,qG,qI,qf,qK,qa,qz,qd,qE,qc,qA,qg,qH,qy,allLive,J4,tokV,posV,faultV];repeat (with_reducible refine And.intro ?_ ?_;· first|trivial|omega|(intro hg;simp only[Ky,JH,Jh,VH,VI,VJ,decide_eq_true_eq,decide_eq_false_iff_not,qR]at hg;omega))
    apply hK;clear hK K;refine XZ [0,4,5,6,9] (by rfl) ?_;simp+decide only[qh,qi,qj,qo,ev,qZ,qY,putD,Vz,VA,VB,Ka,VC,VD,Kb,and_true,↓qW,qU,↓XE,Xg,XP,XF,↓Qo,Qd,Wl,↓Qu,QM,Qi ag3,↓Qj,Qa,Qm,cond_false,Qh,XM,qM,ne_eq,not_false_eq_true,qO w0 eb_p,qO w0 eb_s,qO w0 eb_10q10,ne_10q10_p,ne_10q10_p.symm,ne_10q10_s,ne_10q10_s.symm,qN,qJ,VE,setAt,VF,Kj,qC,VG,Kn,Jp,Nat.reduceAdd,qF,qG,qI,qf,qK,qa,qz,qd,qE,qc,qA,qg,qH,qy,allLive,J4,tokV,posV,faultV,hwj];try simp(disch:=omega)only[wrap_i64,wrap_u8]
    repeat (with_reducible refine And.intro ?_ ?_;· first|trivial|omega|(intro hg;simp only[Ky,JH,Jh,VH,VI,VJ,decide_eq_true_eq,decide_eq_false_iff_not,qR]at hg;omega))
    refine QR (by rfl) (by rfl) zqA sz3 (by rfl) (by rfl) zqD (Jq _) (by rfl) ?_;simp only[Bi,setAt,VE,VF,Kj,Jp,Nat.reduceAdd];simp+decide only[qh,qi,qj,qo,ev,qZ,qY,putD,Vz,VA,VB,Ka,VC,VD,Kb,and_true,qM,ne_eq,not_false_eq_true,qO w0 eb_p,qO w0 eb_s,qO w0 eb_10q10,ne_10q10_p,ne_10q10_p.symm,ne_10q10_s,ne_10q10_s.symm,qN,qJ,VE,setAt,VF,Kj,qC,VG,Kn,Jp,Nat.reduceAdd,qF,qG,qI,qf,qK,qa,qz,qd,qE,qc,qA,qg,qH,qy,allLive,J4,tokV,posV,faultV,hwj];repeat (with_reducible refine And.intro ?_ ?_;· first|trivial|omega|(intro hg;simp only[Ky,JH,Jh,VH,VI,VJ,decide_eq_true_eq,decide_eq_false_iff_not,qR]at hg;omega))
    change Awp _ _ _ _ _ _ _;refine XJ ?_;change Awp _ _ _ _ _ _ _;refine JP [0,4,5,6,9] ?_;exact hrest _ _ _ _ _ _ _ _ _ _ _ _ hZ1 hZ3 hZ2
   ·try simp only[decide_eq_true_eq,decide_eq_false_iff_not,Jh,VJ,Ky,VH,JH,VI,VV,VW,reduceCtorEq]at hb3
    have hZ1:StI w0 l B kp ks k4 b4 v ov pv bv op pp tp bp E O (32-dd) c j H11:=⟨hS1.pick [0,1,2,3,4,5,6,7,8] (by decide) (by simp),hP,hC,hfew⟩
    have hZ2:=hgo _ (LoopR.endO hE0 (fun z=>hb3 (hEV.symm.trans z)) (by rw[hEV];exact hb2));have hZ3:=hij;refine QJ ?_;change Awp _ _ _ _ _ _ _;refine XJ ?_;change Awp _ _ _ _ _ _ _;refine JP [0,4,5,6,9] ?_;exact hrest _ _ _ _ _ _ _ _ _ _ _ _ hZ1 hZ3 hZ2
  ·try simp only[decide_eq_true_eq,decide_eq_false_iff_not,Jh,VJ,Ky,VH,JH,VI,VV,VW,reduceCtorEq]at hb2
   have hEn:qae l j=[]:=by rw[hEV];exact hb2
   refine QJ ?_;change Awp _ _ _ _ _ _ _;refine Qp ?_;refine awp_rseq [0,1,4,5,6,7,8,9,10,12,13] (by rfl) fun K hK=>?_;simp+decide only[qh,qi,qj,qo,ev,qZ,qY,putD,Vz,VA,VB,Ka,VC,VD,Kb,and_true,↓qW,qU,qM,ne_eq,not_false_eq_true,qO w0 eb_p,qO w0 eb_s,qO w0 eb_10q10,ne_10q10_p,ne_10q10_p.symm,ne_10q10_s,ne_10q10_s.symm,qN,qJ,VE,setAt,VF,Kj,qC,VG,Kn,Jp,Nat.reduceAdd,qF,qG,qI,qf,qK,qa,qz,qd,qE,qc,qA,qg,qH,qy,allLive,J4,tokV,posV,faultV,hlv,hlo,hpl,hbl];repeat (with_reducible refine And.intro ?_ ?_;· first|trivial|omega|(intro hg;simp only[Ky,JH,Jh,VH,VI,VJ,decide_eq_true_eq,decide_eq_false_iff_not,qR]at hg;omega))
   refine XD (V:= .tuple [.str S.1, .int .i64 S.2]) (by rfl) (by rfl) (by rw[hSS];exact qem w0 ha _ (.own kp) 0 v l j bd (qO w0 eb_p 0) (qO w0 eb_p 1) (hv.mono zqB) (by omega) hjl hbd1 hbd2) ?_;simp+decide only[qh,qi,qj,qo,ev,qZ,qY,putD,Vz,VA,VB,Ka,VC,VD,Kb,and_true,↓qW,qU,↓Zl,XY,Zp,KX,JD,VG,Kn,↓qV,qP,qM,ne_eq,not_false_eq_true,qO w0 eb_p,qO w0 eb_s,qO w0 eb_10q10,ne_10q10_p,ne_10q10_p.symm,ne_10q10_s,ne_10q10_s.symm,qN,qJ,VE,setAt,VF,Kj,qC,VG,Kn,Jp,Nat.reduceAdd,qF,qG,qI,qf,qK,qa,qz,qd,qE,qc,qA,qg,qH,qy,allLive,J4,tokV,posV,faultV,hlv,hlo,hpl,hbl];repeat (with_reducible refine And.intro ?_ ?_;· first|trivial|omega|(intro hg;simp only[Ky,JH,Jh,VH,VI,VJ,decide_eq_true_eq,decide_eq_false_iff_not,qR]at hg;omega))
   apply hK;clear hK K;refine awp_rseq [0,1,4,5,6,7,8,9,10,12,13,125] (by rfl) fun K hK=>?_;simp+decide only[qh,qi,qj,qo,ev,qZ,qY,putD,Vz,VA,VB,Ka,VC,VD,Kb,and_true,↓qW,qU,↓Qj,Qa,Qm,cond_false,Qh,UE,qM,ne_eq,not_false_eq_true,qO w0 eb_p,qO w0 eb_s,qO w0 eb_10q10,ne_10q10_p,ne_10q10_p.symm,ne_10q10_s,ne_10q10_s.symm,qN,qJ,VE,setAt,VF,Kj,qC,VG,Kn,Jp,Nat.reduceAdd,qF,qG,qI,qf,qK,qa,qz,qd,qE,qc,qA,qg,qH,qy,allLive,J4,tokV,posV,faultV];repeat (with_reducible refine And.intro ?_ ?_;· first|trivial|omega|(intro hg;simp only[Ky,JH,Jh,VH,VI,VJ,decide_eq_true_eq,decide_eq_false_iff_not,qR]at hg;omega))
   apply hK;clear hK K;refine Qw (b:=_) rfl (fun hb4=>?_) (fun hb4=>?_)
   ·try simp only[decide_eq_true_eq,decide_eq_false_iff_not,Jh,VJ,Ky,VH,JH,VI,VV,VW,reduceCtorEq]at hb4
    have hdj:[B,one k4 b4].Pairwise disj:=(hS1.pick [0,8] (by decide) (by simp)).2;have hcall:=hbk H11 (qaY [B,one k4 b4]) kp ks v ov bv pv op pp tp bp E O c (S.1) S.2 j (BK (ps:=[B,one k4 b4]) (hS1.pick [0,8,1,2,3,4,5,6,7] (by decide) (by simp))) ⟨hv.mono (Yb hdj B (by simp)),hP.open_,hP.isG,hjl⟩ hC hF hO (by omega) (.inl (by omega)) hfew;by_cases hbad:∃f,BodyRO l dd O c (S.1) S.2 j (.bad f)
    ·skip
     refine Qp ?_;refine YO 4 (by rfl) (by rfl) ?_;simp only[Ki,Bj];simp+decide only[qh,qi,qj,qo,ev,qZ,qY,putD,Vz,VA,VB,Ka,VC,VD,Kb,and_true,↓qW,qU,qM,ne_eq,not_false_eq_true,qO w0 eb_p,qO w0 eb_s,qO w0 eb_10q10,ne_10q10_p,ne_10q10_p.symm,ne_10q10_s,ne_10q10_s.symm,qN,qJ,VE,setAt,VF,Kj,qC,VG,Kn,Jp,Nat.reduceAdd,qF,qG,qI,qf,qK,qa,qz,qd,qE,qc,qA,qg,qH,qy,allLive,J4,tokV,posV,faultV];repeat (with_reducible refine And.intro ?_ ?_;· first|trivial|omega|(intro hg;simp only[Ky,JH,Jh,VH,VI,VJ,decide_eq_true_eq,decide_eq_false_iff_not,qR]at hg;omega))
     refine⟨⟨_,_,by rfl,?_⟩,by intro i;first|trivial|exact .inr trivial|exact .inr rfl⟩;obtain⟨f,hf⟩:=hbad;refine(hcall.bad fun x h' ⟨_,c',j',_,_,_,_,_,y,_⟩=>by cases y.one hf).mono (fun _ _ q=>q) fun x h' ⟨f',q1,q2,q3⟩=>⟨f',hbad0 _ (hgo _ (LoopR.bodyBad hE0 hEn (by rw[hSO];omega) (by rw[hSO];exact q1))),q2,(Yb hdj B (by simp)).trans q3⟩
    refine awp_rseq [0,1,4,5,6,7,8,9] (by rfl) fun K hK=>?_;simp+decide only[qh,qi,qj,qo,ev,qZ,qY,putD,Vz,VA,VB,Ka,VC,VD,Kb,and_true,↓qW,qU,qM,ne_eq,not_false_eq_true,qO w0 eb_p,qO w0 eb_s,qO w0 eb_10q10,ne_10q10_p,ne_10q10_p.symm,ne_10q10_s,ne_10q10_s.symm,qN,qJ,VE,setAt,VF,Kj,qC,VG,Kn,Jp,Nat.reduceAdd,qF,qG,qI,qf,qK,qa,qz,qd,qE,qc,qA,qg,qH,qy,allLive,J4,tokV,posV,faultV];repeat (with_reducible refine And.intro ?_ ?_;· first|trivial|omega|(intro hg;simp only[Ky,JH,Jh,VH,VI,VJ,decide_eq_true_eq,decide_eq_false_iff_not,qR]at hg;omega))
    refine QN (by rfl) (by rfl) (hcall.ok fun x h' ⟨f,q,_⟩=>hbad ⟨f,q⟩) fun x18q4 h18q4 hx18q4=>?_;obtain⟨rfl,c',j',ov',op',bv',bp',E',hR,hjj,hp1,hp2,hp3,hp4,hbn,hC',hP',hS'⟩:=hx18q4;have hS':=(hS'.unfold hdj).pick [0,2,3,4,5,6,7,8,1] (by decide) (by simp);have hLoop:∃(c2:Cur) (j2:Nat) (ov2 pv2 bv2:AVal) (op2 pp2 tp2 bp2 E2:AHeap),StI w0 l B kp ks k4 b4 v ov2 pv2 bv2 op2 pp2 tp2 bp2 E2 O (32-dd) c2 j2 h18q4/\j<j2/\∀r,LoopRO l dd O ph c2 j2 r->LoopRO l dd O ph (qbM l i) (i+1) r:=⟨c',j',ov',pv,bv',op',pp,tp,bp',E',⟨hS',⟨hv,hP'.open_,hP'.isG,hP'.at_⟩,hC',qlS hfew hp1 hbn hjj⟩,hjj,fun r hr=>hgo r (LoopR.body hE0 hEn (by rw[hSO];omega) (by rw[hSO];exact hR) hr)⟩
    simp+decide only[qh,qi,qj,qo,ev,qZ,qY,putD,Vz,VA,VB,Ka,VC,VD,Kb,and_true,qM,ne_eq,not_false_eq_true,qO w0 eb_p,qO w0 eb_s,qO w0 eb_10q10,ne_10q10_p,ne_10q10_p.symm,ne_10q10_s,ne_10q10_s.symm,qN,qJ,VE,setAt,VF,Kj,qC,VG,Kn,Jp,Nat.reduceAdd,qF,qG,qI,qf,qK,qa,qz,qd,qE,qc,qA,qg,qH,qy,allLive,J4,tokV,posV,faultV];repeat (with_reducible refine And.intro ?_ ?_;· first|trivial|omega|(intro hg;simp only[Ky,JH,Jh,VH,VI,VJ,decide_eq_true_eq,decide_eq_false_iff_not,qR]at hg;omega))
    apply hK;clear hK K;refine XJ ?_;try simp only[QK,Qt,qaG]
    obtain⟨c2,j2,ov2,pv2,bv2,op2,pp2,tp2,bp2,E2,g1,g2,g3⟩:=hLoop;exact⟨⟨c2,j2,ov2,pv2,bv2,op2,pp2,tp2,bp2,E2,_⟩,rfl,Vg _,⟨g1,by simp only;omega,g3⟩,by have:=g1.par.at_;simp only;omega⟩
   ·try simp only[decide_eq_true_eq,decide_eq_false_iff_not,Jh,VJ,Ky,VH,JH,VI,VV,VW,reduceCtorEq]at hb4
    have hS0:(Xr l j (O.getLastD [])).2=0:=by rw[hSO];omega
    refine QJ ?_;change Awp _ _ _ _ _ _ _;refine Qp ?_;refine awp_rseq [0,1,4,5,6,7,8,9,10,14,15] (by rfl) fun K hK=>?_;simp+decide only[qh,qi,qj,qo,ev,qZ,qY,putD,Vz,VA,VB,Ka,VC,VD,Kb,and_true,↓Qu,QM,Xy qgm WJ,qM,ne_eq,not_false_eq_true,qO w0 eb_p,qO w0 eb_s,qO w0 eb_10q10,ne_10q10_p,ne_10q10_p.symm,ne_10q10_s,ne_10q10_s.symm,qN,qJ,VE,setAt,VF,Kj,qC,VG,Kn,Jp,Nat.reduceAdd,qF,qG,qI,qf,qK,qa,qz,qd,qE,qc,qA,qg,qH,qy,allLive,J4,tokV,posV,faultV,hpl,hbl,VO];repeat (with_reducible refine And.intro ?_ ?_;· first|trivial|omega|(intro hg;simp only[Ky,JH,Jh,VH,VI,VJ,decide_eq_true_eq,decide_eq_false_iff_not,qR]at hg;omega))
    refine QN (by rfl) (by rfl) (qnH w0 ha _ c pv bv (32-dd) (qoI hC (hS1.in_ (i:=4) rfl) (hS1.in_ (i:=5) rfl) (hS1.in_ (i:=7) rfl)) (qoJ hC (hS1.in_ (i:=6) rfl) (hS1.in_ (i:=7) rfl)) (by have:=hfew.2.2;omega) (qnu hC hfew (by omega))) fun x19q1 h19q1 hx19q1=>?_;obtain⟨rfl,hs19⟩:=hx19q1;rw[impV_eq];obtain⟨m,hmm⟩:∃m,m=Yc QY c:=⟨_,rfl⟩
    rw[<-hmm];have hS19:=hS1.forget hs19;have hs_h19q1:Sub B h19q1:=Bq zqC hs19;have hr_h19q1:Sub H11 h19q1:=Bq zqC hs19;have eb_p:=hs19 kp _ zqA;have eb_s:=hs19 ks _ zqA;have eb_10q10:=hs19 k10q10 _ zqA;simp+decide only[qh,qi,qj,qo,ev,qZ,qY,putD,Vz,VA,VB,Ka,VC,VD,Kb,and_true,↓qW,qU,↓Zl,XY,Zp,KX,JD,VG,Kn,↓qV,qP,qM,ne_eq,not_false_eq_true,qO w0 eb_p,qO w0 eb_s,qO w0 eb_10q10,ne_10q10_p,ne_10q10_p.symm,ne_10q10_s,ne_10q10_s.symm,qN,qJ,VE,setAt,VF,Kj,qC,VG,Kn,Jp,Nat.reduceAdd,qF,qG,qI,qf,qK,qa,qz,qd,qE,qc,qA,qg,qH,qy,allLive,J4,tokV,posV,faultV,hpl,hbl,VO];repeat (with_reducible refine And.intro ?_ ?_;· first|trivial|omega|(intro hg;simp only[Ky,JH,Jh,VH,VI,VJ,decide_eq_true_eq,decide_eq_false_iff_not,qR]at hg;omega))
    apply hK;clear hK K;refine awp_rseq [0,1,4,5,6,7,8,9,10,14,140] (by rfl) fun K hK=>?_;simp+decide only[qh,qi,qj,qo,ev,qZ,qY,putD,Vz,VA,VB,Ka,VC,VD,Kb,and_true,↓qW,qU,↓ZG,QM,Zt,Wn,ZP,ZO,ZN,ZM,ZL,ZK,agP,Xw,gv,QB,QD,QC,Qs,Qg,Qe,Zk,implies_true,VK,decide_true,decide_false,VL,VM,Qc,Qb,forall_const,false_implies,Qk,Qf,J4,VN,VO,VP,VQ,VS,VT,VU,Xy qhB Yv,ZI,ZJ,Xb,Xc,Xa,qM,ne_eq,not_false_eq_true,qO w0 eb_p,qO w0 eb_s,qO w0 eb_10q10,ne_10q10_p,ne_10q10_p.symm,ne_10q10_s,ne_10q10_s.symm,qN,qJ,VE,setAt,VF,Kj,qC,VG,Kn,Jp,Nat.reduceAdd,qF,qG,qI,qf,qK,qa,qz,qd,qE,qc,qA,qg,qH,qy,allLive,J4,tokV,posV,faultV];repeat (with_reducible refine And.intro ?_ ?_;· first|trivial|omega|(intro hg;simp only[Ky,JH,Jh,VH,VI,VJ,decide_eq_true_eq,decide_eq_false_iff_not,qR]at hg;omega))
    first
    |(refine Zf (by rfl) ?_;refine XD (V:= .bool (Uh t)) (by rfl) (by rfl) (qen w0 hm _ t htx) ?_)
    |(refine WI (by rfl) (by rfl) ?_)
    |(refine Wo (V:= .bool (Uh t)) (f:=_) (cap:=_) (xs:=_) (by first|rfl|(simp+decide only[gv,QB,VA,Ka,QC,QD])) (fun hg=>⟨rfl,?_⟩) (fun hg=>qen w0 hm _ t htx) ?_;· (simp+decide only[gv,QB,putD,Vz,VA,Ka,Qg,Qe,Qs,VK]at hg;simp+decide only[evs,ev,putD,Vz,VA,Ka,hg,Qc,JE,Ke,Vh,qZ,qY]<;>try rfl))
    simp+decide only[qh,qi,qj,qo,ev,qZ,qY,putD,Vz,VA,VB,Ka,VC,VD,Kb,and_true,gv,QB,Qg,Qe,Qs,↓XH,Xj,QO,QH,QG,QA,Xo,Xn,Xm,Xl,QZ,Xk,qM,ne_eq,not_false_eq_true,qO w0 eb_p,qO w0 eb_s,qO w0 eb_10q10,ne_10q10_p,ne_10q10_p.symm,ne_10q10_s,ne_10q10_s.symm,qN,qJ,VE,setAt,VF,Kj,qC,VG,Kn,Jp,Nat.reduceAdd,qF,qG,qI,qf,qK,qa,qz,qd,qE,qc,qA,qg,qH,qy,allLive,J4,tokV,posV,faultV];repeat (with_reducible refine And.intro ?_ ?_;· first|trivial|omega|(intro hg;simp only[Ky,JH,Jh,VH,VI,VJ,decide_eq_true_eq,decide_eq_false_iff_not,qR]at hg;omega))
    apply hK;clear hK K;refine Qw (b:=_) rfl (fun hb5=>?_) (fun hb5=>?_)
    ·try simp only[decide_eq_true_eq,decide_eq_false_iff_not,Jh,VJ,Ky,VH,JH,VI,VV,VW,reduceCtorEq]at hb5
     have hVb:isV l j=true:=by rw[hVV];exact hb5.2
     obtain⟨w',hw'⟩:=Option.isSome_iff_exists.1 hb5.1;have hwg:m.getD []=w':=by rw[hw'];rfl
     have himp:Yc QY c=some (m.getD []):=by rw[hwg,<-hw',hmm]
     have hdj:[B,one k4 b4].Pairwise disj:=(hS19.pick [0,8] (by decide) (by simp)).2;have hcall:=hbk h19q1 (qaY [B,one k4 b4]) kp ks v ov bv pv op pp tp bp E O c (m.getD []) 0 j (BK (ps:=[B,one k4 b4]) (hS19.pick [0,8,1,2,3,4,5,6,7] (by decide) (by simp))) ⟨hv.mono (Yb hdj B (by simp)),hP.open_,hP.isG,hjl⟩ hC hF hO (by omega) (.inr hVb) hfew;by_cases hbad:∃f,BodyRO l dd O c (m.getD []) 0 j (.bad f)
     ·skip
      refine Qp ?_;refine YO 3 (by rfl) (by rfl) ?_;simp only[Ki,Bj];simp+decide only[qh,qi,qj,qo,ev,qZ,qY,putD,Vz,VA,VB,Ka,VC,VD,Kb,and_true,↓qW,qU,qM,ne_eq,not_false_eq_true,qO w0 eb_p,qO w0 eb_s,qO w0 eb_10q10,ne_10q10_p,ne_10q10_p.symm,ne_10q10_s,ne_10q10_s.symm,qN,qJ,VE,setAt,VF,Kj,qC,VG,Kn,Jp,Nat.reduceAdd,qF,qG,qI,qf,qK,qa,qz,qd,qE,qc,qA,qg,qH,qy,allLive,J4,tokV,posV,faultV];repeat (with_reducible refine And.intro ?_ ?_;· first|trivial|omega|(intro hg;simp only[Ky,JH,Jh,VH,VI,VJ,decide_eq_true_eq,decide_eq_false_iff_not,qR]at hg;omega))
      refine⟨⟨_,_,by rfl,?_⟩,by intro i;first|trivial|exact .inr trivial|exact .inr rfl⟩;obtain⟨f,hf⟩:=hbad;refine(hcall.bad fun x h' ⟨_,c',j',_,_,_,_,_,y,_⟩=>by cases y.one hf).mono (fun _ _ q=>q) fun x h' ⟨f',q1,q2,q3⟩=>⟨f',hbad0 _ (hgo _ (LoopR.implBad hE0 hEn hS0 hVb himp q1)),q2,(Yb hdj B (by simp)).trans q3⟩
     refine awp_rseq [0,1,4,5,6,7,8,9] (by rfl) fun K hK=>?_;simp+decide only[qh,qi,qj,qo,ev,qZ,qY,putD,Vz,VA,VB,Ka,VC,VD,Kb,and_true,↓qW,qU,qM,ne_eq,not_false_eq_true,qO w0 eb_p,qO w0 eb_s,qO w0 eb_10q10,ne_10q10_p,ne_10q10_p.symm,ne_10q10_s,ne_10q10_s.symm,qN,qJ,VE,setAt,VF,Kj,qC,VG,Kn,Jp,Nat.reduceAdd,qF,qG,qI,qf,qK,qa,qz,qd,qE,qc,qA,qg,qH,qy,allLive,J4,tokV,posV,faultV];repeat (with_reducible refine And.intro ?_ ?_;· first|trivial|omega|(intro hg;simp only[Ky,JH,Jh,VH,VI,VJ,decide_eq_true_eq,decide_eq_false_iff_not,qR]at hg;omega))
     refine QN (by rfl) (by rfl) (hcall.ok fun x h' ⟨f,q,_⟩=>hbad ⟨f,q⟩) fun x21q3 h21q3 hx21q3=>?_;obtain⟨rfl,c',j',ov',op',bv',bp',E',hR,hjj,hp1,hp2,hp3,hp4,hbn,hC',hP',hS'⟩:=hx21q3;have hS':=(hS'.unfold hdj).pick [0,2,3,4,5,6,7,8,1] (by decide) (by simp);have hLoop:∃(c2:Cur) (j2:Nat) (ov2 pv2 bv2:AVal) (op2 pp2 tp2 bp2 E2:AHeap),StI w0 l B kp ks k4 b4 v ov2 pv2 bv2 op2 pp2 tp2 bp2 E2 O (32-dd) c2 j2 h21q3/\j<j2/\∀r,LoopRO l dd O ph c2 j2 r->LoopRO l dd O ph (qbM l i) (i+1) r:=⟨c',j',ov',pv,bv',op',pp,tp,bp',E',⟨hS',⟨hv,hP'.open_,hP'.isG,hP'.at_⟩,hC',qlS hfew hp1 hbn hjj⟩,hjj,fun r hr=>hgo r (LoopR.impl hE0 hEn hS0 hVb himp hR hr)⟩
     simp+decide only[qh,qi,qj,qo,ev,qZ,qY,putD,Vz,VA,VB,Ka,VC,VD,Kb,and_true,qM,ne_eq,not_false_eq_true,qO w0 eb_p,qO w0 eb_s,qO w0 eb_10q10,ne_10q10_p,ne_10q10_p.symm,ne_10q10_s,ne_10q10_s.symm,qN,qJ,VE,setAt,VF,Kj,qC,VG,Kn,Jp,Nat.reduceAdd,qF,qG,qI,qf,qK,qa,qz,qd,qE,qc,qA,qg,qH,qy,allLive,J4,tokV,posV,faultV];repeat (with_reducible refine And.intro ?_ ?_;· first|trivial|omega|(intro hg;simp only[Ky,JH,Jh,VH,VI,VJ,decide_eq_true_eq,decide_eq_false_iff_not,qR]at hg;omega))
     apply hK;clear hK K;refine XJ ?_;try simp only[QK,Qt,qaG]
     obtain⟨c2,j2,ov2,pv2,bv2,op2,pp2,tp2,bp2,E2,g1,g2,g3⟩:=hLoop;exact⟨⟨c2,j2,ov2,pv2,bv2,op2,pp2,tp2,bp2,E2,_⟩,rfl,Vg _,⟨g1,by simp only;omega,g3⟩,by have:=g1.par.at_;simp only;omega⟩
    ·try simp only[decide_eq_true_eq,decide_eq_false_iff_not,Jh,VJ,Ky,VH,JH,VI,VV,VW,reduceCtorEq]at hb5
     have hnI:isV l j=true->Yc QY c=none:=fun z=>by
      rw[<-hmm];cases hm0:m with
      |none=>rfl
      |some w'=>
       exfalso;rw[hVV]at z;rcases hb5 with y|y
       ·rw[hm0]at y;cases y
       ·rw[z]at y;cases y
     refine QJ ?_;change Awp _ _ _ _ _ _ _;refine Qp ?_;refine awp_rseq [0,1,4,5,6,7,8,9,150] (by rfl) fun K hK=>?_;simp+decide only[qh,qi,qj,qo,ev,qZ,qY,putD,Vz,VA,VB,Ka,VC,VD,Kb,and_true,↓Qu,QM,Xy qhB Yv,qM,ne_eq,not_false_eq_true,qO w0 eb_p,qO w0 eb_s,qO w0 eb_10q10,ne_10q10_p,ne_10q10_p.symm,ne_10q10_s,ne_10q10_s.symm,qN,qJ,VE,setAt,VF,Kj,qC,VG,Kn,Jp,Nat.reduceAdd,qF,qG,qI,qf,qK,qa,qz,qd,qE,qc,qA,qg,qH,qy,allLive,J4,tokV,posV,faultV];repeat (with_reducible refine And.intro ?_ ?_;· first|trivial|omega|(intro hg;simp only[Ky,JH,Jh,VH,VI,VJ,decide_eq_true_eq,decide_eq_false_iff_not,qR]at hg;omega))
     refine XD (V:= .bool (Uh t)) (by rfl) (by rfl) (qen w0 hm _ t htx) ?_;simp+decide only[qh,qi,qj,qo,ev,qZ,qY,putD,Vz,VA,VB,Ka,VC,VD,Kb,and_true,↓qW,qU,↓Zj,agP,Xw,gv,QB,QD,QC,Qs,Qg,Qe,Zk,implies_true,VK,decide_true,decide_false,VL,VM,Qc,Qb,forall_const,false_implies,Qk,Qf,J4,VN,VO,VP,VQ,VS,VT,VU,Xb,Xc,Xa,qM,ne_eq,not_false_eq_true,qO w0 eb_p,qO w0 eb_s,qO w0 eb_10q10,ne_10q10_p,ne_10q10_p.symm,ne_10q10_s,ne_10q10_s.symm,qN,qJ,VE,setAt,VF,Kj,qC,VG,Kn,Jp,Nat.reduceAdd,qF,qG,qI,qf,qK,qa,qz,qd,qE,qc,qA,qg,qH,qy,allLive,J4,tokV,posV,faultV];repeat (with_reducible refine And.intro ?_ ?_;· first|trivial|omega|(intro hg;simp only[Ky,JH,Jh,VH,VI,VJ,decide_eq_true_eq,decide_eq_false_iff_not,qR]at hg;omega))
     first
     |(refine Zf (by rfl) ?_;refine XD (V:= .bool (qcj l O j)) (by rfl) (by rfl) (qoM w0 ha _ kp v ov l j O eb_p (hv.mono zqB) (hP.open_.isL (hS19.in_ (i:=2) rfl)) hF (by omega) (by omega) (by omega) hjl) ?_)
     |(refine WI (by rfl) (by rfl) ?_)
     |(refine Wo (V:= .bool (qcj l O j)) (f:=_) (cap:=_) (xs:=_) (by first|rfl|(simp+decide only[gv,QB,VA,Ka,QC,QD])) (fun hg=>⟨rfl,?_⟩) (fun hg=>qoM w0 ha _ kp v ov l j O eb_p (hv.mono zqB) (hP.open_.isL (hS19.in_ (i:=2) rfl)) hF (by omega) (by omega) (by omega) hjl) ?_;· (simp+decide only[gv,QB,putD,Vz,VA,Ka,Qg,Qe,Qs,VK]at hg;simp+decide only[evs,ev,putD,Vz,VA,Ka,hg,Qc,JE,Ke,Vh,qZ,qY]<;>try rfl))
     simp+decide only[qh,qi,qj,qo,ev,qZ,qY,putD,Vz,VA,VB,Ka,VC,VD,Kb,and_true,gv,QB,Qg,Qe,Qs,↓XH,Xj,QO,QH,QG,QA,Xo,Xn,Xm,Xl,QZ,Xk,qM,ne_eq,not_false_eq_true,qO w0 eb_p,qO w0 eb_s,qO w0 eb_10q10,ne_10q10_p,ne_10q10_p.symm,ne_10q10_s,ne_10q10_s.symm,qN,qJ,VE,setAt,VF,Kj,qC,VG,Kn,Jp,Nat.reduceAdd,qF,qG,qI,qf,qK,qa,qz,qd,qE,qc,qA,qg,qH,qy,allLive,J4,tokV,posV,faultV];repeat (with_reducible refine And.intro ?_ ?_;· first|trivial|omega|(intro hg;simp only[Ky,JH,Jh,VH,VI,VJ,decide_eq_true_eq,decide_eq_false_iff_not,qR]at hg;omega))
     apply hK;clear hK K;refine Qw (b:=_) rfl (fun hb6=>?_) (fun hb6=>?_)
     ·try simp only[decide_eq_true_eq,decide_eq_false_iff_not,Jh,VJ,Ky,VH,JH,VI,VV,VW,reduceCtorEq]at hb6
      have hZ1:StI w0 l B kp ks k4 b4 v ov pv bv op pp tp bp E O (32-dd) c j h19q1:=⟨hS19.pick [0,1,2,3,4,5,6,7,8] (by decide) (by simp),hP,hC,hfew⟩
      have hZ2:=hgo _ (LoopR.leave hE0 hEn hS0 hnI (by rw[hVV];exact hb6));have hZ3:=hij;refine XJ ?_;change Awp _ _ _ _ _ _ _;refine JP [0,4,5,6,9] ?_;exact hrest _ _ _ _ _ _ _ _ _ _ _ _ hZ1 hZ3 hZ2
     ·try simp only[decide_eq_true_eq,decide_eq_false_iff_not,Jh,VJ,Ky,VH,JH,VI,VV,VW,reduceCtorEq]at hb6
      have hnV:isV l j=false:=by rw[hVV];exact hb6.1
      have hdj:[B,one k4 b4].Pairwise disj:=(hS19.pick [0,8] (by decide) (by simp)).2;have hu:=Yb hdj;have hS20:=BK (ps:=[B,one k4 b4]) (hS19.pick [0,8,1,2,3,4,5,6,7] (by decide) (by simp));refine QJ ?_;change Awp _ _ _ _ _ _ _;by_cases hbb:c.bodies≠[]
      ·skip
       refine YO 2 (by rfl) (by rfl) ?_;simp only[Ki,Bj];simp+decide only[qh,qi,qj,qo,ev,qZ,qY,putD,Vz,VA,VB,Ka,VC,VD,Kb,and_true,↓qW,qU,qM,ne_eq,not_false_eq_true,qO w0 eb_p,qO w0 eb_s,qO w0 eb_10q10,ne_10q10_p,ne_10q10_p.symm,ne_10q10_s,ne_10q10_s.symm,qN,qJ,VE,setAt,VF,Kj,qC,VG,Kn,Jp,Nat.reduceAdd,qF,qG,qI,qf,qK,qa,qz,qd,qE,qc,qA,qg,qH,qy,allLive,J4,tokV,posV,faultV];repeat (with_reducible refine And.intro ?_ ?_;· first|trivial|omega|(intro hg;simp only[Ky,JH,Jh,VH,VI,VJ,decide_eq_true_eq,decide_eq_false_iff_not,qR]at hg;omega))
       refine⟨⟨_,_,by rfl,?_⟩,by intro i;first|trivial|exact .inr trivial|exact .inr rfl⟩;refine(qsy w0 _ (qaY [B,one k4 b4]) kp ks v ov bv pv op pp tp bp E c (32-dd) j l ph hS20 (hv.mono (hu B (by simp))) hC (by omega) hjl hbb).mono (fun _ _ q=>q) fun x h' ⟨q1,q2⟩=>⟨_,hbad0 _ (hgo _ (LoopR.tokBad hE0 hEn hS0 hnV hb6.2 (by unfold qas;rw[if_pos hbb]))),q1,Bq (hS19.in_ (i:=0) rfl) q2⟩
      refine XZ [0,1,4,5,6,7,8,9] (by rfl) ?_;simp+decide only[qh,qi,qj,qo,ev,qZ,qY,putD,Vz,VA,VB,Ka,VC,VD,Kb,and_true,↓qW,qU,qM,ne_eq,not_false_eq_true,qO w0 eb_p,qO w0 eb_s,qO w0 eb_10q10,ne_10q10_p,ne_10q10_p.symm,ne_10q10_s,ne_10q10_s.symm,qN,qJ,VE,setAt,VF,Kj,qC,VG,Kn,Jp,Nat.reduceAdd,qF,qG,qI,qf,qK,qa,qz,qd,qE,qc,qA,qg,qH,qy,allLive,J4,tokV,posV,faultV];repeat (with_reducible refine And.intro ?_ ?_;· first|trivial|omega|(intro hg;simp only[Ky,JH,Jh,VH,VI,VJ,decide_eq_true_eq,decide_eq_false_iff_not,qR]at hg;omega))
      refine QN (by rfl) (by rfl) (c_tokOk w0 ha _ (qaY [B,one k4 b4]) kp ks v ov bv pv op pp tp bp E c _ (32-dd) j _ l ph hS20 (hv.mono (hu B (by simp))) hC (by omega) hjlt (Decidable.not_not.1 hbb) hph1 hph2 (qrm (Decidable.not_not.1 hbb)).choose_spec.choose_spec hfew hlo) fun x23q2 h23q2 hx23q2=>?_;obtain⟨rfl,pv',pp',tp',E',hC',hS'⟩:=hx23q2;have hS':=(hS'.unfold hdj).pick [0,2,3,4,5,6,7,8,1] (by decide) (by simp);have hok:=(qrm (l:=l) (ph:=ph) (j:=j) (Decidable.not_not.1 hbb)).choose_spec.choose_spec;obtain⟨hfw,hjj⟩:=few_tok hfew (qnu hC hfew (by omega)).1 (Decidable.not_not.1 hbb) hok;have hLoop:∃(c2:Cur) (j2:Nat) (ov2 pv2 bv2:AVal) (op2 pp2 tp2 bp2 E2:AHeap),StI w0 l B kp ks k4 b4 v ov2 pv2 bv2 op2 pp2 tp2 bp2 E2 O (32-dd) c2 j2 h23q2/\j<j2/\∀r,LoopRO l dd O ph c2 j2 r->LoopRO l dd O ph (qbM l i) (i+1) r:=⟨_,_,ov,pv',bv,op,pp',tp',bp,E',⟨hS',⟨hv,hP.open_,hP.isG,tok_le (Decidable.not_not.1 hbb) hjlt hok⟩,hC',hfw⟩,hjj,fun r hr=>hgo r (LoopR.tok hE0 hEn hS0 hnV hb6.2 hok hr)⟩
      simp+decide only[qh,qi,qj,qo,ev,qZ,qY,putD,Vz,VA,VB,Ka,VC,VD,Kb,and_true,qM,ne_eq,not_false_eq_true,qO w0 eb_p,qO w0 eb_s,qO w0 eb_10q10,ne_10q10_p,ne_10q10_p.symm,ne_10q10_s,ne_10q10_s.symm,qN,qJ,VE,setAt,VF,Kj,qC,VG,Kn,Jp,Nat.reduceAdd,qF,qG,qI,qf,qK,qa,qz,qd,qE,qc,qA,qg,qH,qy,allLive,J4,tokV,posV,faultV];repeat (with_reducible refine And.intro ?_ ?_;· first|trivial|omega|(intro hg;simp only[Ky,JH,Jh,VH,VI,VJ,decide_eq_true_eq,decide_eq_false_iff_not,qR]at hg;omega))
      try simp only[QK,Qt,qaG]
      obtain⟨c2,j2,ov2,pv2,bv2,op2,pp2,tp2,bp2,E2,g1,g2,g3⟩:=hLoop;exact⟨⟨c2,j2,ov2,pv2,bv2,op2,pp2,tp2,bp2,E2,_⟩,rfl,Vg _,⟨g1,by simp only;omega,g3⟩,by have:=g1.par.at_;simp only;omega⟩
 ·try simp only[decide_eq_true_eq,decide_eq_false_iff_not,Jh,VJ,Ky,VH,JH,VI,VV,VW,reduceCtorEq]at hb1
  have hE0:isE l j=true:=by
   have z:(!isE l j)=false:=by rw[<-hb_9];exact hb1
   simpa using z
  have hZ1:StI w0 l B kp ks k4 b4 v ov pv bv op pp tp bp E O (32-dd) c j H:=⟨hS,hP,hC,hfew⟩
  have hZ2:=hgo _ (LoopR.stop hE0);have hZ3:=hij;refine XJ ?_;change Awp _ _ _ _ _ _ _;refine JP [0,4,5,6,9] ?_;exact hrest _ _ _ _ _ _ _ _ _ _ _ _ hZ1 hZ3 hZ2
end Go.Proofs.YtgiadjbiimkbiaaDoor
