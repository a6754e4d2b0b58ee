/-
  Texts of this proof, joined: SoC, SoD, SoE, SoF, SoG, SoH, SoI, SoJ, SoK.
  Conditions: none.
-/
import Derived.Test.YtgiadjbiimkbiaaDoorDc
set_option linter.unusedSimpArgs false
set_option linter.unnecessarySimpa false
set_option linter.unusedVariables false
open Nat renaming eq_zero_or_pos->BC,zero_mul->K7,add_zero->K6,le_of_ble_eq_true->Vy,zero_add->Jp,zero_le->Jq,le_refl->KL,le_trans->Vb,le_of_lt->BP
open List renaming eq_nil_of_length_eq_zero->Kg,getD->Ko,getElem?_eq_getElem->JB,getElem_mem->Vr,contains_cons->VC,contains_nil->VD,set_cons_zero->VF,set_cons_succ->Kj,getD_cons_zero->VG,getD_cons_succ->Kn,length_cons->KX,length_nil->JD,length_map->Jn,append_nil->JE,map_cons->Ke,map_nil->Vh,drop_eq_getElem_cons->J9,any_cons->BD,drop_length->J8,length_pos_iff->V5,take_succ_cons->Ki,take_zero->Bj,length_append->Jb,length_singleton->JF,flatten_append->Bo,mem_append->JS,mem_singleton->V4,drop_succ_cons->Ba,drop_zero->Vk,take_nil->BG,drop_nil->BH,map_append->VZ,cons_append->Kh,nil_append->Jd,getLastD_eq_getLast?->BM,append_eq->BN
open Go.AM.AHeap renaming set_none->V7,ne_some->BF,set_set->Bi,set_same->Vf
open Go.AM.Slots renaming put->Vz,get->VA,keep->VB
open Go.AM.AVal renaming cells->VE
open Bool renaming and_true->J4,and_eq_true->Ky,or_eq_true->JH,not_eq_true'->Jh,and_eq_false_iff->VH,or_eq_false_iff->VI,not_eq_false'->VJ,true_eq->VV,false_eq->VW,not_not->VK,not_false->VL,not_true->VM,and_false->VN,true_and->VO,false_and->VP,or_true->VQ,or_false->VS,true_or->VT,false_or->VU,not_eq_true->BL
open Go.AM.Sub renaming set->V8,refl->Vg,trans->Bq,none->Bh
open Int renaming toNat_zero->Bt,toNat_natCast->VX
open Go.AM.IsL renaming own->V9
open Go.AM.Awp renaming forget->BI,keep->JP
open Go.AM.Sep renaming fold->BJ
open Go.Proofs.YtgiadjbiimkbiaaDoor.StsV renaming mono->BK
open Go.Stm.BodyR renaming bare->BO
namespace Go.Proofs.YtgiadjbiimkbiaaDoor
open Go.AM
open Go.Proofs
open Go.Col (Str FaultC okF)
open Go.Tok (TokC)
open Go.Stm
open Go.RowKit (Below)
set_option maxRecDepth 100000
def qmA(l:List PhrC):Prop:=l≠[]/\l.length<=1000000/\∀p∈l,p.toks.length<=1000000
theorem qjY(o:Option Nat):qrM o= .tuple [.int .i64 ((o.getD 0:Nat):Int), .int .i64 (if o.isSome=true then 0 else 4)]:=by cases o<;>rfl
set_option maxHeartbeats 2000000 in
theorem qkt(wz:World)(ha:Asp wz)(h:AHeap)(vb:Str)(ln cl:Int)(pv bv:AVal)(l:List PhrC)(hp:PhV wz h pv l)(hbl:bv.live=true)(hbs:bv.scal=true)(hbc:bv.cells=[bv])(hf:qmA l):
 ACall Tryd.prog wz 82 [.agg [.str vb, .int .i64 ln, .int .i64 cl,pv,bv]] h (fun r h'=>r= .bool (UA Xa l)/\Sub h h'):=by
 have hpl:=hp.live;have hps:=hp.scal;have hpc:=hp.cells;obtain⟨hf1,hf2,hf3⟩:=hf;have hR:UA Xa l=if firstT l=[]then true else(qfS l qlU).isSome && (!(qfS l qkH).isSome && decide (ZG Xa (firstT l)=some (firstT l).length)):=rfl
 obtain⟨R,hRR⟩:∃R,R=UA Xa l:=⟨_,rfl⟩
 rw[<-hRR]at hR|-
 obtain⟨qs,hqe,hq,hqt⟩:=id hp;have hqn:0<qs.length:=by
  rcases BC qs.length with z|z
  ·exfalso;apply hf1;rw[hqe,Kg z];rfl
  ·exact z
 obtain⟨q,hq0⟩:∃q,q=qs.getD 0 qhP:=⟨_,rfl⟩
 have hqm:q∈qs:=by rw[hq0,Ko,JB hqn];exact Vr hqn
 have hft:firstT l=q.1.toks:=by
  unfold firstT;rw[hqe,hq0];simp[Ko,hqn]
 have hqv:=hqt q hqm;have hql:=hqv.live;have nq:=YU hqv;have hqf:q.1.toks.length<=1000000:=hf3 _ (by rw[hqe];exact List.mem_map_of_mem (f:=(·.1)) hqm);rw[hft]at hR;obtain⟨lc,o,c,rfl⟩:=qgn hq hqn;have hq2:=hq;have hq3:∀H,Sub h H->rd wz H lc o= .str q.1.words/\rd wz H lc (o+1)=q.2:=fun H hH=>by
  obtain⟨e0,e1⟩:=qib (hq2.mono hH) hqn;rw[K7,K6,<-hq0]at e0 e1;exact⟨e0,e1⟩
 obtain⟨⟨qw,qt⟩,qv⟩:=q;simp only at hR hqv hql nq hqf hq3;have hpos:((0:Int)<qs.length)=True:=eq_true (by omega);refine QW (n:=48) (rs:=[.tmp 2]) Tryd.func82 rfl rfl rfl rfl (Vy rfl) ?_;simp only[QV];refine awp_rseq [1] (by rfl) fun K hK=>?_;refine qbF (by rfl) (by rfl) (by rfl) fun k0q0 hk0q0=>?_;try have hf_0q0:h k0q0=none:=by first|assumption|(simp only[V7]at hk0q0;simp only[hk0q0])
 skip;simp+decide only[qh,qi,qj,qo,ev,qZ,qW,putD,Vz,VA,VB,Ka,VC,VD,Kb,and_true,↓qV,qP,qN,ne_eq,not_false_eq_true,qO,qJ,VE,setAt,VF,Kj,qC,VG,Kn,Jp,Nat.reduceAdd,qF,qG,qI,qf,qK,qa,qz,qd,qE,qc,qA,qg,qH,qy,allLive,J4,tokV,hpl,hbl,hql,nq];repeat (with_reducible refine And.intro ?_ ?_;· first|trivial|omega|(intro hg;simp only[Ky,JH,Jh,VH,VI,VJ,decide_eq_true_eq,decide_eq_false_iff_not,qU]at hg;omega))
 apply hK;clear hK K;obtain⟨-,e1⟩:=hq3 _ (V8 (b:=⟨[.str vb, .int .i64 ln, .int .i64 cl, .slice lc o qs.length c,bv],0⟩) hk0q0);refine awp_rseq [1,3] (by rfl) fun K hK=>?_;simp+decide only[qh,qi,qj,qo,ev,qZ,qW,putD,Vz,VA,VB,Ka,VC,VD,Kb,and_true,↓Qn,Qd,qaD,↓Qv,QN,Qf qhw,↓QU,Ql Tryd.underlying45 qcn,qdg,Qf qbV,↓qV,qP,qN,ne_eq,not_false_eq_true,qO,qJ,VE,setAt,VF,Kj,qC,VG,Kn,Jp,Nat.reduceAdd,qF,qG,qI,qf,qK,qa,qz,qd,qE,qc,qA,qg,qH,qy,allLive,J4,tokV,hpl,hbl,hql,nq,hpos,e1,Bt,K7,K6];repeat (with_reducible refine And.intro ?_ ?_;· first|trivial|omega|(intro hg;simp only[Ky,JH,Jh,VH,VI,VJ,decide_eq_true_eq,decide_eq_false_iff_not,qU]at hg;omega))
 apply hK;clear hK K;refine Qr ?_;refine awp_rseq [1,3,17] (by rfl) fun K hK=>?_;simp+decide only[qh,qi,qj,qo,ev,qZ,qW,putD,Vz,VA,VB,Ka,VC,VD,Kb,and_true,↓qY,qR,↓XG,Xf,Qz Tryd.underlying31,QR Tryd.underlying31,↓Qh,Qa,Qm,cond_false,Qg,Yu,qN,ne_eq,not_false_eq_true,qO,qJ,VE,setAt,VF,Kj,qC,VG,Kn,Jp,Nat.reduceAdd,qF,qG,qI,qf,qK,qa,qz,qd,qE,qc,qA,qg,qH,qy,allLive,J4,tokV,hpl,hbl,hql,nq];repeat (with_reducible refine And.intro ?_ ?_;· first|trivial|omega|(intro hg;simp only[Ky,JH,Jh,VH,VI,VJ,decide_eq_true_eq,decide_eq_false_iff_not,qU]at hg;omega))
 apply hK;clear hK K;refine Qu (b:=_) rfl (fun hb1=>?_) (fun hb1=>?_)
 ·try simp only[decide_eq_true_eq,decide_eq_false_iff_not,Jh,VJ,Ky,VH,JH,VI,VV,VW,reduceCtorEq]at hb1
  rw[if_pos (Kg (by omega))]at hR;refine awp_rseq [2] (by rfl) fun K hK=>?_;simp+decide only[qh,qi,qj,qo,ev,qZ,qW,putD,Vz,VA,VB,Ka,VC,VD,Kb,and_true,↓qV,qP,qN,ne_eq,not_false_eq_true,qO,qJ,VE,setAt,VF,Kj,qC,VG,Kn,Jp,Nat.reduceAdd,qF,qG,qI,qf,qK,qa,qz,qd,qE,qc,qA,qg,qH,qy,allLive,J4,tokV,hpl,hbl,hql,nq];repeat (with_reducible refine And.intro ?_ ?_;· first|trivial|omega|(intro hg;simp only[Ky,JH,Jh,VH,VI,VJ,decide_eq_true_eq,decide_eq_false_iff_not,qU]at hg;omega))
  apply hK;clear hK K;refine Xe ?_;try simp only[QD,Qo]
  refine XD (Qs (Qy)) ?_;simp+decide only[qh,qi,qj,qo,ev,qZ,qW,putD,Vz,VA,VB,Ka,VC,VD,Kb,and_true,Xd,qN,ne_eq,not_false_eq_true,qO,qJ,VE,setAt,VF,Kj,qC,VG,Kn,Jp,Nat.reduceAdd,qF,qG,qI,qf,qK,qa,qz,qd,qE,qc,qA,qg,qH,qy,allLive,J4,tokV,hpl,hbl,hql,nq];rw[hR];exact⟨h,zqB,rfl,Vg _⟩
 ·try simp only[decide_eq_true_eq,decide_eq_false_iff_not,Jh,VJ,Ky,VH,JH,VI,VV,VW,reduceCtorEq]at hb1
  rw[if_neg (fun e=>by rw[e]at hb1;exact hb1 rfl)]at hR;refine QE ?_;change Awp _ _ _ _ _ _ _;refine awp_rseq [1,3,5] (by rfl) fun K hK=>?_;simp+decide only[qh,qi,qj,qo,ev,qZ,qW,putD,Vz,VA,VB,Ka,VC,VD,Kb,and_true,↓Qv,QN,Xm qhv Uw,qN,ne_eq,not_false_eq_true,qO,qJ,VE,setAt,VF,Kj,qC,VG,Kn,Jp,Nat.reduceAdd,qF,qG,qI,qf,qK,qa,qz,qd,qE,qc,qA,qg,qH,qy,allLive,J4,tokV,hpl,hbl,hql,nq];repeat (with_reducible refine And.intro ?_ ?_;· first|trivial|omega|(intro hg;simp only[Ky,JH,Jh,VH,VI,VJ,decide_eq_true_eq,decide_eq_false_iff_not,qU]at hg;omega))
  refine QT (by rfl) (by rfl) (qoV wz _ vb qlU ln cl _ bv l (hp.mono zqB) hbl hbs hbc hf2 hf3) fun x4q1 h4q1 hx4q1=>?_;obtain⟨hs4,rv4,rfl,hrv4⟩:=hx4q1;have hs_h4q1:Sub h h4q1:=Bq zqC hs4;have hr_h4q1:=hs_h4q1;have eb_0q0:=hs4 k0q0 _ zqA;simp+decide only[qh,qi,qj,qo,ev,qZ,qW,putD,Vz,VA,VB,Ka,VC,VD,Kb,and_true,↓qY,qR,↓XW,XK,Zd,KX,JD,VG,Kn,↓qV,qP,qN,ne_eq,not_false_eq_true,qM wz eb_0q0,qO,qJ,VE,setAt,VF,Kj,qC,VG,Kn,Jp,Nat.reduceAdd,qF,qG,qI,qf,qK,qa,qz,qd,qE,qc,qA,qg,qH,qy,allLive,J4,tokV,hpl,hbl,hql,nq,hrv4.live];repeat (with_reducible refine And.intro ?_ ?_;· first|trivial|omega|(intro hg;simp only[Ky,JH,Jh,VH,VI,VJ,decide_eq_true_eq,decide_eq_false_iff_not,qU]at hg;omega))
  apply hK;clear hK K;refine awp_rseq [3,5,7] (by rfl) fun K hK=>?_;simp+decide only[qh,qi,qj,qo,ev,qZ,qW,putD,Vz,VA,VB,Ka,VC,VD,Kb,and_true,↓Qv,QN,Xm qhv Uw,qN,ne_eq,not_false_eq_true,qM wz eb_0q0,qO,qJ,VE,setAt,VF,Kj,qC,VG,Kn,Jp,Nat.reduceAdd,qF,qG,qI,qf,qK,qa,qz,qd,qE,qc,qA,qg,qH,qy,allLive,J4,tokV,hpl,hbl,hql,nq];repeat (with_reducible refine And.intro ?_ ?_;· first|trivial|omega|(intro hg;simp only[Ky,JH,Jh,VH,VI,VJ,decide_eq_true_eq,decide_eq_false_iff_not,qU]at hg;omega))
  refine QT (by rfl) (by rfl) (qoV wz _ vb qkH ln cl _ bv l (hp.mono zqB) hbl hbs hbc hf2 hf3) fun x5q1 h5q1 hx5q1=>?_;obtain⟨hs5,rv5,rfl,hrv5⟩:=hx5q1;have hs_h5q1:Sub h h5q1:=Bq zqC hs5;have hr_h5q1:Sub h4q1 h5q1:=Bq zqC hs5;have eb_0q0:=hs5 k0q0 _ zqA;simp+decide only[qh,qi,qj,qo,ev,qZ,qW,putD,Vz,VA,VB,Ka,VC,VD,Kb,and_true,↓qY,qR,↓XW,XK,Zd,KX,JD,VG,Kn,↓qV,qP,qN,ne_eq,not_false_eq_true,qM wz eb_0q0,qO,qJ,VE,setAt,VF,Kj,qC,VG,Kn,Jp,Nat.reduceAdd,qF,qG,qI,qf,qK,qa,qz,qd,qE,qc,qA,qg,qH,qy,allLive,J4,tokV,hpl,hbl,hql,nq];repeat (with_reducible refine And.intro ?_ ?_;· first|trivial|omega|(intro hg;simp only[Ky,JH,Jh,VH,VI,VJ,decide_eq_true_eq,decide_eq_false_iff_not,qU]at hg;omega))
  apply hK;clear hK K;refine awp_rseq [3,5,7,8,9] (by rfl) fun K hK=>?_;simp+decide only[qh,qi,qj,qo,ev,qZ,qW,putD,Vz,VA,VB,Ka,VC,VD,Kb,and_true,↓qY,qR,qN,ne_eq,not_false_eq_true,qM wz eb_0q0,qO,qJ,VE,setAt,VF,Kj,qC,VG,Kn,Jp,Nat.reduceAdd,qF,qG,qI,qf,qK,qa,qz,qd,qE,qc,qA,qg,qH,qy,allLive,J4,tokV,hpl,hbl,hql,nq];repeat (with_reducible refine And.intro ?_ ?_;· first|trivial|omega|(intro hg;simp only[Ky,JH,Jh,VH,VI,VJ,decide_eq_true_eq,decide_eq_false_iff_not,qU]at hg;omega))
  refine QT (by rfl) (by rfl) (qir wz ha _ qv qt (hqv.mono zqB) hqf) fun x6q1 h6q1 hx6q1=>?_;obtain⟨rfl,hs6⟩:=hx6q1;rw[qjY];have hs_h6q1:Sub h h6q1:=Bq zqC hs6;have hr_h6q1:Sub h5q1 h6q1:=Bq zqC hs6;have eb_0q0:=hs6 k0q0 _ zqA;simp+decide only[qh,qi,qj,qo,ev,qZ,qW,putD,Vz,VA,VB,Ka,VC,VD,Kb,and_true,↓qY,qR,↓XW,XK,Zd,KX,JD,VG,Kn,↓qV,qP,qN,ne_eq,not_false_eq_true,qM wz eb_0q0,qO,qJ,VE,setAt,VF,Kj,qC,VG,Kn,Jp,Nat.reduceAdd,qF,qG,qI,qf,qK,qa,qz,qd,qE,qc,qA,qg,qH,qy,allLive,J4,tokV,hpl,hbl,hql,nq];repeat (with_reducible refine And.intro ?_ ?_;· first|trivial|omega|(intro hg;simp only[Ky,JH,Jh,VH,VI,VJ,decide_eq_true_eq,decide_eq_false_iff_not,qU]at hg;omega))
  apply hK;clear hK K;refine awp_rseq [2] (by rfl) fun K hK=>?_;simp+decide only[qh,qi,qj,qo,ev,qZ,qW,putD,Vz,VA,VB,Ka,VC,VD,Kb,and_true,↓qY,qR,↓Zy,agP,XH,gv,Qw,QJ,QI,QC,Qk,Qi,ZC,implies_true,VK,decide_true,decide_false,VL,VM,Qc,Qb,forall_const,false_implies,Qj,Qe,J4,VN,VO,VP,VQ,VS,VT,VU,Xp,Xr,Xo,↓qgr,qae,qcy,qkm,qkn,↓XR,Xw,Xb,QM,QL,QG,XC,XB,XA,Xz,Xl,Xy,↓XY,Qa,Qm,cond_false,Zh,Zg,Zj,Zi,Qg,Yu,↓qej,Xf,Qz Tryd.underlying31,QR Tryd.underlying31,qee,qef,QB,↓qV,qP,qN,ne_eq,not_false_eq_true,qM wz eb_0q0,qO,qJ,VE,setAt,VF,Kj,qC,VG,Kn,Jp,Nat.reduceAdd,qF,qG,qI,qf,qK,qa,qz,qd,qE,qc,qA,qg,qH,qy,allLive,J4,tokV,hpl,hbl,hql,nq];try simp(disch:=omega)only[wrap_i64,wrap_u8]
  repeat (with_reducible refine And.intro ?_ ?_;· first|trivial|omega|(intro hg;simp only[Ky,JH,Jh,VH,VI,VJ,decide_eq_true_eq,decide_eq_false_iff_not,qU]at hg;omega))
  apply hK;clear hK K;refine Xe ?_;try simp only[QD,Qo]
  refine XD (Qs (Qy)) ?_;simp+decide only[qh,qi,qj,qo,ev,qZ,qW,putD,Vz,VA,VB,Ka,VC,VD,Kb,and_true,Xd,qN,ne_eq,not_false_eq_true,qM wz eb_0q0,qO,qJ,VE,setAt,VF,Kj,qC,VG,Kn,Jp,Nat.reduceAdd,qF,qG,qI,qf,qK,qa,qz,qd,qE,qc,qA,qg,qH,qy,allLive,J4,tokV,hpl,hbl,hql,nq];refine⟨h,by assumption,?_,Vg _⟩;rw[hR];congr 1;cases hop:ZG Xa qt with
  |none=>simp
  |some n=>
   have e:decide (((some n:Option Nat).getD 0:Int)=(qt.length:Int))=decide (some n=some qt.length):=by
    by_cases z:n=qt.length
    ·subst z;simp
    ·have:(n:Int)≠qt.length:=by omega
     simp[z,this]
   rw[e];simp only[Option.isSome_some,if_true,decide_true,J4,Bool.and_assoc]
def impV:Option Str->AVal
 |some w=> .tuple [.str w, .bool true]
 |none=> .tuple [.str [], .bool false]
theorem qfB{wz:World}{h:AHeap}{v:AVal}{qs:List (BodC×AVal×AVal)}(ht:IsL wz h 3 v (qs.map bdC)):∀H:AHeap,YG Tryd.prog H 46 v=⟨True, .int .i64 qs.length⟩:=by
 intro H;have:=ht.len Tryd.underlying46 H
 rwa [Jn]at this
theorem qdF{wz:World}{h:AHeap}{v:AVal}{qs:List (BodC×AVal×AVal)}(ht:IsL wz h 3 v (qs.map bdC))(hn:0<qs.length):∃lc o c,v= .slice lc o qs.length c:=by
 obtain⟨lc,o,c,e⟩:=ht.open (fun e=>by rw[List.map_eq_nil_iff]at e;subst e;simp at hn);rw[Jn]at e;exact⟨lc,o,c,e⟩
def qew:BodC×AVal×AVal:=(([],[],[]), .nilSlice, .nilSlice)
theorem qga{wz:World}{h:AHeap}{lc:AM.Loc}{o:Nat}{c:Cap}{qs:List (BodC×AVal×AVal)}(ht:IsL wz h 3 (.slice lc o qs.length c) (qs.map bdC)){i:Nat}(hi:i<qs.length):
 rd wz h lc (o+i*3)= .str (qs.getD i qew).1.1/\rd wz h lc (o+i*3+1)=(qs.getD i qew).2.1/\rd wz h lc (o+i*3+2)=(qs.getD i qew).2.2:=by
 have he:=ht.elem (i:=i) (by rw[Jn];exact hi);rw[getD_map qew hi]at he;simp only[qC,bdC,List.cons.injEq,and_true]at he;exact he
theorem StsV.shape{wz:World}{d:Nat}{h:AHeap}{v:AVal}{l:List StC}(hs:StsV wz d h v l):v.live=true/\v.scal=true/\v.cells=[v]:=by
 obtain⟨qs,-,a⟩:=hs.isL;exact⟨a.live,a.scal,a.cells⟩
theorem qlF(wz:World)(ha:Asp wz)(h:AHeap)(c:Cur)(pv bv:AVal)(d:Nat)(hp:PhV wz h pv c.phrases)(hb:BdV wz (StsV wz d h) h bv c.bodies)(hbl:c.bodies.length<=1000000)(hf:qmA c.phrases):
 ACall Tryd.prog wz 60 [.agg [.str c.verb, .int .i64 c.line, .int .i64 c.col,pv,bv]] h (fun r h'=>r=impV (YM Xa c)/\Sub h h'):=by
 have hpl:=hp.live;have hps:=hp.scal;have hbl:=hb.live;have hbs:=hb.scal;have hbc:=hb.cells;obtain⟨ql,hql,hqb,hqq⟩:=id hb;have nb:=qfB hqb;have hR:YM Xa c=if c.bodies≠[]then none else if c.verb=[73,70]then some qpt else if c.verb=[80,69,82,70,79,82,77]/\UA Xa c.phrases=true then some []else none:=rfl
 obtain⟨R,hRR⟩:∃R,R=YM Xa c:=⟨_,rfl⟩
 rw[<-hRR]at hR|-
 have hbn:c.bodies=[]↔ql.length=0:=by rw[hql];simp
 refine QW (n:=18) (rs:=[.tmp 2, .tmp 3]) Tryd.func60 rfl rfl rfl rfl (Vy rfl) ?_;simp only[QV];refine awp_rseq [1] (by rfl) fun K hK=>?_;refine qbF (by rfl) (by rfl) (by rfl) fun k0q0 hk0q0=>?_;try have hf_0q0:h k0q0=none:=by first|assumption|(simp only[V7]at hk0q0;simp only[hk0q0])
 skip;simp+decide only[qh,qi,qj,qo,ev,qZ,qW,putD,Vz,VA,VB,Ka,VC,VD,Kb,and_true,↓qV,qP,qN,ne_eq,not_false_eq_true,qO,qJ,VE,setAt,VF,Kj,qC,VG,Kn,Jp,Nat.reduceAdd,qF,qG,qI,qf,qK,qa,qz,qd,qE,qc,qA,qg,qH,qy,allLive,J4,tokV,hpl,hbl,nb];repeat (with_reducible refine And.intro ?_ ?_;· first|trivial|omega|(intro hg;simp only[Ky,JH,Jh,VH,VI,VJ,decide_eq_true_eq,decide_eq_false_iff_not,qU]at hg;omega))
 apply hK;clear hK K;refine Qr ?_;refine awp_rseq [1,7] (by rfl) fun K hK=>?_;simp+decide only[qh,qi,qj,qo,ev,qZ,qW,putD,Vz,VA,VB,Ka,VC,VD,Kb,and_true,↓Qn,Qd,Ua,↓Qv,QN,Qf qek,↓XG,Xf,Qz Tryd.underlying46,QR Tryd.underlying46,↓Qh,Qa,Qm,cond_false,Qg,Uu,qN,ne_eq,not_false_eq_true,qO,qJ,VE,setAt,VF,Kj,qC,VG,Kn,Jp,Nat.reduceAdd,qF,qG,qI,qf,qK,qa,qz,qd,qE,qc,qA,qg,qH,qy,allLive,J4,tokV,hpl,hbl,nb];repeat (with_reducible refine And.intro ?_ ?_;· first|trivial|omega|(intro hg;simp only[Ky,JH,Jh,VH,VI,VJ,decide_eq_true_eq,decide_eq_false_iff_not,qU]at hg;omega))
 apply hK;clear hK K;refine Qu (b:=_) rfl (fun hb1=>?_) (fun hb1=>?_)
 ·try simp only[decide_eq_true_eq,decide_eq_false_iff_not,Jh,VJ,Ky,VH,JH,VI,VV,VW,reduceCtorEq]at hb1
  rw[if_pos (fun e=>by rw[hbn]at e;omega)]at hR;refine awp_rseq [2,3] (by rfl) fun K hK=>?_;simp+decide only[qh,qi,qj,qo,ev,qZ,qW,putD,Vz,VA,VB,Ka,VC,VD,Kb,and_true,↓qV,qP,qN,ne_eq,not_false_eq_true,qO,qJ,VE,setAt,VF,Kj,qC,VG,Kn,Jp,Nat.reduceAdd,qF,qG,qI,qf,qK,qa,qz,qd,qE,qc,qA,qg,qH,qy,allLive,J4,tokV,hpl,hbl,nb];repeat (with_reducible refine And.intro ?_ ?_;· first|trivial|omega|(intro hg;simp only[Ky,JH,Jh,VH,VI,VJ,decide_eq_true_eq,decide_eq_false_iff_not,qU]at hg;omega))
  apply hK;clear hK K;refine Xe ?_;try simp only[QD,Qo]
  refine XD (Qs (Qs (Qy))) ?_;simp+decide only[qh,qi,qj,qo,ev,qZ,qW,putD,Vz,VA,VB,Ka,VC,VD,Kb,and_true,ZL,qN,ne_eq,not_false_eq_true,qO,qJ,VE,setAt,VF,Kj,qC,VG,Kn,Jp,Nat.reduceAdd,qF,qG,qI,qf,qK,qa,qz,qd,qE,qc,qA,qg,qH,qy,allLive,J4,tokV,hpl,hbl,nb];rw[hR];exact⟨h,zqB,rfl,Vg _⟩
 ·try simp only[decide_eq_true_eq,decide_eq_false_iff_not,Jh,VJ,Ky,VH,JH,VI,VV,VW,reduceCtorEq]at hb1
  rw[if_neg (fun e=>e (hbn.2 (by omega)))]at hR;refine QE ?_;change Awp _ _ _ _ _ _ _;refine Qr ?_;refine awp_rseq [1,10] (by rfl) fun K hK=>?_;simp+decide only[qh,qi,qj,qo,ev,qZ,qW,putD,Vz,VA,VB,Ka,VC,VD,Kb,and_true,↓Qn,Qd,qfs,↓Qv,QN,Qf ag9,↓Qh,Qa,XE,cond_false,Xu,Wo,qN,ne_eq,not_false_eq_true,qO,qJ,VE,setAt,VF,Kj,qC,VG,Kn,Jp,Nat.reduceAdd,qF,qG,qI,qf,qK,qa,qz,qd,qE,qc,qA,qg,qH,qy,allLive,J4,tokV,hpl,hbl,nb];repeat (with_reducible refine And.intro ?_ ?_;· first|trivial|omega|(intro hg;simp only[Ky,JH,Jh,VH,VI,VJ,decide_eq_true_eq,decide_eq_false_iff_not,qU]at hg;omega))
  apply hK;clear hK K;refine Qu (b:=_) rfl (fun hb2=>?_) (fun hb2=>?_)
  ·try simp only[decide_eq_true_eq,decide_eq_false_iff_not,Jh,VJ,Ky,VH,JH,VI,VV,VW,reduceCtorEq]at hb2
   rw[if_pos hb2]at hR;refine awp_rseq [2,3] (by rfl) fun K hK=>?_;simp+decide only[qh,qi,qj,qo,ev,qZ,qW,putD,Vz,VA,VB,Ka,VC,VD,Kb,and_true,↓qV,qP,qN,ne_eq,not_false_eq_true,qO,qJ,VE,setAt,VF,Kj,qC,VG,Kn,Jp,Nat.reduceAdd,qF,qG,qI,qf,qK,qa,qz,qd,qE,qc,qA,qg,qH,qy,allLive,J4,tokV,hpl,hbl,nb];repeat (with_reducible refine And.intro ?_ ?_;· first|trivial|omega|(intro hg;simp only[Ky,JH,Jh,VH,VI,VJ,decide_eq_true_eq,decide_eq_false_iff_not,qU]at hg;omega))
   apply hK;clear hK K;refine Xe ?_;try simp only[QD,Qo]
   refine XD (Qs (Qs (Qy))) ?_;simp+decide only[qh,qi,qj,qo,ev,qZ,qW,putD,Vz,VA,VB,Ka,VC,VD,Kb,and_true,ZL,qN,ne_eq,not_false_eq_true,qO,qJ,VE,setAt,VF,Kj,qC,VG,Kn,Jp,Nat.reduceAdd,qF,qG,qI,qf,qK,qa,qz,qd,qE,qc,qA,qg,qH,qy,allLive,J4,tokV,hpl,hbl,nb];rw[hR];exact⟨h,zqB,rfl,Vg _⟩
  ·try simp only[decide_eq_true_eq,decide_eq_false_iff_not,Jh,VJ,Ky,VH,JH,VI,VV,VW,reduceCtorEq]at hb2
   rw[if_neg hb2]at hR;obtain⟨pb,hpb⟩:∃pb,decide (c.verb=[80,69,82,70,79,82,77])=pb:=⟨_,rfl⟩
   refine QE ?_;change Awp _ _ _ _ _ _ _;refine awp_rseq [2,3] (by rfl) fun K hK=>?_;simp+decide only[qh,qi,qj,qo,ev,qZ,qW,putD,Vz,VA,VB,Ka,VC,VD,Kb,and_true,↓Qn,Qd,qfs,↓Qv,QN,Qf ag9,↓Qh,Qa,XE,cond_false,Xu,Wo,↓qY,qR,↓ZK,Zz,WM,Ya,ZZ,ZY,ZW,ZV,ZU,agP,XH,gv,Qw,QJ,QI,QC,Qk,Qi,ZC,implies_true,VK,decide_true,decide_false,VL,VM,Qc,Qb,forall_const,false_implies,Qj,Qe,J4,VN,VO,VP,VQ,VS,VT,VU,Xm qhv Uw,ZR,ZT,Xp,Xr,Xo,qN,ne_eq,not_false_eq_true,qO,qJ,VE,setAt,VF,Kj,qC,VG,Kn,Jp,Nat.reduceAdd,qF,qG,qI,qf,qK,qa,qz,qd,qE,qc,qA,qg,qH,qy,allLive,J4,tokV,hpl,hbl,nb,hpb];repeat (with_reducible refine And.intro ?_ ?_;· first|trivial|omega|(intro hg;simp only[Ky,JH,Jh,VH,VI,VJ,decide_eq_true_eq,decide_eq_false_iff_not,qU]at hg;omega))
   refine UZ (g:= .bool pb) (V:= .bool (UA Xa c.phrases)) (f:=82) (cap:=[]) (xs:=[.agg [.str c.verb, .int .i64 c.line, .int .i64 c.col,pv,bv]]) (by rfl) (by rfl) (fun hg=>⟨rfl,by
    have hg':pb=true:=by rwa [Qk]at hg
    simp+decide only[evs,ev,putD,Vz,VA,Ka,hg',Qc,JE,Ke,Vh]⟩) (fun hg=>qkt wz ha _ c.verb c.line c.col pv bv c.phrases (hp.mono zqB) hbl hbs hbc hf) fun h5q5 hs5=>?_
   have hs_h5q5:Sub h h5q5:=Bq zqC hs5;have hr_h5q5:=hs_h5q5;have eb_0q0:=hs5 k0q0 _ zqA;simp+decide only[qh,qi,qj,qo,ev,qZ,qW,putD,Vz,VA,VB,Ka,VC,VD,Kb,and_true,gv,Qw,Qk,Qi,QC,↓XR,Xw,Xb,QM,QL,QG,XC,XB,XA,Xz,Xl,Xy,↓qV,qP,qN,ne_eq,not_false_eq_true,qM wz eb_0q0,qO,qJ,VE,setAt,VF,Kj,qC,VG,Kn,Jp,Nat.reduceAdd,qF,qG,qI,qf,qK,qa,qz,qd,qE,qc,qA,qg,qH,qy,allLive,J4,tokV,hpl,hbl,nb,hpb];repeat (with_reducible refine And.intro ?_ ?_;· first|trivial|omega|(intro hg;simp only[Ky,JH,Jh,VH,VI,VJ,decide_eq_true_eq,decide_eq_false_iff_not,qU]at hg;omega))
   apply hK;clear hK K;refine Xe ?_;try simp only[QD,Qo]
   refine XD (Qs (Qs (Qy))) ?_;simp+decide only[qh,qi,qj,qo,ev,qZ,qW,putD,Vz,VA,VB,Ka,VC,VD,Kb,and_true,ZL,qN,ne_eq,not_false_eq_true,qM wz eb_0q0,qO,qJ,VE,setAt,VF,Kj,qC,VG,Kn,Jp,Nat.reduceAdd,qF,qG,qI,qf,qK,qa,qz,qd,qE,qc,qA,qg,qH,qy,allLive,J4,tokV,hpl,hbl,nb];refine⟨h,by assumption,?_,Vg _⟩;rw[hR];by_cases z:c.verb=[80,69,82,70,79,82,77]/\UA Xa c.phrases=true
   ·rw[if_pos z,<-hpb,decide_eq_true z.1,z.2];rfl
   ·rw[if_neg z]
    have:(pb && UA Xa c.phrases)=false:=by
     rw[Bool.eq_false_iff];intro q;rw[Ky]at q;exact z ⟨of_decide_eq_true (hpb.trans q.1),q.2⟩
    rw[this];rfl
structure WhG where
 j:Nat
 b:Bool
 H:AHeap
set_option maxHeartbeats 4000000 in
theorem qrm(wz:World)(ha:Asp wz)(h:AHeap)(c:Cur)(pv bv:AVal)(d:Nat)(closed:Bool)(hp:PhV wz h pv c.phrases)(hb:BdV wz (StsV wz d h) h bv c.bodies)(hbn:c.bodies.length<=1000000)(hf:qmA c.phrases):
 ACall Tryd.prog wz 63 [.agg [.str c.verb, .int .i64 c.line, .int .i64 c.col,pv,bv], .bool closed] h (fun r h'=>r= .bool (qeY Xa c closed)/\Sub h h'):=by
 have hpl:=hp.live;have hps:=hp.scal;have hbl:=hb.live;have hbs:=hb.scal;have hbc:=hb.cells;obtain⟨ql,hql,hqb,hqq⟩:=id hb;rw[hql,Jn]at hbn;have nb:=qfB hqb;have hR:qeY Xa c closed=if c.verb=[73,70]then !decide (firstT c.phrases=[]) && (match c.bodies with|b::_=>decide (b.1=[84,72,69,78])|[]=>false)
  else if c.verb=[69,86,65,76,85,65,84,69]\/c.verb=[83,69,65,82,67,72]then c.bodies.any fun b=>decide (b.1=[87,72,69,78])
  else if c.verb=[80,69,82,70,79,82,77]then decide (UA Xa c.phrases= !decide (c.bodies=[])) && (closed||decide (c.bodies=[]))
  else true:=rfl
 obtain⟨R,hRR⟩:∃R,R=qeY Xa c closed:=⟨_,rfl⟩
 rw[<-hRR]at hR|-
 have hbn0:c.bodies=[]↔ql.length=0:=by rw[hql];simp
 obtain⟨A,hA⟩:∃A,A=c.bodies.any fun b=>decide (b.1=[87,72,69,78]):=⟨_,rfl⟩
 rw[<-hA]at hR;rw[hql]at hA;refine QW (n:=69) (rs:=[.tmp 4]) Tryd.func63 rfl rfl rfl rfl (Vy rfl) ?_;simp only[QV];refine awp_rseq [1,2] (by rfl) fun K hK=>?_;refine qbF (by rfl) (by rfl) (by rfl) fun k0q0 hk0q0=>?_;try have hf_0q0:h k0q0=none:=by first|assumption|(simp only[V7]at hk0q0;simp only[hk0q0])
 skip;simp+decide only[qh,qi,qj,qo,ev,qZ,qW,putD,Vz,VA,VB,Ka,VC,VD,Kb,and_true,↓qV,qP,qN,ne_eq,not_false_eq_true,qO,qJ,VE,setAt,VF,Kj,qC,VG,Kn,Jp,Nat.reduceAdd,qF,qG,qI,qf,qK,qa,qz,qd,qE,qc,qA,qg,qH,qy,allLive,J4,tokV,hpl,hbl,nb];repeat (with_reducible refine And.intro ?_ ?_;· first|trivial|omega|(intro hg;simp only[Ky,JH,Jh,VH,VI,VJ,decide_eq_true_eq,decide_eq_false_iff_not,qU]at hg;omega))
 apply hK;clear hK K;refine awp_rseq [1,2,5] (by rfl) fun K hK=>?_;simp+decide only[qh,qi,qj,qo,ev,qZ,qW,putD,Vz,VA,VB,Ka,VC,VD,Kb,and_true,↓qV,qP,qN,ne_eq,not_false_eq_true,qO,qJ,VE,setAt,VF,Kj,qC,VG,Kn,Jp,Nat.reduceAdd,qF,qG,qI,qf,qK,qa,qz,qd,qE,qc,qA,qg,qH,qy,allLive,J4,tokV,hpl,hbl,nb];repeat (with_reducible refine And.intro ?_ ?_;· first|trivial|omega|(intro hg;simp only[Ky,JH,Jh,VH,VI,VJ,decide_eq_true_eq,decide_eq_false_iff_not,qU]at hg;omega))
 apply hK;clear hK K;refine Qr ?_;refine awp_rseq [1,2,5,9,10,11] (by rfl) fun K hK=>?_;simp+decide only[qh,qi,qj,qo,ev,qZ,qW,putD,Vz,VA,VB,Ka,VC,VD,Kb,and_true,↓Qn,Qd,Ua,↓Qv,QN,Qf qek,↓XG,Xf,Qz Tryd.underlying46,QR Tryd.underlying46,↓qY,qR,qN,ne_eq,not_false_eq_true,qO,qJ,VE,setAt,VF,Kj,qC,VG,Kn,Jp,Nat.reduceAdd,qF,qG,qI,qf,qK,qa,qz,qd,qE,qc,qA,qg,qH,qy,allLive,J4,tokV,hpl,hbl,nb];repeat (with_reducible refine And.intro ?_ ?_;· first|trivial|omega|(intro hg;simp only[Ky,JH,Jh,VH,VI,VJ,decide_eq_true_eq,decide_eq_false_iff_not,qU]at hg;omega))
 apply hK;clear hK K;refine QK ?_;refine XL [1,2,5,9,10,11] (fun g:WhG=>[(1, .bool closed),(2, .ptr (.own k0q0) 0),(5, .bool g.b),(9,bv),(10, .int .i64 ql.length),(11, .int .i64 g.j)]) (fun g:WhG=>g.H) (fun g:WhG=>Sub h g.H/\g.H k0q0=some ⟨[.str c.verb, .int .i64 c.line, .int .i64 c.col,pv,bv],0⟩/\g.j<=ql.length/\A=(g.b||((ql.drop g.j).map (·.1)).any fun b=>decide (b.1=[87,72,69,78]))) (fun g:WhG=>ql.length-g.j) ⟨0,false,_⟩ (by rfl) (Vg _) ⟨zqB,zqA,Jq _,hA⟩ ?_;rintro⟨j,b,H⟩ ⟨hs_H,eb_0q0,hj,hg⟩;simp only at hs_H eb_0q0 hj hg|-
 refine awp_rseq [1,2,5,9,10,11,12] (by rfl) fun K hK=>?_;simp+decide only[qh,qi,qj,qo,ev,qZ,qW,putD,Vz,VA,VB,Ka,VC,VD,Kb,and_true,↓Qh,Qa,QB,cond_false,Qg,Zv,qN,ne_eq,not_false_eq_true,qM wz eb_0q0,qO,qJ,VE,setAt,VF,Kj,qC,VG,Kn,Jp,Nat.reduceAdd,qF,qG,qI,qf,qK,qa,qz,qd,qE,qc,qA,qg,qH,qy,allLive,J4,tokV,hpl,hbl,nb];repeat (with_reducible refine And.intro ?_ ?_;· first|trivial|omega|(intro hg;simp only[Ky,JH,Jh,VH,VI,VJ,decide_eq_true_eq,decide_eq_false_iff_not,qU]at hg;omega))
 apply hK;clear hK K;refine Qr (Qu (b:=_) rfl (fun hb1=>?_) (fun hb1=>?_))
 ·try simp only[decide_eq_true_eq,decide_eq_false_iff_not,Jh,VJ,Ky,VH,JH,VI,VV,VW,reduceCtorEq]at hb1
  have hj':j<ql.length:=by omega
  obtain⟨q,hqe⟩:∃q,q=ql.getD j qew:=⟨_,rfl⟩
  have hqm:q∈ql:=by rw[hqe,Ko,JB hj'];exact Vr hj'
  obtain⟨lc,o,cc,hpe⟩:=qdF hqb (by omega);have hq2:=hqb.mono hs_H;rw[hpe]at hq2;obtain⟨e0,e1,e2⟩:=qga hq2 hj';rw[<-hqe]at e0 e1 e2;obtain⟨hqt,hqs⟩:=hqq q hqm;have hl1:=hqt.live;have hs1:=hqt.scal;have hc1:=hqt.cells;obtain⟨hl2,hs2,hc2⟩:=hqs.shape;have hst:A=(b||decide (q.1.1=[87,72,69,78])||((ql.drop (j+1)).map (·.1)).any fun b=>decide (b.1=[87,72,69,78])):=by
   rw[hg,J9 hj',Ke,BD,<-Bool.or_assoc];have:ql[j]=q:=by rw[hqe,Ko,JB hj'];rfl
   rw[this]
  obtain⟨⟨qw,qt,qL⟩,qtv,qlv⟩:=q;simp only at e0 e1 e2 hl1 hs1 hc1 hl2 hs2 hc2 hst;have hwj:IntKind.i64.wrap ((j:Int)+1)=((j+1:Nat):Int):=by rw[wrap_i64 (by omega) (by omega)];omega
  refine QE ?_;change Awp _ _ _ _ _ _ _;refine Qr ?_;refine QK ?_;refine awp_rseq [1,2,5,7,9,10,11] (by rfl) fun K hK=>?_;simp+decide only[qh,qi,qj,qo,ev,qZ,qW,putD,Vz,VA,VB,Ka,VC,VD,Kb,and_true,↓QU,QN,Ql Tryd.underlying46 qbg,↓Qv,Xm qpm qbg,qN,ne_eq,not_false_eq_true,qM wz eb_0q0,qO,qJ,VE,setAt,VF,Kj,qC,VG,Kn,Jp,Nat.reduceAdd,qF,qG,qI,qf,qK,qa,qz,qd,qE,qc,qA,qg,qH,qy,allLive,J4,tokV,hpl,hbl,nb,hpe,e0,e1,e2,hl1,hl2,VO,VX,K6];repeat (with_reducible refine And.intro ?_ ?_;· first|trivial|omega|(intro hg;simp only[Ky,JH,Jh,VH,VI,VJ,decide_eq_true_eq,decide_eq_false_iff_not,qU]at hg;omega))
  refine XP qmD (cs:=[.str [], .nilSlice, .nilSlice]) (by rfl) fun k4q2 hk4q2=>?_;have hn_4q2:H k4q2=none:=by first|assumption|(simp only[V7]at hk4q2;simp only[hk4q2])
  have hf_4q2:h k4q2=none:=Bh hs_H hn_4q2;have ne_4q2_0q0:k4q2≠k0q0:=BF hn_4q2 eb_0q0;refine QO (by rfl) (by rfl) zqA qbg (by rfl) (by rfl) zqD (Jq _) (by first|rfl|(simp+decide only[ev,putD,Vz,VA,Ka,VE,XN,J4,VO,hs1,hs2,qcT,qcS,qbI])) ?_;simp only[Bi,setAt,VE,VF,Kj,Jp,Nat.reduceAdd];simp+decide only[qh,qi,qj,qo,ev,qZ,qW,putD,Vz,VA,VB,Ka,VC,VD,Kb,and_true,qN,ne_eq,not_false_eq_true,ne_4q2_0q0,ne_4q2_0q0.symm,qM wz eb_0q0,qO,qJ,VE,setAt,VF,Kj,qC,VG,Kn,Jp,Nat.reduceAdd,qF,qG,qI,qf,qK,qa,qz,qd,qE,qc,qA,qg,qH,qy,allLive,J4,tokV,hpl,hbl,nb,hpe,e0,e1,e2,hl1,hl2,VO,VX,K6];repeat (with_reducible refine And.intro ?_ ?_;· first|trivial|omega|(intro hg;simp only[Ky,JH,Jh,VH,VI,VJ,decide_eq_true_eq,decide_eq_false_iff_not,qU]at hg;omega))
  apply hK;clear hK K;refine Zf [1,2,5,9,10,11] (by rfl) ?_;simp+decide only[qh,qi,qj,qo,ev,qZ,qW,putD,Vz,VA,VB,Ka,VC,VD,Kb,and_true,↓qY,qR,↓Zk,Qd,agP,XH,gv,Qw,QJ,QI,QC,Qk,Qi,ZC,implies_true,VK,decide_true,decide_false,VL,VM,Qc,Qb,forall_const,false_implies,Qj,Qe,J4,VN,VO,VP,VQ,VS,VT,VU,qja,XU,XV,Xp,Xr,Xo,↓ZK,QN,Zz,WM,Ya,ZZ,ZY,ZW,ZV,ZU,Qf ag9,ZR,ZT,↓XY,Qa,XE,cond_false,Zh,Zg,Zj,Zi,Xu,Wo,↓XR,Xw,Xb,QM,QL,QG,XC,XB,XA,Xz,Xl,Xy,↓qV,qP,qN,ne_eq,not_false_eq_true,ne_4q2_0q0,ne_4q2_0q0.symm,qM wz eb_0q0,qO,qJ,VE,setAt,VF,Kj,qC,VG,Kn,Jp,Nat.reduceAdd,qF,qG,qI,qf,qK,qa,qz,qd,qE,qc,qA,qg,qH,qy,allLive,J4,tokV,hpl,hbl,nb];repeat (with_reducible refine And.intro ?_ ?_;· first|trivial|omega|(intro hg;simp only[Ky,JH,Jh,VH,VI,VJ,decide_eq_true_eq,decide_eq_false_iff_not,qU]at hg;omega))
  change Awp _ _ _ _ _ _ _;refine Zf [1,2,5,9,10,11] (by rfl) ?_;simp+decide only[qh,qi,qj,qo,ev,qZ,qW,putD,Vz,VA,VB,Ka,VC,VD,Kb,and_true,↓Qh,Qa,Qm,cond_false,Qg,XM,↓qY,qR,qN,ne_eq,not_false_eq_true,ne_4q2_0q0,ne_4q2_0q0.symm,qM wz eb_0q0,qO,qJ,VE,setAt,VF,Kj,qC,VG,Kn,Jp,Nat.reduceAdd,qF,qG,qI,qf,qK,qa,qz,qd,qE,qc,qA,qg,qH,qy,allLive,J4,tokV,hpl,hbl,nb,hwj];try simp(disch:=omega)only[wrap_i64,wrap_u8]
  repeat (with_reducible refine And.intro ?_ ?_;· first|trivial|omega|(intro hg;simp only[Ky,JH,Jh,VH,VI,VJ,decide_eq_true_eq,decide_eq_false_iff_not,qU]at hg;omega))
  try simp only[QH,Qt]
  exact⟨⟨j+1,_,_⟩,by rw[hpe];rfl,Vg _,⟨zqB,zqA,hj',hst⟩,by simp only;omega⟩
 ·try simp only[decide_eq_true_eq,decide_eq_false_iff_not,Jh,VJ,Ky,VH,JH,VI,VV,VW,reduceCtorEq]at hb1
  have hjn:j=ql.length:=by omega
  have hbA:b=A:=by rw[hg,hjn,J8];simp
  clear hg;refine XJ ?_;change Awp _ _ _ _ _ _ _;refine Qr ?_;refine awp_rseq [1,2,5,23] (by rfl) fun K hK=>?_;simp+decide only[qh,qi,qj,qo,ev,qZ,qW,putD,Vz,VA,VB,Ka,VC,VD,Kb,and_true,↓Qn,Qd,qfs,↓Qv,QN,Qf ag9,qN,ne_eq,not_false_eq_true,qM wz eb_0q0,qO,qJ,VE,setAt,VF,Kj,qC,VG,Kn,Jp,Nat.reduceAdd,qF,qG,qI,qf,qK,qa,qz,qd,qE,qc,qA,qg,qH,qy,allLive,J4,tokV,hpl,hbl,nb];repeat (with_reducible refine And.intro ?_ ?_;· first|trivial|omega|(intro hg;simp only[Ky,JH,Jh,VH,VI,VJ,decide_eq_true_eq,decide_eq_false_iff_not,qU]at hg;omega))
  apply hK;clear hK K;refine QK ?_;refine awp_rseq [1,2,5,23,24] (by rfl) fun K hK=>?_;simp+decide only[qh,qi,qj,qo,ev,qZ,qW,putD,Vz,VA,VB,Ka,VC,VD,Kb,and_true,↓Qh,Qa,XE,cond_false,Xu,Wo,↓qV,qP,qN,ne_eq,not_false_eq_true,qM wz eb_0q0,qO,qJ,VE,setAt,VF,Kj,qC,VG,Kn,Jp,Nat.reduceAdd,qF,qG,qI,qf,qK,qa,qz,qd,qE,qc,qA,qg,qH,qy,allLive,J4,tokV,hpl,hbl,nb];repeat (with_reducible refine And.intro ?_ ?_;· first|trivial|omega|(intro hg;simp only[Ky,JH,Jh,VH,VI,VJ,decide_eq_true_eq,decide_eq_false_iff_not,qU]at hg;omega))
  apply hK;clear hK K;refine Qu (b:=_) rfl (fun hb2=>?_) (fun hb2=>?_)
  ·try simp only[decide_eq_true_eq,decide_eq_false_iff_not,Jh,VJ,Ky,VH,JH,VI,VV,VW,reduceCtorEq]at hb2
   rw[if_pos hb2]at hR;obtain⟨qs,hqe,hq,hqt⟩:=id hp;have hqn:0<qs.length:=by
    rcases BC qs.length with z|z
    ·exfalso;apply hf.1;rw[hqe,Kg z];rfl
    ·exact z
   obtain⟨q,hq0⟩:∃q,q=qs.getD 0 qhP:=⟨_,rfl⟩
   have hqm:q∈qs:=by rw[hq0,Ko,JB hqn];exact Vr hqn
   have hft:firstT c.phrases=q.1.toks:=by
    unfold firstT;rw[hqe,hq0];simp[Ko,hqn]
   have hqv:=hqt q hqm;have hqvl:=hqv.live;have nq:=YU hqv;rw[hft]at hR;obtain⟨lc,o,cc,hpe⟩:=qgn hq hqn;have hq2:=hq.mono hs_H;rw[hpe]at hq2;obtain⟨-,e1⟩:=qib hq2 hqn;rw[K7,K6,<-hq0]at e1;have hpos:((0:Int)<qs.length)=True:=eq_true (by omega);have mcase:(∃(lb:AM.Loc) (ob:Nat) (cb:Cap),bv=bv/\decide ((0:Int)<q.1.toks.length)=false/\True/\True/\True/\R=false)\/
    (∃(lb:AM.Loc) (ob:Nat) (cb:Cap),bv=bv/\decide ((0:Int)<q.1.toks.length)=true/\decide ((0:Int)<ql.length)=false/\True/\True/\R=false)\/
    (∃(lb:AM.Loc) (ob:Nat) (cb:Cap),bv= .slice lb ob ql.length cb/\decide ((0:Int)<q.1.toks.length)=true/\decide ((0:Int)<ql.length)=true/\((0:Int)<ql.length)=True/\rd wz H lb ob= .str (ql.getD 0 qew).1.1/\R=decide ((ql.getD 0 qew).1.1=[84,72,69,78])):=by
    by_cases z1:q.1.toks=[]
    ·exact .inl ⟨.base 0,0, .exact 0,rfl,by rw[z1];rfl,trivial,trivial,trivial,by rw[hR,decide_eq_true z1];rfl⟩
    ·have z1':decide ((0:Int)<q.1.toks.length)=true:=by
      rw[decide_eq_true_eq];have:=V5.2 z1;omega
     rw[decide_eq_false z1]at hR;by_cases z2:ql.length=0
     ·refine .inr (.inl ⟨.base 0,0, .exact 0,rfl,z1',by rw[z2];rfl,trivial,trivial,?_⟩)
      rw[hR,hbn0.2 z2];rfl
     ·obtain⟨lb,ob,cb,hbe⟩:=qdF hqb (by omega)
      have hb2:=hqb.mono hs_H;rw[hbe]at hb2;obtain⟨e3,-,-⟩:=qga hb2 (i:=0) (by omega);rw[K7,K6]at e3;refine .inr (.inr ⟨lb,ob,cb,hbe,z1',by rw[decide_eq_true_eq];omega,eq_true (by omega),e3,?_⟩);rw[hR,hql];cases ql with
      |nil=>exact absurd rfl z2
      |cons x xs=>rfl
   refine awp_rseq [4] (by rfl) fun K hK=>?_;suffices hM:∀g:Bool,g=R->K [(4, .bool g)] (H) by
    rcases mcase with⟨lb,ob,cb,hbe,hT,hB,hp2,e3,hfin⟩|⟨lb,ob,cb,hbe,hT,hB,hp2,e3,hfin⟩|⟨lb,ob,cb,hbe,hT,hB,hp2,e3,hfin⟩<;>(
     simp+decide only[qh,qi,qj,qo,ev,qZ,qW,putD,Vz,VA,VB,Ka,VC,VD,Kb,and_true,↓Qn,Qd,qaD,↓Qv,QN,Qf qhw,↓QU,Ql Tryd.underlying45 qcn,qdg,Qf qbV,↓XG,Xf,Qz Tryd.underlying31,QR Tryd.underlying31,↓Qh,Qa,Qm,cond_false,Qg,Uu,↓qY,qR,↓Zk,agP,XH,gv,Qw,QJ,QI,QC,Qk,Qi,ZC,implies_true,VK,decide_true,decide_false,VL,VM,Qc,Qb,forall_const,false_implies,Qj,Qe,J4,VN,VO,VP,VQ,VS,VT,VU,Ua,XU,XV,Xp,Xr,Xo,↓ZK,Zz,WM,Ya,ZZ,ZY,ZW,ZV,ZU,Qf qek,ZR,ZT,↓qej,Qz Tryd.underlying46,QR Tryd.underlying46,qee,qef,↓XY,Zh,Zg,Zj,Zi,↓XR,Xw,Xb,QM,QL,QG,XC,XB,XA,Xz,Xl,Xy,↓Yn,UM,UL,UK,UJ,UI,UH,UC,UB,UG,UF,UE,UD,Ql Tryd.underlying46 qbg,YY,YW,Wd,YZ,qja,Qf ag9,XE,Xu,Wo,↓qV,qP,qN,ne_eq,not_false_eq_true,qM wz eb_0q0,qO,qJ,VE,setAt,VF,Kj,qC,VG,Kn,Jp,Nat.reduceAdd,qF,qG,qI,qf,qK,qa,qz,qd,qE,qc,qA,qg,qH,qy,allLive,J4,tokV,hpl,hbl,nb,hpe,hpos,e1,nq,hqvl,hbe,hT,hB,hp2,e3,qal,Qb,Qc,VP,VO,Bt,K7,K6];repeat (with_reducible refine And.intro ?_ ?_;· first|trivial|omega|(intro hg;simp only[Ky,JH,Jh,VH,VI,VJ,decide_eq_true_eq,decide_eq_false_iff_not,qU]at hg;omega))
     exact hM _ hfin.symm)
   intro g hb_9;apply hK;clear hK K;refine Xe ?_;try simp only[QD,Qo]
   refine XD (Qs (Qy)) ?_;simp+decide only[qh,qi,qj,qo,ev,qZ,qW,putD,Vz,VA,VB,Ka,VC,VD,Kb,and_true,Xd,qN,ne_eq,not_false_eq_true,qM wz eb_0q0,qO,qJ,VE,setAt,VF,Kj,qC,VG,Kn,Jp,Nat.reduceAdd,qF,qG,qI,qf,qK,qa,qz,qd,qE,qc,qA,qg,qH,qy,allLive,J4,tokV,hpl,hbl,nb];rw[<-hb_9];exact⟨h,by assumption,rfl,Vg _⟩
  ·try simp only[decide_eq_true_eq,decide_eq_false_iff_not,Jh,VJ,Ky,VH,JH,VI,VV,VW,reduceCtorEq]at hb2
   rw[if_neg hb2]at hR;refine Qr ?_;refine awp_rseq [1,2,5,23,47] (by rfl) fun K hK=>?_;simp+decide only[qh,qi,qj,qo,ev,qZ,qW,putD,Vz,VA,VB,Ka,VC,VD,Kb,and_true,↓Qh,Qa,XE,cond_false,Xu,Wo,↓qV,qP,qN,ne_eq,not_false_eq_true,qM wz eb_0q0,qO,qJ,VE,setAt,VF,Kj,qC,VG,Kn,Jp,Nat.reduceAdd,qF,qG,qI,qf,qK,qa,qz,qd,qE,qc,qA,qg,qH,qy,allLive,J4,tokV,hpl,hbl,nb];repeat (with_reducible refine And.intro ?_ ?_;· first|trivial|omega|(intro hg;simp only[Ky,JH,Jh,VH,VI,VJ,decide_eq_true_eq,decide_eq_false_iff_not,qU]at hg;omega))
   apply hK;clear hK K;refine Qu (b:=_) rfl (fun hb3=>?_) (fun hb3=>?_)
   ·try simp only[decide_eq_true_eq,decide_eq_false_iff_not,Jh,VJ,Ky,VH,JH,VI,VV,VW,reduceCtorEq]at hb3
    refine QE ?_;change Awp _ _ _ _ _ _ _;refine Qu (b:=_) rfl (fun hb4=>?_) (fun hb4=>?_)
    ·try simp only[decide_eq_true_eq,decide_eq_false_iff_not,Jh,VJ,Ky,VH,JH,VI,VV,VW,reduceCtorEq]at hb4
     rw[if_pos (.inl hb3)]at hR;refine awp_rseq [4] (by rfl) fun K hK=>?_;simp+decide only[qh,qi,qj,qo,ev,qZ,qW,putD,Vz,VA,VB,Ka,VC,VD,Kb,and_true,↓qY,qR,↓qV,qP,qN,ne_eq,not_false_eq_true,qM wz eb_0q0,qO,qJ,VE,setAt,VF,Kj,qC,VG,Kn,Jp,Nat.reduceAdd,qF,qG,qI,qf,qK,qa,qz,qd,qE,qc,qA,qg,qH,qy,allLive,J4,tokV,hpl,hbl,nb];repeat (with_reducible refine And.intro ?_ ?_;· first|trivial|omega|(intro hg;simp only[Ky,JH,Jh,VH,VI,VJ,decide_eq_true_eq,decide_eq_false_iff_not,qU]at hg;omega))
     apply hK;clear hK K;refine Xe ?_;try simp only[QD,Qo]
     refine XD (Qs (Qy)) ?_;simp+decide only[qh,qi,qj,qo,ev,qZ,qW,putD,Vz,VA,VB,Ka,VC,VD,Kb,and_true,Xd,qN,ne_eq,not_false_eq_true,qM wz eb_0q0,qO,qJ,VE,setAt,VF,Kj,qC,VG,Kn,Jp,Nat.reduceAdd,qF,qG,qI,qf,qK,qa,qz,qd,qE,qc,qA,qg,qH,qy,allLive,J4,tokV,hpl,hbl,nb];exact⟨h,by assumption,by rw[hR,hbA],Vg _⟩
    ·exact absurd hb3 (of_decide_eq_false hb4)
   ·try simp only[decide_eq_true_eq,decide_eq_false_iff_not,Jh,VJ,Ky,VH,JH,VI,VV,VW,reduceCtorEq]at hb3
    refine Zf [1,2,5,23,47] (by rfl) ?_;simp+decide only[qh,qi,qj,qo,ev,qZ,qW,putD,Vz,VA,VB,Ka,VC,VD,Kb,and_true,↓Qh,Qa,XE,cond_false,Xu,Wo,↓qV,qP,qN,ne_eq,not_false_eq_true,qM wz eb_0q0,qO,qJ,VE,setAt,VF,Kj,qC,VG,Kn,Jp,Nat.reduceAdd,qF,qG,qI,qf,qK,qa,qz,qd,qE,qc,qA,qg,qH,qy,allLive,J4,tokV,hpl,hbl,nb];repeat (with_reducible refine And.intro ?_ ?_;· first|trivial|omega|(intro hg;simp only[Ky,JH,Jh,VH,VI,VJ,decide_eq_true_eq,decide_eq_false_iff_not,qU]at hg;omega))
    change Awp _ _ _ _ _ _ _;refine Qu (b:=_) rfl (fun hb6=>?_) (fun hb6=>?_)
    ·try simp only[decide_eq_true_eq,decide_eq_false_iff_not,Jh,VJ,Ky,VH,JH,VI,VV,VW,reduceCtorEq]at hb6
     rw[if_pos (.inr hb6)]at hR;refine awp_rseq [4] (by rfl) fun K hK=>?_;simp+decide only[qh,qi,qj,qo,ev,qZ,qW,putD,Vz,VA,VB,Ka,VC,VD,Kb,and_true,↓qY,qR,↓qV,qP,qN,ne_eq,not_false_eq_true,qM wz eb_0q0,qO,qJ,VE,setAt,VF,Kj,qC,VG,Kn,Jp,Nat.reduceAdd,qF,qG,qI,qf,qK,qa,qz,qd,qE,qc,qA,qg,qH,qy,allLive,J4,tokV,hpl,hbl,nb];repeat (with_reducible refine And.intro ?_ ?_;· first|trivial|omega|(intro hg;simp only[Ky,JH,Jh,VH,VI,VJ,decide_eq_true_eq,decide_eq_false_iff_not,qU]at hg;omega))
     apply hK;clear hK K;refine Xe ?_;try simp only[QD,Qo]
     refine XD (Qs (Qy)) ?_;simp+decide only[qh,qi,qj,qo,ev,qZ,qW,putD,Vz,VA,VB,Ka,VC,VD,Kb,and_true,Xd,qN,ne_eq,not_false_eq_true,qM wz eb_0q0,qO,qJ,VE,setAt,VF,Kj,qC,VG,Kn,Jp,Nat.reduceAdd,qF,qG,qI,qf,qK,qa,qz,qd,qE,qc,qA,qg,qH,qy,allLive,J4,tokV,hpl,hbl,nb];exact⟨h,by assumption,by rw[hR,hbA],Vg _⟩
    ·try simp only[decide_eq_true_eq,decide_eq_false_iff_not,Jh,VJ,Ky,VH,JH,VI,VV,VW,reduceCtorEq]at hb6
     rw[if_neg (by
      rintro(z|z)
      ·exact hb3 z
      ·exact hb6 z)]at hR
     refine awp_rseq [1,2,51] (by rfl) fun K hK=>?_;simp+decide only[qh,qi,qj,qo,ev,qZ,qW,putD,Vz,VA,VB,Ka,VC,VD,Kb,and_true,↓Qh,Qa,XE,cond_false,Xu,Wo,↓qV,qP,qN,ne_eq,not_false_eq_true,qM wz eb_0q0,qO,qJ,VE,setAt,VF,Kj,qC,VG,Kn,Jp,Nat.reduceAdd,qF,qG,qI,qf,qK,qa,qz,qd,qE,qc,qA,qg,qH,qy,allLive,J4,tokV,hpl,hbl,nb];repeat (with_reducible refine And.intro ?_ ?_;· first|trivial|omega|(intro hg;simp only[Ky,JH,Jh,VH,VI,VJ,decide_eq_true_eq,decide_eq_false_iff_not,qU]at hg;omega))
     apply hK;clear hK K;refine Qu (b:=_) rfl (fun hb7=>?_) (fun hb7=>?_)
     ·try simp only[decide_eq_true_eq,decide_eq_false_iff_not,Jh,VJ,Ky,VH,JH,VI,VV,VW,reduceCtorEq]at hb7
      rw[if_pos hb7]at hR;refine qlI [0,2,3,4,5,1,6,7,8,9,10,11,12,13,14,15,16] [none,none,none,none,none,none,some 5,some 6,some 7,some 8,some 9,some 10,some 11,some 12,some 9,some 7,some 15] 17 [4] mixed (by kernel_rfl) (by rfl) fun K hK=>?_;simp only[Wu,List.filterMap_cons,List.filterMap_nil,List.getElem?_cons_zero,List.getElem?_cons_succ];simp+decide only[qh,qi,qj,qo,ev,qZ,qW,putD,Vz,VA,VB,Ka,VC,VD,Kb,and_true,qdy,qfk,qde,Yz,↓Qv,QN,Xm qhv Uw,↓Qn,Qd,Ua,Qf qek,↓XG,Xf,Qz Tryd.underlying46,QR Tryd.underlying46,↓Qh,Qa,Qm,cond_false,Qg,Uu,qN,ne_eq,not_false_eq_true,qM wz eb_0q0,qO,qJ,VE,setAt,VF,Kj,qC,VG,Kn,Jp,Nat.reduceAdd,qF,qG,qI,qf,qK,qa,qz,qd,qE,qc,qA,qg,qH,qy,allLive,J4,tokV,hpl,hbl,nb];repeat (with_reducible refine And.intro ?_ ?_;· first|trivial|omega|(intro hg;simp only[Ky,JH,Jh,VH,VI,VJ,decide_eq_true_eq,decide_eq_false_iff_not,qU]at hg;omega))
      refine QT (by rfl) (by rfl) (qkt wz ha _ c.verb c.line c.col pv bv c.phrases (hp.mono zqB) hbl hbs hbc hf) fun x14q1 h14q1 hx14q1=>?_;obtain⟨rfl,hs14⟩:=hx14q1;have hs_h14q1:Sub h h14q1:=Bq zqC hs14;have hr_h14q1:Sub H h14q1:=Bq zqC hs14;have eb_0q0:=hs14 k0q0 _ zqA;rw[qh];refine And.intro (by first|exact Vg _|assumption|exact V8 (by assumption)) ?_;simp+decide only[qh,qi,qj,qo,ev,qZ,qW,putD,Vz,VA,VB,Ka,VC,VD,Kb,and_true,qdy,qfk,qde,Yz,↓Qh,Qa,QB,cond_false,qna,Tryd.underlying4,↓qY,qR,↓Zy,agP,XH,gv,Qw,QJ,QI,QC,Qk,Qi,ZC,implies_true,VK,decide_true,decide_false,VL,VM,Qc,Qb,forall_const,false_implies,Qj,Qe,J4,VN,VO,VP,VQ,VS,VT,VU,Xp,Xr,Xo,↓Zk,Qd,Ua,XU,XV,↓ZK,QN,Zz,WM,Ya,ZZ,ZY,ZW,ZV,ZU,Qf qek,ZR,ZT,↓qej,Xf,Qz Tryd.underlying46,QR Tryd.underlying46,qee,qef,↓XY,Qm,Zh,Zg,Zj,Zi,Qg,Yu,↓qeT,Xw,Xb,QM,QL,QG,XC,XB,XA,Xz,Xl,Xy,qeJ,qeK,↓XR,↓qV,qP,qN,ne_eq,not_false_eq_true,qM wz eb_0q0,qO,qJ,VE,setAt,VF,Kj,qC,VG,Kn,Jp,Nat.reduceAdd,qF,qG,qI,qf,qK,qa,qz,qd,qE,qc,qA,qg,qH,qy,allLive,J4,tokV,hpl,hbl,nb];repeat (with_reducible refine And.intro ?_ ?_;· first|trivial|omega|(intro hg;simp only[Ky,JH,Jh,VH,VI,VJ,decide_eq_true_eq,decide_eq_false_iff_not,qU]at hg;omega))
      apply hK;clear hK K;refine Xe ?_;try simp only[QD,Qo]
      refine XD (Qs (Qy)) ?_;simp+decide only[qh,qi,qj,qo,ev,qZ,qW,putD,Vz,VA,VB,Ka,VC,VD,Kb,and_true,Xd,qN,ne_eq,not_false_eq_true,qM wz eb_0q0,qO,qJ,VE,setAt,VF,Kj,qC,VG,Kn,Jp,Nat.reduceAdd,qF,qG,qI,qf,qK,qa,qz,qd,qE,qc,qA,qg,qH,qy,allLive,J4,tokV,hpl,hbl,nb];refine⟨h,by assumption,?_,Vg _⟩;rw[hR];congr 1;by_cases z:ql.length=0
      ·rw[hbn0.2 z,z]
       cases UA Xa c.phrases<;>cases closed<;>rfl
      ·have z2:c.bodies≠[]:=fun e=>z (hbn0.1 e)
       have z3:decide ((0:Int)<ql.length)=true:=by rw[decide_eq_true_eq];omega
       have z4:decide ((ql.length:Int)=0)=false:=by rw[decide_eq_false_iff_not];omega
       rw[z3,z4,decide_eq_false z2];cases UA Xa c.phrases<;>cases closed<;>rfl
     ·try simp only[decide_eq_true_eq,decide_eq_false_iff_not,Jh,VJ,Ky,VH,JH,VI,VV,VW,reduceCtorEq]at hb7
      rw[if_neg hb7]at hR;refine QE ?_;change Awp _ _ _ _ _ _ _;refine awp_rseq [4] (by rfl) fun K hK=>?_;simp+decide only[qh,qi,qj,qo,ev,qZ,qW,putD,Vz,VA,VB,Ka,VC,VD,Kb,and_true,↓qV,qP,qN,ne_eq,not_false_eq_true,qM wz eb_0q0,qO,qJ,VE,setAt,VF,Kj,qC,VG,Kn,Jp,Nat.reduceAdd,qF,qG,qI,qf,qK,qa,qz,qd,qE,qc,qA,qg,qH,qy,allLive,J4,tokV,hpl,hbl,nb];repeat (with_reducible refine And.intro ?_ ?_;· first|trivial|omega|(intro hg;simp only[Ky,JH,Jh,VH,VI,VJ,decide_eq_true_eq,decide_eq_false_iff_not,qU]at hg;omega))
      apply hK;clear hK K;refine Xe ?_;try simp only[QD,Qo]
      refine XD (Qs (Qy)) ?_;simp+decide only[qh,qi,qj,qo,ev,qZ,qW,putD,Vz,VA,VB,Ka,VC,VD,Kb,and_true,Xd,qN,ne_eq,not_false_eq_true,qM wz eb_0q0,qO,qJ,VE,setAt,VF,Kj,qC,VG,Kn,Jp,Nat.reduceAdd,qF,qG,qI,qf,qK,qa,qz,qd,qE,qc,qA,qg,qH,qy,allLive,J4,tokV,hpl,hbl,nb];exact⟨h,by assumption,by rw[hR],Vg _⟩
abbrev curB(c:Cur)(pv bv:AVal):Blk:=⟨[.str c.verb, .int .i64 c.line, .int .i64 c.col,pv,bv],0⟩
abbrev parB3(v:AVal)(i:Nat)(ov:AVal):Blk:=⟨[v, .int .i64 i,ov],0⟩
structure CurS(wz:World)(d:Nat)(c:Cur)(pv bv:AVal)(pp tp bp E:AHeap):Prop where
 ph:∃(qs:List (PhrC×AVal)) (w:Str) (ts:List TokC) (tv:AVal),c.phrases=qs.map (·.1)++[⟨w,ts⟩]/\GrowV 2 pv pp (qs.map phC++[[.str w,tv]])/\GrowV 5 tv tp (ts.map Zt)/\∀q∈qs,IsL wz E 5 q.2 (q.1.toks.map Zt)
 bd:∃bs:List (BodC×AVal×AVal),c.bodies=bs.map (·.1)/\GrowV 3 bv bp (bs.map bdC)/\∀b∈bs,IsL wz E 5 b.2.1 (b.1.2.1.map Zt)/\StsV wz d E b.2.2 b.1.2.2
def Few(c:Cur)(i:Nat):Prop:=c.phrases.length<=i/\(∀p∈c.phrases,p.toks.length<=i)/\c.bodies.length<=i
theorem CurS.bv_len{wz:World}{d:Nat}{c:Cur}{pv bv:AVal}{pp tp bp E:AHeap}(hc:CurS wz d c pv bv pp tp bp E):bv.live=true/\bv.scal=true/\bv.cells=[bv]/\∀H:AHeap,YG Tryd.prog H 46 bv=⟨True, .int .i64 c.bodies.length⟩:=by
 obtain⟨bs,e,g,-⟩:=hc.bd;refine⟨g.live,g.scal,g.cells,fun H=>?_⟩;rw[qfB (wz:=wz) (g.isL (Vg _)),e,Jn]
theorem CurS.pv_ok{wz:World}{d:Nat}{c:Cur}{pv bv:AVal}{pp tp bp E:AHeap}(hc:CurS wz d c pv bv pp tp bp E):pv.live=true/\pv.scal=true/\pv.cells=[pv]:=by
 obtain⟨qs,w,ts,tv,_,g,_⟩:=hc.ph;exact⟨g.live,g.scal,g.cells⟩
theorem qoP(wz:World)(h B:AHeap)(kp ks:Nat)(v ov bv pv:AVal)(op pp tp bp E:AHeap)(c:Cur)(d i:Nat)(l:List TokC)(forms:Str)(hS:Sep [B,one kp (parB3 v i ov),op,one ks (curB c pv bv),pp,tp,bp,E] h)(hv:IsL wz B 5 v (l.map Zt))(hc:CurS wz d c pv bv pp tp bp E)
 (hl:l.length<=1000000) (hi:i<=l.length) (hb:c.bodies≠[]):APanic Tryd.prog wz 62 [.ptr (.own kp) 0, .ptr (.own ks) 0, .str forms] h (qpw h (qan l 4 i)):=by
 have eb_p:h kp=some _:=hS.at_ (i:=1) rfl;have eb_s:h ks=some _:=hS.at_ (i:=3) rfl;have ne_p_s:kp≠ks:=hS.ne (i:=1) (j:=3) rfl rfl (by decide);have hs_h:Sub B h:=hS.in_ (i:=0) rfl;have hlv:=hv.live;obtain⟨hbl,-,-,nb⟩:=hc.bv_len;have hn:=V5.2 hb;refine qas (k:=82) (rs:=[]) Tryd.func62 rfl rfl rfl rfl (Vy rfl) ?_;simp only[QV];refine Qr ?_;refine awp_rseq [0,1,2,14] (by rfl) fun K hK=>?_;simp+decide only[qh,qi,qj,qo,ev,qZ,qW,putD,Vz,VA,VB,Ka,VC,VD,Kb,and_true,↓qY,qR,↓Xn,QS,XF,Xt,↓Qn,Qd,Ua,↓Qv,QN,Qf qek,↓XG,Xf,Qz Tryd.underlying46,QR Tryd.underlying46,↓Qh,Qa,Qm,cond_false,Qg,Uu,qN,ne_eq,not_false_eq_true,qM wz eb_p,qM wz eb_s,ne_p_s,ne_p_s.symm,qO,qJ,VE,setAt,VF,Kj,qC,VG,Kn,Jp,Nat.reduceAdd,qF,qG,qI,qf,qK,qa,qz,qd,qE,qc,qA,qg,qH,qy,allLive,J4,tokV,posV,faultV,hlv,hbl,nb];repeat (with_reducible refine And.intro ?_ ?_;· first|trivial|omega|(intro hg;simp only[Ky,JH,Jh,VH,VI,VJ,decide_eq_true_eq,decide_eq_false_iff_not,qU]at hg;omega))
 apply hK;clear hK K;refine Qu (b:=_) rfl (fun hb1=>?_) (fun hb1=>?_)
 ·try simp only[decide_eq_true_eq,decide_eq_false_iff_not,Jh,VJ,Ky,VH,JH,VI,VV,VW,reduceCtorEq]at hb1
  refine YD 5 (by rfl) (by rfl) ?_;simp only[Ki,Bj];simp+decide only[qh,qi,qj,qo,ev,qZ,qW,putD,Vz,VA,VB,Ka,VC,VD,Kb,and_true,↓qY,qR,↓Xn,QS,XF,Xt,↓Qn,Qd,YR,↓Qv,QN,Qf ag3,qN,ne_eq,not_false_eq_true,qM wz eb_p,qM wz eb_s,ne_p_s,ne_p_s.symm,qO,qJ,VE,setAt,VF,Kj,qC,VG,Kn,Jp,Nat.reduceAdd,qF,qG,qI,qf,qK,qa,qz,qd,qE,qc,qA,qg,qH,qy,allLive,J4,tokV,posV,faultV,hlv,hbl,nb];repeat (with_reducible refine And.intro ?_ ?_;· first|trivial|omega|(intro hg;simp only[Ky,JH,Jh,VH,VI,VJ,decide_eq_true_eq,decide_eq_false_iff_not,qU]at hg;omega))
  refine⟨⟨_,_,by rfl,?_⟩,by intro i;first|trivial|exact .inr trivial|exact .inr rfl⟩;exact qcG wz _ B kp v ov l i 4 i zqA zqB hv hl (by omega)
 ·have:=of_decide_eq_false hb1;omega
theorem qkP(F:List AVal)(w tv u:AVal)(n:Nat)(hn:F.length=n*2):setAt (F++[w,tv]) (n*2+1) [u]=F++[w,u]:=by
 simp only[setAt];rw[List.set_append_right _ _ (by omega),show n*2+1-F.length=1 by omega];rfl
theorem qeo(qs:List (PhrC×AVal)):(qs.map phC).flatten.length=qs.length*2:=by rw[Zm qcV,Jn]
theorem qds{l:List TokC}{c:Cur}{forms:Str}{i:Nat}(hb:c.bodies=[]):qbs l c forms i=if (Xv l i forms).2=0 then .ok {c with phrases:=qnz c.phrases (l.getD i noT)} (i+1)
 else if (Xv l i forms).1≠[]then .ok {c with phrases:=c.phrases++[⟨(Xv l i forms).1,[]⟩]} (i+(Xv l i forms).2)
 else .ok c (i+(Xv l i forms).2):=by
 unfold qbs;rw[if_neg (by rw[hb];simp)]
theorem qny(ps:List PhrC)(w:Str)(ts:List TokC)(t:TokC):qnz (ps++[⟨w,ts⟩]) t=ps++[⟨w,ts++[t]⟩]:=by simp[qnz]
theorem qik{qs:List (PhrC×AVal)}{w:Str}{tv pv:AVal}{pp:AHeap}(hg:GrowV 2 pv pp (qs.map phC++[[.str w,tv]])):∃kh ch,pv= .slice (.own kh) 0 (qs.length+1) ch/\(ch= .exact (qs.length+1)\/ch= .grow 2)/\pp=one kh ⟨(qs.map phC).flatten++[.str w,tv],0⟩:=by
 rcases hg with⟨_,_,e⟩|⟨k,c,e1,e2,e3,_,_⟩
 ·simp at e
 ·rw[Jb,Jn,JF]at e1 e2
  exact⟨k,c,e1,e2,by rw[e3];simp⟩
theorem qkd{qs:List (PhrC×AVal)}{w:Str}{tv pv u:AVal}{pp:AHeap}{kh:Nat}{ch:Cap}(hg:GrowV 2 pv pp (qs.map phC++[[.str w,tv]]))(hpv:pv= .slice (.own kh) 0 (qs.length+1) ch)(hch:ch= .exact (qs.length+1)\/ch= .grow 2)(hu:u.live=true):
 GrowV 2 pv (one kh ⟨(qs.map phC).flatten++[.str w,u],0⟩) (qs.map phC++[[.str w,u]]):=by
 have hl:allLive (qs.map phC++[[AVal.str w,tv]]).flatten=true:=by
  rcases hg with⟨_,_,e⟩|⟨_,_,_,_,_,_,hl⟩
  ·simp at e
  ·exact hl
 rw[Bo,Yy,Ky]at hl;subst hpv;refine GrowV.new (by rw[Jb,Jn,JF]) hch (fun x hx=>?_) ?_ (by simp)
 ·rcases JS.1 hx with h|h
  ·exact qcV x h
  ·rw[V4.1 h];rfl
 ·rw[Bo,Yy,hl.1]
  show(true && (true && (u.live && true)))=true
  rw[hu];rfl
theorem qou(qs:List (PhrC×AVal))(w:Str)(tv:AVal):((qs.map phC).flatten++[AVal.str w,tv]).getD (qs.length*2+1) .dead=tv:=by
 rw[Ko,List.getElem?_append_right (by rw[qeo];omega),qeo,show qs.length*2+1-qs.length*2=1 by omega];rfl
set_option maxHeartbeats 4000000 in
theorem qro(wz:World)(ha:Asp wz)(h B:AHeap)(kp ks:Nat)(v ov bv pv:AVal)(op pp tp bp E:AHeap)(c c':Cur)(d i j:Nat)(l:List TokC)(forms:Str)(hS:Sep [B,one kp (parB3 v i ov),op,one ks (curB c pv bv),pp,tp,bp,E] h)(hv:IsL wz B 5 v (l.map Zt))(hc:CurS wz d c pv bv pp tp bp E)
 (hl:l.length<=1000000) (hi:i<l.length) (hb:c.bodies=[]) (hf:forms.length<=1000000) (hfa:asciiB forms=true) (hok:qbs l c forms i= .ok c' j) (hfew:Few c i) (hov:ov.live=true):
 ACall Tryd.prog wz 62 [.ptr (.own kp) 0, .ptr (.own ks) 0, .str forms] h (fun r h'=>r= .tuple []/\∃pv' pp' tp' E',CurS wz d c' pv' bv pp' tp' bp E'/\Sep [B,one kp (parB3 v j ov),op,one ks (curB c' pv' bv),pp',tp',bp,E'] h'):=by
 have eb_p:h kp=some _:=hS.at_ (i:=1) rfl;have eb_s:h ks=some _:=hS.at_ (i:=3) rfl;have ne_p_s:kp≠ks:=hS.ne (i:=1) (j:=3) rfl rfl (by decide);have hs_h:Sub B h:=hS.in_ (i:=0) rfl;have hlv:=hv.live;obtain⟨hbl,hbs,hbc,nb⟩:=hc.bv_len;rw[qds hb]at hok;have hst:=qdU l i forms (by omega);obtain⟨S,hS0⟩:∃S,S=Xv l i forms:=⟨_,rfl⟩
 rw[<-hS0]at hok hst;obtain⟨hf1,hf2,hf3⟩:=hfew;refine QW (n:=82) (rs:=[]) Tryd.func62 rfl rfl rfl rfl (Vy rfl) ?_;simp only[QV];refine Qr ?_;refine awp_rseq [0,1,2,14] (by rfl) fun K hK=>?_;simp+decide only[qh,qi,qj,qo,ev,qZ,qW,putD,Vz,VA,VB,Ka,VC,VD,Kb,and_true,↓qY,qR,↓Xn,QS,XF,Xt,↓Qn,Qd,Ua,↓Qv,QN,Qf qek,↓XG,Xf,Qz Tryd.underlying46,QR Tryd.underlying46,↓Qh,Qa,Qm,cond_false,Qg,Uu,qN,ne_eq,not_false_eq_true,qM wz eb_p,qM wz eb_s,ne_p_s,ne_p_s.symm,qO,qJ,VE,setAt,VF,Kj,qC,VG,Kn,Jp,Nat.reduceAdd,qF,qG,qI,qf,qK,qa,qz,qd,qE,qc,qA,qg,qH,qy,allLive,J4,tokV,posV,faultV,hlv,hbl,nb,hov];repeat (with_reducible refine And.intro ?_ ?_;· first|trivial|omega|(intro hg;simp only[Ky,JH,Jh,VH,VI,VJ,decide_eq_true_eq,decide_eq_false_iff_not,qU]at hg;omega))
 apply hK;clear hK K;refine Qu (b:=_) rfl (fun hb1=>?_) (fun hb1=>?_)
 ·rw[hb]at hb1;cases hb1
 ·try simp only[decide_eq_true_eq,decide_eq_false_iff_not,Jh,VJ,Ky,VH,JH,VI,VV,VW,reduceCtorEq]at hb1
  refine QE ?_;change Awp _ _ _ _ _ _ _;refine awp_rseq [0,1,6,7] (by rfl) fun K hK=>?_;simp+decide only[qh,qi,qj,qo,ev,qZ,qW,putD,Vz,VA,VB,Ka,VC,VD,Kb,and_true,↓qY,qR,qN,ne_eq,not_false_eq_true,qM wz eb_p,qM wz eb_s,ne_p_s,ne_p_s.symm,qO,qJ,VE,setAt,VF,Kj,qC,VG,Kn,Jp,Nat.reduceAdd,qF,qG,qI,qf,qK,qa,qz,qd,qE,qc,qA,qg,qH,qy,allLive,J4,tokV,posV,faultV,hlv,hbl,nb,hov];repeat (with_reducible refine And.intro ?_ ?_;· first|trivial|omega|(intro hg;simp only[Ky,JH,Jh,VH,VI,VJ,decide_eq_true_eq,decide_eq_false_iff_not,qU]at hg;omega))
  refine Xk (V:= .tuple [.str S.1, .int .i64 S.2]) (by rfl) (by rfl) (by rw[hS0];exact qdi wz ha _ (.own kp) 0 v l i forms (qM wz eb_p 0) (qM wz eb_p 1) (hv.mono zqB) hl (by omega) hf hfa) ?_;simp+decide only[qh,qi,qj,qo,ev,qZ,qW,putD,Vz,VA,VB,Ka,VC,VD,Kb,and_true,↓qY,qR,↓XW,XK,Zd,KX,JD,VG,Kn,↓qV,qP,qN,ne_eq,not_false_eq_true,qM wz eb_p,qM wz eb_s,ne_p_s,ne_p_s.symm,qO,qJ,VE,setAt,VF,Kj,qC,VG,Kn,Jp,Nat.reduceAdd,qF,qG,qI,qf,qK,qa,qz,qd,qE,qc,qA,qg,qH,qy,allLive,J4,tokV,posV,faultV,hlv,hbl,nb,hov];repeat (with_reducible refine And.intro ?_ ?_;· first|trivial|omega|(intro hg;simp only[Ky,JH,Jh,VH,VI,VJ,decide_eq_true_eq,decide_eq_false_iff_not,qU]at hg;omega))
  apply hK;clear hK K;refine Qr ?_;refine QK ?_;refine awp_rseq [0,1,6,7,27] (by rfl) fun K hK=>?_;simp+decide only[qh,qi,qj,qo,ev,qZ,qW,putD,Vz,VA,VB,Ka,VC,VD,Kb,and_true,↓qY,qR,↓Qh,Qa,Qm,cond_false,Qg,Yu,↓qV,qP,qN,ne_eq,not_false_eq_true,qM wz eb_p,qM wz eb_s,ne_p_s,ne_p_s.symm,qO,qJ,VE,setAt,VF,Kj,qC,VG,Kn,Jp,Nat.reduceAdd,qF,qG,qI,qf,qK,qa,qz,qd,qE,qc,qA,qg,qH,qy,allLive,J4,tokV,posV,faultV,hlv,hbl,nb,hov];repeat (with_reducible refine And.intro ?_ ?_;· first|trivial|omega|(intro hg;simp only[Ky,JH,Jh,VH,VI,VJ,decide_eq_true_eq,decide_eq_false_iff_not,qU]at hg;omega))
  apply hK;clear hK K;refine Qu (b:=_) rfl (fun hb2=>?_) (fun hb2=>?_)
  ·try simp only[decide_eq_true_eq,decide_eq_false_iff_not,Jh,VJ,Ky,VH,JH,VI,VV,VW,reduceCtorEq]at hb2
   have hz:S.2=0:=by omega
   rw[if_pos hz]at hok;obtain⟨qs,w,ts,tv,hph,hg,hgt,hqE⟩:=hc.ph;obtain⟨kh,ch,rfl,hch,rfl⟩:=qik hg;have eb_h:h kh=some _:=hS.at_ (i:=4) rfl;have ne_p_h:kp≠kh:=hS.ne (i:=1) (j:=4) rfl rfl (by decide);have ne_s_h:ks≠kh:=hS.ne (i:=3) (j:=4) rfl rfl (by decide);have nph:∀H:AHeap,YG Tryd.prog H 45 (.slice (.own kh) 0 (qs.length+1) ch)=⟨True, .int .i64 ((qs.length+1:Nat):Int)⟩:=fun H=>by
    have:=(hg.isL (wz:=wz) (Vg _)).len Tryd.underlying45 H
    rwa [Jb,Jn,JF]at this
   rw[hph,Jb,Jn,JF]at hf1;have hwn:IntKind.i64.wrap (((qs.length+1:Nat):Int)-1)=(qs.length:Int):=by rw[wrap_i64 (by omega) (by omega)];omega
   have htl:=hgt.live;have htsl:ts.length<=i:=hf2 ⟨w,ts⟩ (by rw[hph];simp);refine qbl [0,8] mixed (by kernel_rfl) (by rfl) (by rfl) fun K hK=>?_;simp+decide only[qh,qi,qj,qo,ev,qZ,qW,putD,Vz,VA,VB,Ka,VC,VD,Kb,and_true,↓qY,qR,↓Xn,QS,XF,Xt,↓Qn,Qd,qaD,↓Qv,QN,Qf qhw,↓XG,Xf,Qz Tryd.underlying45,QR Tryd.underlying45,↓Qh,Qa,Qm,cond_false,Qg,qba,qN,ne_eq,not_false_eq_true,qM wz eb_p,qM wz eb_s,ne_p_s,ne_p_s.symm,qO,qJ,VE,setAt,VF,Kj,qC,VG,Kn,Jp,Nat.reduceAdd,qF,qG,qI,qf,qK,qa,qz,qd,qE,qc,qA,qg,qH,qy,allLive,J4,tokV,posV,faultV,hlv,hbl,nb,hov,nph,hwn];try simp(disch:=omega)only[wrap_i64,wrap_u8]
   try simp+decide only[qh,qi,qj,qo,ev,qZ,qW,putD,Vz,VA,VB,Ka,VC,VD,Kb,and_true,↓QU,QN,Ql Tryd.underlying45 qcn,↓qV,qP,qN,ne_eq,not_false_eq_true,qM wz eb_p,qM wz eb_s,ne_p_s,ne_p_s.symm,qO,qJ,VE,setAt,VF,Kj,qC,VG,Kn,Jp,Nat.reduceAdd,qF,qG,qI,qf,qK,qa,qz,qd,qE,qc,qA,qg,qH,qy,allLive,J4,tokV,posV,faultV,hlv,hbl,nb,hov,nph,hwn]
   repeat (with_reducible refine And.intro ?_ ?_;· first|trivial|omega|(intro hg;simp only[Ky,JH,Jh,VH,VI,VJ,decide_eq_true_eq,decide_eq_false_iff_not,qU]at hg;omega))
   apply hK;clear hK K;obtain⟨lc,o,cc,hve⟩:=Yr hv (by omega);have hv2:=hv.mono hs_h;rw[hve]at hv2;obtain⟨e0,e1,e2,e3,e4⟩:=Ut hv2 hi;obtain⟨t,ht⟩:∃t,t=l.getD i noT:=⟨_,rfl⟩
   rw[<-ht]at e0 e1 e2 e3 e4 hok;obtain⟨cs,hcs⟩:∃cs,cs=(qs.map phC).flatten++[AVal.str w,tv]:=⟨_,rfl⟩
   have hcg:cs.getD (qs.length*2+1) .dead=tv:=by rw[hcs];exact qou qs w tv
   have hcl:cs.length=qs.length*2+2:=by rw[hcs,Jb,qeo];rfl
   rw[<-hcs]at eb_h hS;have etv:rd wz h (.own kh) (qs.length*2+1)=tv:=by rw[qM wz eb_h];exact hcg
   refine qaE 16 [0] [0] mixed (by kernel_rfl) (by rfl) fun K hK=>?_;simp only[Ki,Bj,Ba,Vk,BG,BH];simp+decide only[qh,qi,qj,qo,ev,qZ,qW,putD,Vz,VA,VB,Ka,VC,VD,Kb,and_true,↓qaN,qR,↓UW,QS,XF,Xt,↓Wl,Qd,qdg,↓qaO,Yb,Qf qbV,qbC,YR,Qf ag3,↓WJ,Ql Tryd.underlying31 Ye,ZF,Xm qhU Ye,qN,ne_eq,not_false_eq_true,qM wz eb_p,qM wz eb_s,ne_p_s,ne_p_s.symm,qO,qJ,VE,setAt,VF,Kj,qC,VG,Kn,Jp,Nat.reduceAdd,qF,qG,qI,qf,qK,qa,qz,qd,qE,qc,qA,qg,qH,qy,allLive,J4,tokV,posV,faultV,hlv,hbl,nb,hov,htl,etv,hve,e0,e1,e2,e3,e4,VX,K6,Jp];repeat (with_reducible refine And.intro ?_ ?_;· first|trivial|omega|(intro hg;simp only[Ky,JH,Jh,VH,VI,VJ,decide_eq_true_eq,decide_eq_false_iff_not,qU]at hg;omega))
   refine qao (by rfl) ?_;refine QZ (cs:=(Zt t)) (by kernel_rfl) fun k5q15 hk5q15=>?_;have hn_5q15:h k5q15=none:=by first|assumption|(simp only[V7]at hk5q15;simp only[hk5q15])
   have hf_5q15:B k5q15=none:=Bh hs_h hn_5q15;have ne_5q15_p:k5q15≠kp:=BF hn_5q15 eb_p;have ne_5q15_s:k5q15≠ks:=BF hn_5q15 eb_s;rw[qh];repeat (with_reducible refine And.intro ?_ ?_;· first|trivial|omega|(intro hg;simp only[Ky,JH,Jh,VH,VI,VJ,decide_eq_true_eq,decide_eq_false_iff_not,qU]at hg;omega))
   try simp only[qi,qj]
   refine Uo (es:=5) (v:=tv) (p:=tp) (xs:=ts.map Zt) (ys:=[Zt t]) (i:=5) (by rfl) (by rfl) Tryd.underlying31 Tryd.underlying31 (fun k e=>by cases e) Ye qnt qjy (by rfl) (by decide) (by rfl) hgt rfl (hS.forget (V8 hn_5q15)) (by rfl) (V9 (Vf _ _ _) (fun x hx=>by rw[V4.1 hx];rfl) (by rfl) (by rfl) (.exact 1) (KL _)) (by rfl) (by simp) (by rw[Jn,JF];omega) (by rw[Jn,JF];omega) fun tv2 tp2 h5 hg2 _ hS2=>?_;simp+decide only[qh,qi,qj,qo,ev,qZ,qW,putD,Vz,VA,VB,Ka,VC,VD,Kb,and_true,↓Xn,QS,XF,Xt,↓Qn,Qd,qdg,qN,ne_eq,not_false_eq_true,ne_5q15_p,ne_5q15_p.symm,ne_5q15_s,ne_5q15_s.symm,qM wz eb_p,qM wz eb_s,ne_p_s,ne_p_s.symm,qO,qJ,VE,setAt,VF,Kj,qC,VG,Kn,Jp,Nat.reduceAdd,qF,qG,qI,qf,qK,qa,qz,qd,qE,qc,qA,qg,qH,qy,allLive,J4,tokV,posV,faultV,hlv,hbl,nb,hov,htl,etv,hve,e0,e1,e2,e3,e4,VX,K6,Jp];repeat (with_reducible refine And.intro ?_ ?_;· first|trivial|omega|(intro hg;simp only[Ky,JH,Jh,VH,VI,VJ,decide_eq_true_eq,decide_eq_false_iff_not,qU]at hg;omega))
   refine QO (v:=tv2) (by rfl) (by rfl) (hS2.at_ (i:=4) rfl) qgc hg2.live (by rw[hg2.cells];rfl) (by simp only[hg2.cells];omega) (Jq _) (by rw[hg2.cells];simp[XN,hg2.scal]) ?_;simp+decide only[qh,qi,qj,qo,ev,qZ,qW,putD,Vz,VA,VB,Ka,VC,VD,Kb,and_true,qN,ne_eq,not_false_eq_true,ne_5q15_p,ne_5q15_p.symm,ne_5q15_s,ne_5q15_s.symm,qM wz eb_p,qM wz eb_s,ne_p_s,ne_p_s.symm,qO,qJ,VE,setAt,VF,Kj,qC,VG,Kn,Jp,Nat.reduceAdd,qF,qG,qI,qf,qK,qa,qz,qd,qE,qc,qA,qg,qH,qy,allLive,J4,tokV,posV,faultV,hlv,hbl,nb,hov,htl,etv,hve,e0,e1,e2,e3,e4,VX,K6,Jp];repeat (with_reducible refine And.intro ?_ ?_;· first|trivial|omega|(intro hg;simp only[Ky,JH,Jh,VH,VI,VJ,decide_eq_true_eq,decide_eq_false_iff_not,qU]at hg;omega))
   apply hK;clear hK K;obtain⟨H6,hH6⟩:∃H6,H6=h5.set kh ⟨setAt cs (qs.length*2+1) tv2.cells,0⟩:=⟨_,rfl⟩
   refine BI (h':=H6) (by rw[hH6];exact Vg _) ?_;rw[hg2.cells,hcs,qkP _ _ _ _ _ (qeo qs)]at hH6;have hS6:=hS2.put (i:=4) rfl ⟨(qs.map phC).flatten++[AVal.str w,tv2],0⟩;rw[<-hH6]at hS6;simp only[VF,Kj]at hS6;have eb_p:H6 kp=some _:=hS6.at_ (i:=1) rfl;have hs_H6:Sub B H6:=hS6.in_ (i:=0) rfl;refine Zf [0,7] (by rfl) ?_;simp+decide only[qh,qi,qj,qo,ev,qZ,qW,putD,Vz,VA,VB,Ka,VC,VD,Kb,and_true,↓qV,qP,qN,ne_eq,not_false_eq_true,qM wz eb_p,qO,qJ,VE,setAt,VF,Kj,qC,VG,Kn,Jp,Nat.reduceAdd,qF,qG,qI,qf,qK,qa,qz,qd,qE,qc,qA,qg,qH,qy,allLive,J4,tokV,posV,faultV,hlv,hbl,nb,hov];repeat (with_reducible refine And.intro ?_ ?_;· first|trivial|omega|(intro hg;simp only[Ky,JH,Jh,VH,VI,VJ,decide_eq_true_eq,decide_eq_false_iff_not,qU]at hg;omega))
   change Awp _ _ _ _ _ _ _;refine Zf [] (by rfl) ?_;simp+decide only[qh,qi,qj,qo,ev,qZ,qW,putD,Vz,VA,VB,Ka,VC,VD,Kb,and_true,↓qY,qR,↓Xn,QS,XF,Xt,↓Qn,Qd,YR,↓Qv,QN,Qf ag3,↓Qh,Qa,QB,cond_false,Qg,XM,qN,ne_eq,not_false_eq_true,qM wz eb_p,qO,qJ,VE,setAt,VF,Kj,qC,VG,Kn,Jp,Nat.reduceAdd,qF,qG,qI,qf,qK,qa,qz,qd,qE,qc,qA,qg,qH,qy,allLive,J4,tokV,posV,faultV,hlv,hbl,nb,hov];try simp(disch:=omega)only[wrap_i64,wrap_u8]
   repeat (with_reducible refine And.intro ?_ ?_;· first|trivial|omega|(intro hg;simp only[Ky,JH,Jh,VH,VI,VJ,decide_eq_true_eq,decide_eq_false_iff_not,qU]at hg;omega))
   refine QO (by rfl) (by rfl) zqA sz3 (by rfl) (by rfl) zqD (Jq _) (by rfl) ?_;simp only[Bi,setAt,VE,VF,Kj,Jp,Nat.reduceAdd];simp+decide only[qh,qi,qj,qo,ev,qZ,qW,putD,Vz,VA,VB,Ka,VC,VD,Kb,and_true,qN,ne_eq,not_false_eq_true,qM wz eb_p,qO,qJ,VE,setAt,VF,Kj,qC,VG,Kn,Jp,Nat.reduceAdd,qF,qG,qI,qf,qK,qa,qz,qd,qE,qc,qA,qg,qH,qy,allLive,J4,tokV,posV,faultV,hlv,hbl,nb,hov];repeat (with_reducible refine And.intro ?_ ?_;· first|trivial|omega|(intro hg;simp only[Ky,JH,Jh,VH,VI,VJ,decide_eq_true_eq,decide_eq_false_iff_not,qU]at hg;omega))
   try simp only[WE,Ym,QH,Qt]
   try simp only[QD,Qo]
   refine qdt (Qy) ?_;simp+decide only[qh,qi,qj,qo,ev,qZ,qW,putD,Vz,VA,VB,Ka,VC,VD,Kb,and_true,qdu,qN,ne_eq,not_false_eq_true,qM wz eb_p,qO,qJ,VE,setAt,VF,Kj,qC,VG,Kn,Jp,Nat.reduceAdd,qF,qG,qI,qf,qK,qa,qz,qd,qE,qc,qA,qg,qH,qy,allLive,J4,tokV,posV,faultV,hlv,hbl,nb,hov];cases hok;exact⟨_,Vg _,_,_,_,_,⟨⟨qs,w,ts++[t],tv2,by simp only;rw[hph,qny],qkd hg rfl hch hg2.live,by rw[VZ];exact hg2,hqE⟩,hc.bd⟩,hS6.put (i:=1) rfl _⟩
  ·try simp only[decide_eq_true_eq,decide_eq_false_iff_not,Jh,VJ,Ky,VH,JH,VI,VV,VW,reduceCtorEq]at hb2
   have hz:S.2≠0:=by omega
   rw[if_neg hz]at hok;refine awp_rseq [0,1,6,7,60] (by rfl) fun K hK=>?_;simp+decide only[qh,qi,qj,qo,ev,qZ,qW,putD,Vz,VA,VB,Ka,VC,VD,Kb,and_true,↓qY,qR,↓Qh,Qa,XE,cond_false,Xu,qbw,↓qV,qP,qN,ne_eq,not_false_eq_true,qM wz eb_p,qM wz eb_s,ne_p_s,ne_p_s.symm,qO,qJ,VE,setAt,VF,Kj,qC,VG,Kn,Jp,Nat.reduceAdd,qF,qG,qI,qf,qK,qa,qz,qd,qE,qc,qA,qg,qH,qy,allLive,J4,tokV,posV,faultV,hlv,hbl,nb,hov];repeat (with_reducible refine And.intro ?_ ?_;· first|trivial|omega|(intro hg;simp only[Ky,JH,Jh,VH,VI,VJ,decide_eq_true_eq,decide_eq_false_iff_not,qU]at hg;omega))
   apply hK;clear hK K;refine Qu (b:=_) rfl (fun hb3=>?_) (fun hb3=>?_)
   ·try simp only[decide_eq_true_eq,decide_eq_false_iff_not,Jh,VJ,Ky,VH,JH,VI,VV,VW,reduceCtorEq]at hb3
    rw[if_pos hb3]at hok;obtain⟨qs,w,ts,tv,hph,hg,hgt,hqE⟩:=hc.ph;have hpl:=hg.live;rw[hph,Jb,Jn,JF]at hf1;refine Zf [0,7] (by rfl) ?_;simp+decide only[qh,qi,qj,qo,ev,qZ,qW,putD,Vz,VA,VB,Ka,VC,VD,Kb,and_true,↓qY,qR,↓Xn,QS,XF,Xt,↓Qn,Qd,qaD,↓Qv,QN,Qf qhw,↓qar,YL,↓Yf,qrz,evP,Ke,Vh,WC,ZH,YN,qaH,Yk,Ur,YO,qN,ne_eq,not_false_eq_true,qM wz eb_p,qM wz eb_s,ne_p_s,ne_p_s.symm,qO,qJ,VE,setAt,VF,Kj,qC,VG,Kn,Jp,Nat.reduceAdd,qF,qG,qI,qf,qK,qa,qz,qd,qE,qc,qA,qg,qH,qy,allLive,J4,tokV,posV,faultV,hlv,hbl,nb,hov,hpl];repeat (with_reducible refine And.intro ?_ ?_;· first|trivial|omega|(intro hg;simp only[Ky,JH,Jh,VH,VI,VJ,decide_eq_true_eq,decide_eq_false_iff_not,qU]at hg;omega))
    refine QZ (cs:=[.str S.1, .nilSlice]) (by kernel_rfl) fun k8q7 hk8q7=>?_;have hn_8q7:h k8q7=none:=by first|assumption|(simp only[V7]at hk8q7;simp only[hk8q7])
    have hf_8q7:B k8q7=none:=Bh hs_h hn_8q7;have ne_8q7_p:k8q7≠kp:=BF hn_8q7 eb_p;have ne_8q7_s:k8q7≠ks:=BF hn_8q7 eb_s;refine Uo (es:=2) (v:=pv) (p:=pp) (xs:=qs.map phC++[[.str w,tv]]) (ys:=[[.str S.1, .nilSlice]]) (i:=4) (by rfl) (by rfl) Tryd.underlying45 Tryd.underlying45 (fun k e=>by cases e) qcn by44 qsa (by rfl) (by decide) (by rfl) hg rfl (hS.forget (V8 hn_8q7)) (by rfl) (V9 (Vf _ _ _) (fun x hx=>by rw[V4.1 hx];rfl) (by rfl) (by rfl) (.exact 1) (KL _)) (by rfl) (by simp) (by simp only[Jb,Jn,JF];omega) (by simp only[Jb,Jn,JF];omega) fun pv2 pp2 h8 hg2 _ hS2=>?_;simp+decide only[qh,qi,qj,qo,ev,qZ,qW,putD,Vz,VA,VB,Ka,VC,VD,Kb,and_true,↓Xn,QS,XF,Xt,↓Qn,Qd,qaD,qN,ne_eq,not_false_eq_true,ne_8q7_p,ne_8q7_p.symm,ne_8q7_s,ne_8q7_s.symm,qM wz eb_p,qM wz eb_s,ne_p_s,ne_p_s.symm,qO,qJ,VE,setAt,VF,Kj,qC,VG,Kn,Jp,Nat.reduceAdd,qF,qG,qI,qf,qK,qa,qz,qd,qE,qc,qA,qg,qH,qy,allLive,J4,tokV,posV,faultV,hlv,hbl,nb,hov,hpl];repeat (with_reducible refine And.intro ?_ ?_;· first|trivial|omega|(intro hg;simp only[Ky,JH,Jh,VH,VI,VJ,decide_eq_true_eq,decide_eq_false_iff_not,qU]at hg;omega))
    refine QO (v:=pv2) (by rfl) (by rfl) (hS2.at_ (i:=3) rfl) qtg hg2.live (by rw[hg2.cells];rfl) (by simp only[hg2.cells,KX,JD];omega) (Jq _) (by rw[hg2.cells];simp[XN,hg2.scal]) ?_;simp only[hg2.cells,setAt,VF,Kj,Jp,Nat.reduceAdd];simp+decide only[qh,qi,qj,qo,ev,qZ,qW,putD,Vz,VA,VB,Ka,VC,VD,Kb,and_true,qN,ne_eq,not_false_eq_true,ne_8q7_p,ne_8q7_p.symm,ne_8q7_s,ne_8q7_s.symm,qM wz eb_p,qM wz eb_s,ne_p_s,ne_p_s.symm,qO,qJ,VE,setAt,VF,Kj,qC,VG,Kn,Jp,Nat.reduceAdd,qF,qG,qI,qf,qK,qa,qz,qd,qE,qc,qA,qg,qH,qy,allLive,J4,tokV,posV,faultV,hlv,hbl,nb,hov,hpl];have eb_p:h8 kp=some _:=hS2.at_ (i:=1) rfl;have hs8:Sub B h8:=hS2.in_ (i:=0) rfl;change Awp _ _ _ _ _ _ _;refine Zf [] (by rfl) ?_;simp+decide only[qh,qi,qj,qo,ev,qZ,qW,putD,Vz,VA,VB,Ka,VC,VD,Kb,and_true,↓qY,qR,↓Xn,QS,XF,Xt,↓Qn,Qd,YR,↓Qv,QN,Qf ag3,↓Qh,Qa,QB,cond_false,Qg,XM,qN,ne_eq,not_false_eq_true,ne_8q7_p,ne_8q7_p.symm,ne_8q7_s,ne_8q7_s.symm,qM wz eb_p,qM wz eb_s,ne_p_s,ne_p_s.symm,qO,qJ,VE,setAt,VF,Kj,qC,VG,Kn,Jp,Nat.reduceAdd,qF,qG,qI,qf,qK,qa,qz,qd,qE,qc,qA,qg,qH,qy,allLive,J4,tokV,posV,faultV,hlv,hbl,nb,hov];try simp(disch:=omega)only[wrap_i64,wrap_u8]
    repeat (with_reducible refine And.intro ?_ ?_;· first|trivial|omega|(intro hg;simp only[Ky,JH,Jh,VH,VI,VJ,decide_eq_true_eq,decide_eq_false_iff_not,qU]at hg;omega))
    refine QO (by rfl) (by rfl) zqA sz3 (by rfl) (by rfl) zqD (Jq _) (by rfl) ?_;simp only[Bi,setAt,VE,VF,Kj,Jp,Nat.reduceAdd];simp+decide only[qh,qi,qj,qo,ev,qZ,qW,putD,Vz,VA,VB,Ka,VC,VD,Kb,and_true,qN,ne_eq,not_false_eq_true,ne_8q7_p,ne_8q7_p.symm,ne_8q7_s,ne_8q7_s.symm,qM wz eb_p,qM wz eb_s,ne_p_s,ne_p_s.symm,qO,qJ,VE,setAt,VF,Kj,qC,VG,Kn,Jp,Nat.reduceAdd,qF,qG,qI,qf,qK,qa,qz,qd,qE,qc,qA,qg,qH,qy,allLive,J4,tokV,posV,faultV,hlv,hbl,nb,hov];repeat (with_reducible refine And.intro ?_ ?_;· first|trivial|omega|(intro hg;simp only[Ky,JH,Jh,VH,VI,VJ,decide_eq_true_eq,decide_eq_false_iff_not,qU]at hg;omega))
    try simp only[WE,Ym,QH,Qt]
    try simp only[QD,Qo]
    refine qdt (Qy) ?_;simp+decide only[qh,qi,qj,qo,ev,qZ,qW,putD,Vz,VA,VB,Ka,VC,VD,Kb,and_true,qdu,qN,ne_eq,not_false_eq_true,ne_8q7_p,ne_8q7_p.symm,ne_8q7_s,ne_8q7_s.symm,qM wz eb_p,qM wz eb_s,ne_p_s,ne_p_s.symm,qO,qJ,VE,setAt,VF,Kj,qC,VG,Kn,Jp,Nat.reduceAdd,qF,qG,qI,qf,qK,qa,qz,qd,qE,qc,qA,qg,qH,qy,allLive,J4,tokV,posV,faultV,hlv,hbl,nb,hov];cases hok;have hS8:=(hS2.put (i:=3) rfl (curB {c with phrases:=c.phrases++[⟨S.1,[]⟩]} pv2 bv)).put (i:=1) rfl (parB3 v (i+S.2) ov);have hS9:=(BJ (ps:=[tp,E]) (hS8.pick [5,7,0,1,2,3,4,6] (by decide) (by simp))).emp.pick [1,2,3,4,5,7,6,0] (by decide) (by simp);have hsu:=ZE (ps:=[tp,E]) (hS8.pick [5,7] (by decide) (by simp)).2;exact⟨_,Vg _,_,_,_,_,⟨⟨qs++[(⟨w,ts⟩,tv)],S.1,[], .nilSlice,by simp only;rw[hph,VZ];rfl,by rw[VZ];exact hg2, .nil,fun q hq=>by
     rcases JS.1 hq with hq|hq
     ·exact(hqE q hq).mono (hsu E (by simp))
     ·rw[V4.1 hq]
      exact hgt.isL (hsu tp (by simp))⟩,by
     obtain⟨bs,b1,b2,b3⟩:=hc.bd;exact⟨bs,b1,b2,fun b hb=>⟨(b3 b hb).1.mono (hsu E (by simp)),(b3 b hb).2.mono (hsu E (by simp))⟩⟩⟩,hS9⟩
   ·try simp only[decide_eq_true_eq,decide_eq_false_iff_not,Jh,VJ,Ky,VH,JH,VI,VV,VW,reduceCtorEq]at hb3
    rw[if_neg (by rw[hb3];simp)]at hok;refine QE ?_;change Awp _ _ _ _ _ _ _;refine Zf [] (by rfl) ?_;simp+decide only[qh,qi,qj,qo,ev,qZ,qW,putD,Vz,VA,VB,Ka,VC,VD,Kb,and_true,↓qY,qR,↓Xn,QS,XF,Xt,↓Qn,Qd,YR,↓Qv,QN,Qf ag3,↓Qh,Qa,QB,cond_false,Qg,XM,qN,ne_eq,not_false_eq_true,qM wz eb_p,qM wz eb_s,ne_p_s,ne_p_s.symm,qO,qJ,VE,setAt,VF,Kj,qC,VG,Kn,Jp,Nat.reduceAdd,qF,qG,qI,qf,qK,qa,qz,qd,qE,qc,qA,qg,qH,qy,allLive,J4,tokV,posV,faultV,hlv,hbl,nb,hov];try simp(disch:=omega)only[wrap_i64,wrap_u8]
    repeat (with_reducible refine And.intro ?_ ?_;· first|trivial|omega|(intro hg;simp only[Ky,JH,Jh,VH,VI,VJ,decide_eq_true_eq,decide_eq_false_iff_not,qU]at hg;omega))
    refine QO (by rfl) (by rfl) zqA sz3 (by rfl) (by rfl) zqD (Jq _) (by rfl) ?_;simp only[Bi,setAt,VE,VF,Kj,Jp,Nat.reduceAdd];simp+decide only[qh,qi,qj,qo,ev,qZ,qW,putD,Vz,VA,VB,Ka,VC,VD,Kb,and_true,qN,ne_eq,not_false_eq_true,qM wz eb_p,qM wz eb_s,ne_p_s,ne_p_s.symm,qO,qJ,VE,setAt,VF,Kj,qC,VG,Kn,Jp,Nat.reduceAdd,qF,qG,qI,qf,qK,qa,qz,qd,qE,qc,qA,qg,qH,qy,allLive,J4,tokV,posV,faultV,hlv,hbl,nb,hov];repeat (with_reducible refine And.intro ?_ ?_;· first|trivial|omega|(intro hg;simp only[Ky,JH,Jh,VH,VI,VJ,decide_eq_true_eq,decide_eq_false_iff_not,qU]at hg;omega))
    try simp only[WE,Ym,QH,Qt]
    try simp only[QD,Qo]
    refine qdt (Qy) ?_;simp+decide only[qh,qi,qj,qo,ev,qZ,qW,putD,Vz,VA,VB,Ka,VC,VD,Kb,and_true,qdu,qN,ne_eq,not_false_eq_true,qM wz eb_p,qM wz eb_s,ne_p_s,ne_p_s.symm,qO,qJ,VE,setAt,VF,Kj,qC,VG,Kn,Jp,Nat.reduceAdd,qF,qG,qI,qf,qK,qa,qz,qd,qE,qc,qA,qg,qH,qy,allLive,J4,tokV,posV,faultV,hlv,hbl,nb,hov];cases hok;exact⟨_,Vg _,_,_,_,_,hc,hS.put (i:=1) rfl _⟩
abbrev strC(s:Str):List AVal:=[.str s]
def qhI(B:AHeap)(Q:FaultC->Prop):AVal->AHeap->Prop:=fun x h'=>∃f,Q f/\x= .iface 28 (faultV f)/\Sub B h'
structure ParS(wz:World)(l:List TokC)(B:AHeap)(v ov:AVal)(op:AHeap)(O:List Str)(i:Nat):Prop where
 toks:IsL wz B 5 v (l.map Zt)
 open_:GrowV 1 ov op (O.map strC)
 isG:isG ov=true
 at_:i<=l.length
abbrev ListRO(l:List TokC):=ListR Xa l Zp
abbrev StRO(l:List TokC):=StR Xa l Zp
abbrev BodyRO(l:List TokC):=BodyR Xa l Zp
abbrev LoopRO(l:List TokC):=LoopR Xa l Zp
def qgv(wz:World)(l:List TokC)(B:AHeap)(kp:Nat)(v:AVal)(O:List Str)(dd i:Nat):AVal->AHeap->Prop:=fun r h'=>∃L j ov' op' E,ListRO l dd O i [] (.ok L j)/\i<=j/\L.length<=j-i/\StsV wz (33-dd) E r L/\ParS wz l B v ov' op' O j/\Sep [B,one kp (parB3 v j ov'),op',E] h'
def qlV(wz:World)(l:List TokC)(B:AHeap)(kp:Nat)(v:AVal)(O:List Str)(dd i:Nat):AVal->AHeap->Prop:=fun r h'=>dd<=32/\∃s j ov' op' E pv bv,StRO l dd O i (.ok s j)/\i<j/\r= .agg (qcO (s,pv,bv))/\PhV wz E pv s.phrases/\BdV wz (StsV wz (32-dd) E) E bv s.bodies/\ParS wz l B v ov' op' O j/\Sep [B,one kp (parB3 v j ov'),op',E] h'
def qhM(wz:World)(l:List TokC)(B:AHeap)(kp ks:Nat)(v pv:AVal)(pp tp:AHeap)(O:List Str)(dd n i:Nat)(c:Cur)(w:Str):AHeap->Prop:=fun h'=>∃c' j ov' op' bv' bp' E',BodyRO l dd O c w n i (.ok c' j)/\i<j/\c'.phrases=c.phrases/\c'.verb=c.verb/\c'.line=c.line/\c'.col=c.col/\c'.bodies.length=c.bodies.length+1/\CurS wz (32-dd) c' pv bv' pp tp bp' E'/\ParS wz l B v ov' op' O j/\Sep [B,one kp (parB3 v j ov'),op',one ks (curB c' pv bv'),pp,tp,bp',E'] h'
def qiz(wz:World)(l:List TokC)(dd:Nat):Prop:=∀(h B:AHeap) (kp:Nat) (v ov:AVal) (op:AHeap) (O:List Str) (i:Nat),Sep [B,one kp (parB3 v i ov),op] h->ParS wz l B v ov op O i->Fair O->O.length+1=dd->
 ACallE Tryd.prog wz 19 [.ptr (.own kp) 0, .int .i64 dd] h (qgv wz l B kp v O dd i) (qhI B fun f=>ListRO l dd O i [] (.bad f))
def qtc(wz:World)(l:List TokC)(dd:Nat):Prop:=∀(h B:AHeap) (kp:Nat) (v ov:AVal) (op:AHeap) (O:List Str) (i:Nat),Sep [B,one kp (parB3 v i ov),op] h->ParS wz l B v ov op O i->Fair O->O.length+1=dd->isV l i=true->
 ACallE Tryd.prog wz 38 [.ptr (.own kp) 0, .int .i64 dd] h (qlV wz l B kp v O dd i) (qhI B fun f=>StRO l dd O i (.bad f))
def qte(wz:World)(l:List TokC)(dd:Nat):Prop:=∀(h B:AHeap) (kp ks:Nat) (v ov bv pv:AVal) (op pp tp bp E:AHeap) (O:List Str) (c:Cur) (w:Str) (n i:Nat),Sep [B,one kp (parB3 v i ov),op,one ks (curB c pv bv),pp,tp,bp,E] h->ParS wz l B v ov op O i->CurS wz (32-dd) c pv bv pp tp bp E->Fair O->O.length=dd->i+n<=l.length->0<n\/isV l i=true->Few c i->
 ACallE Tryd.prog wz 59 [.ptr (.own kp) 0, .ptr (.own ks) 0, .str w, .int .i64 n, .int .i64 dd] h (fun r h'=>r= .tuple []/\qhM wz l B kp ks v pv pp tp O dd n i c w h') (qhI B fun f=>BodyRO l dd O c w n i (.bad f))
theorem qoA{l:List TokC}{i:Nat}(h:isV l i=true):i<l.length:=by
 unfold isV at h;by_cases hi:i<l.length
 ·exact hi
 ·rw[if_neg hi]at h;cases h
structure LsG where
 i:Nat
 ov:AVal
 op:AHeap
 E:AHeap
 qs:List (StC×AVal×AVal)
 rv:AVal
 rp:AHeap
 H:AHeap
structure LsI(wz:World)(l:List TokC)(B:AHeap)(kp:Nat)(v:AVal)(O:List Str)(dd i₀:Nat)(g:LsG):Prop where
 sep:Sep [B,one kp (parB3 v g.i g.ov),g.op,g.rp,g.E] g.H
 par:ParS wz l B v g.ov g.op O g.i
 row:GrowV 5 g.rv g.rp (g.qs.map qcO)
 els:∀q∈g.qs,PhV wz g.E q.2.1 q.1.phrases/\BdV wz (StsV wz (32-dd) g.E) g.E q.2.2 q.1.bodies
 le:i₀<=g.i
 few:g.qs.length<=g.i-i₀
 deep:dd<=32\/g.qs=[]
 go:∀r,ListRO l dd O g.i (g.qs.map (·.1)) r->ListRO l dd O i₀ [] r
set_option maxHeartbeats 4000000 in
theorem qoy(wz:World)(hm:MaxL wz)(l:List TokC)(hl:l.length<=65537)(hsh:Short l)(dd:Nat)(hdd:dd<=33)(hst:qtc wz l dd):qiz wz l dd:=by
 intro h B kp v ov op O i₀ hS hP hF hO;refine qas (k:=36) (rs:=[.tmp 4]) Tryd.func19 rfl rfl rfl rfl (Vy rfl) ?_;simp only[QV];refine awp_rseq [0,1] (by rfl) fun K hK=>?_;simp+decide only[qh,qi,qj,qo,ev,qZ,qW,putD,Vz,VA,VB,Ka,VC,VD,Kb,and_true,↓qV,qP,qN,ne_eq,not_false_eq_true,qO,qJ,VE,setAt,VF,Kj,qC,VG,Kn,Jp,Nat.reduceAdd,qF,qG,qI,qf,qK,qa,qz,qd,qE,qc,qA,qg,qH,qy,allLive,J4,tokV,posV,faultV];repeat (with_reducible refine And.intro ?_ ?_;· first|trivial|omega|(intro hg;simp only[Ky,JH,Jh,VH,VI,VJ,decide_eq_true_eq,decide_eq_false_iff_not,qU]at hg;omega))
 apply hK;clear hK K;refine awp_rseq [0,1,5] (by rfl) fun K hK=>?_;simp+decide only[qh,qi,qj,qo,ev,qZ,qW,putD,Vz,VA,VB,Ka,VC,VD,Kb,and_true,↓qV,qP,qN,ne_eq,not_false_eq_true,qO,qJ,VE,setAt,VF,Kj,qC,VG,Kn,Jp,Nat.reduceAdd,qF,qG,qI,qf,qK,qa,qz,qd,qE,qc,qA,qg,qH,qy,allLive,J4,tokV,posV,faultV];repeat (with_reducible refine And.intro ?_ ?_;· first|trivial|omega|(intro hg;simp only[Ky,JH,Jh,VH,VI,VJ,decide_eq_true_eq,decide_eq_false_iff_not,qU]at hg;omega))
 apply hK;clear hK K;refine Qr ?_;refine QK ?_;refine XL [0,1,5] (fun g:LsG=>[(0, .ptr (.own kp) 0),(1, .int .i64 dd),(5,g.rv)]) (fun g:LsG=>g.H) (fun g:LsG=>LsI wz l B kp v O dd i₀ g) (fun g:LsG=>l.length-g.i) ⟨i₀,ov,op,emp,[], .nilSlice,emp,h⟩ (by rfl) (Vg _) ⟨hS.emp.emp,hP, .nil,(fun q hq=>by cases hq),KL _,Jq _, .inr rfl,fun r hr=>hr⟩ ?_;rintro⟨i,ov,op,E,qs,rv,rp,H⟩ hI;obtain⟨hS,hP,hrow,hels,hle,hfew,hdeep,hgo⟩:=hI;simp only at hS hP hrow hels hle hfew hdeep hgo|-
 have hs_H:Sub B H:=hS.in_ (i:=0) rfl;have eb_p:H kp=some _:=hS.at_ (i:=1) rfl;have hv:=hP.toks;have hlv:=hv.live;have nv:=YU hv;have hrl:=hrow.live;refine Qr ?_;have mcase:(∃(lc:AM.Loc) (o:Nat) (c:Cap),v= .slice lc o l.length c/\i<l.length/\decide ((i:Int)<(l.length:Int))=true/\rd wz H lc (o+i*5)= .int .u8 (l.getD i noT).kind.toNat/\rd wz H lc (o+i*5+1)= .str (l.getD i noT).text/\rd wz H lc (o+i*5+2)= .int .i64 (l.getD i noT).line/\rd wz H lc (o+i*5+3)= .int .i64 (l.getD i noT).col/\rd wz H lc (o+i*5+4)= .bool (l.getD i noT).left)\/
  (∃(lc:AM.Loc) (o:Nat) (c:Cap),v=v/\¬i<l.length/\decide ((i:Int)<(l.length:Int))=false/\True/\True/\True/\True/\True):=by
  by_cases hlt:i<l.length
  ·obtain⟨lc,o,c,hve⟩:=Yr hv (by omega)
   have hv2:=hv.mono hs_H;rw[hve]at hv2;exact .inl ⟨lc,o,c,hve,hlt,by simpa using hlt,Ut hv2 hlt⟩
  ·exact .inr ⟨.base 0,0, .exact 0,rfl,hlt,by simpa using hlt,trivial,trivial,trivial,trivial,trivial⟩
 refine qjl [0,1,5,28] mixed (by kernel_rfl) (by rfl) fun K hK=>?_;suffices hM:∀b:Bool,b=isV l i->K [(0, .ptr (.own kp) 0),(1, .int .i64 dd),(5,rv),(28, .bool b)] (H) by
  rcases mcase with⟨lc,o,c,hve,hkl,hkd,e0,e1,e2,e3,e4⟩|⟨lc,o,c,hve,hkl,hkd,e0,e1,e2,e3,e4⟩<;>(
   simp+decide only[qh,qi,qj,qo,ev,qZ,qW,putD,Vz,VA,VB,Ka,VC,VD,Kb,and_true,↓qlZ,qR,↓qjA,QS,XF,Xt,↓YH,Qd,YR,↓qdp,Yb,Qf ag3,qbC,Qf qbV,↓qsb,Xf,Qz Tryd.underlying31,QR Tryd.underlying31,↓qnF,Qa,QB,cond_false,Qg,Zv,↓qpA,vgP,qnG,gv,Qw,QJ,QI,QC,Qk,Qi,ZC,implies_true,VK,decide_true,decide_false,VL,VM,Qc,Qb,forall_const,false_implies,Qj,Qe,J4,VN,VO,VP,VQ,VS,VT,VU,Xp,Xr,Xo,↓qjC,qfv,qfw,↓qiC,XU,XV,↓qpB,ZF,Ya,ZZ,ZY,ZW,ZV,ZU,ZR,ZT,↓qiB,UM,UL,UK,UJ,UI,UH,UC,UB,UG,UF,UE,UD,Ql Tryd.underlying31 Ye,YY,YW,Wd,YZ,Xm qhU Ye,qN,ne_eq,not_false_eq_true,qM wz eb_p,qO,qJ,VE,setAt,VF,Kj,qC,VG,Kn,Jp,Nat.reduceAdd,qF,qG,qI,qf,qK,qa,qz,qd,qE,qc,qA,qg,qH,qy,allLive,J4,tokV,posV,faultV,hlv,nv,hrl,hve,hkd,e0,e1,e2,e3,e4,VX,K6,qal,Qb,Qc,VP,VO];repeat (with_reducible refine And.intro ?_ ?_;· first|trivial|omega|(intro hg;simp only[Ky,JH,Jh,VH,VI,VJ,decide_eq_true_eq,decide_eq_false_iff_not,qU]at hg;omega))
   first
   |(refine qnH (by rfl) ?_)
   |(refine qgB (V:= .bool (Ul (l.getD i noT))) (f:=37) (cap:=[]) (xs:=[tokV (l.getD i noT)]) (by rfl) (fun hg=>⟨rfl,rfl⟩) (fun hg=>qdk wz hm _ _ (hsh.at hkl)) ?_)
   simp+decide only[qh,qi,qj,qo,ev,qZ,qW,putD,Vz,VA,VB,Ka,VC,VD,Kb,and_true,gv,Qw,Qk,Qi,QC,↓qpz,Xw,Xb,QM,QL,QG,XC,XB,XA,Xz,Xl,Xy,qN,ne_eq,not_false_eq_true,qM wz eb_p,qO,qJ,VE,setAt,VF,Kj,qC,VG,Kn,Jp,Nat.reduceAdd,qF,qG,qI,qf,qK,qa,qz,qd,qE,qc,qA,qg,qH,qy,allLive,J4,tokV,posV,faultV,hlv,nv,hrl,hve,hkd,e0,e1,e2,e3,e4,VX,K6,qal,Qb,Qc,VP,VO];repeat (with_reducible refine And.intro ?_ ?_;· first|trivial|omega|(intro hg;simp only[Ky,JH,Jh,VH,VI,VJ,decide_eq_true_eq,decide_eq_false_iff_not,qU]at hg;omega))
   (refine hM _ ?_;unfold isV;first|rw[if_pos hkl]|rw[if_neg hkl]))
 intro b hb_2;apply hK;clear hK K;refine Qu (b:=_) rfl (fun hb1=>?_) (fun hb1=>?_)
 ·try simp only[decide_eq_true_eq,decide_eq_false_iff_not,Jh,VJ,Ky,VH,JH,VI,VV,VW,reduceCtorEq]at hb1
  have hv1:isV l i=true:=by rw[<-hb_2];exact hb1
  have hdj:[B,rp,E].Pairwise disj:=(hS.pick [0,3,4] (by decide) (by simp)).2;have hcall:=hst H (qaa [B,rp,E]) kp v ov op O i (BJ (ps:=[B,rp,E]) (hS.pick [0,3,4,1,2] (by decide) (by simp))) ⟨hv.mono (ZE hdj B (by simp)),hP.open_,hP.isG,hP.at_⟩ hF hO hv1;refine QE ?_;change Awp _ _ _ _ _ _ _;refine QK ?_;by_cases hbad:∃f,StRO l dd O i (.bad f)
  ·skip
   refine YD 3 (by rfl) (by rfl) ?_;simp only[Ki,Bj];simp+decide only[qh,qi,qj,qo,ev,qZ,qW,putD,Vz,VA,VB,Ka,VC,VD,Kb,and_true,↓qY,qR,qN,ne_eq,not_false_eq_true,qM wz eb_p,qO,qJ,VE,setAt,VF,Kj,qC,VG,Kn,Jp,Nat.reduceAdd,qF,qG,qI,qf,qK,qa,qz,qd,qE,qc,qA,qg,qH,qy,allLive,J4,tokV,posV,faultV,hrl];repeat (with_reducible refine And.intro ?_ ?_;· first|trivial|omega|(intro hg;simp only[Ky,JH,Jh,VH,VI,VJ,decide_eq_true_eq,decide_eq_false_iff_not,qU]at hg;omega))
   refine⟨⟨_,_,by rfl,?_⟩,by intro i;first|trivial|exact .inr trivial|exact .inr rfl⟩;obtain⟨f,hf⟩:=hbad;refine(hcall.bad fun x h' ⟨_,s,j,_,_,_,_,_,q,_⟩=>by cases q.one hf).mono (fun _ _ q=>q) fun x h' ⟨f',q1,q2,q3⟩=>⟨f',hgo _ (ListR.bad hv1 q1),q2,(ZE hdj B (by simp)).trans q3⟩
  refine Zf [0,1,5] (by rfl) ?_;simp+decide only[qh,qi,qj,qo,ev,qZ,qW,putD,Vz,VA,VB,Ka,VC,VD,Kb,and_true,↓qY,qR,qN,ne_eq,not_false_eq_true,qM wz eb_p,qO,qJ,VE,setAt,VF,Kj,qC,VG,Kn,Jp,Nat.reduceAdd,qF,qG,qI,qf,qK,qa,qz,qd,qE,qc,qA,qg,qH,qy,allLive,J4,tokV,posV,faultV,hrl];repeat (with_reducible refine And.intro ?_ ?_;· first|trivial|omega|(intro hg;simp only[Ky,JH,Jh,VH,VI,VJ,decide_eq_true_eq,decide_eq_false_iff_not,qU]at hg;omega))
  refine QT (by rfl) (by rfl) (hcall.ok fun x h' ⟨f,q,_⟩=>hbad ⟨f,q⟩) fun x3q3 h3q3 hx3q3=>?_;obtain⟨hd3,s,j,ov2,op2,E2,pv,bv,hR3,hij,rfl,hph3,hbd3,hP3,hS3⟩:=hx3q3;have hS3:=hS3.unfold hdj;have hs_3:Sub B h3q3:=hS3.in_ (i:=0) rfl;refine QZ (cs:=qcO (s,pv,bv)) (by kernel_rfl) fun k3q4 hk3q4=>?_;refine Uo (es:=5) (v:=rv) (p:=rp) (xs:=qs.map qcO) (ys:=[qcO (s,pv,bv)]) (i:=1) (by rfl) (by rfl) Tryd.underlying23 Tryd.underlying23 (fun k e=>by cases e) Uw by48 qmE (by rfl) (by decide) (by rfl) hrow rfl (hS3.forget (V8 hk3q4)) (by rfl) (V9 (Vf _ _ _) (fun x hx=>by rw[V4.1 hx];rfl) (by rfl) (by show(true && (true && (true && (pv.live && (bv.live && true)))))=true;rw[hph3.live,hbd3.live];rfl) (.exact 1) (KL _)) (by show(true && (true && (true && (pv.scal && (bv.scal && true)))))=true;rw[hph3.scal,hbd3.scal];rfl) (by simp) (by rw[Jn,JF];have:=hP.at_;omega) (by rw[Jn,JF];have:=hP.at_;omega) fun rv2 rp2 h4 hrow2 _ hS4=>?_;simp+decide only[qh,qi,qj,qo,ev,qZ,qW,putD,Vz,VA,VB,Ka,VC,VD,Kb,and_true,↓qV,qP,qN,ne_eq,not_false_eq_true,qM wz eb_p,qO,qJ,VE,setAt,VF,Kj,qC,VG,Kn,Jp,Nat.reduceAdd,qF,qG,qI,qf,qK,qa,qz,qd,qE,qc,qA,qg,qH,qy,allLive,J4,tokV,posV,faultV,hrl];repeat (with_reducible refine And.intro ?_ ?_;· first|trivial|omega|(intro hg;simp only[Ky,JH,Jh,VH,VI,VJ,decide_eq_true_eq,decide_eq_false_iff_not,qU]at hg;omega))
  try simp only[QH,Qt]
  have hu:∀p∈[E,E2],Sub p (qaa [E,E2]):=ZE (hS4.pick [2,5] (by decide) (by simp)).2;refine⟨⟨j,ov2,op2,qaa [E,E2],qs++[(s,pv,bv)],rv2,rp2,h4⟩,rfl,Vg _,⟨(BJ (ps:=[E,E2]) (hS4.pick [2,5,0,3,4,1] (by decide) (by simp))).pick [1,2,3,4,0] (by decide) (by simp),⟨hv,hP3.open_,hP3.isG,hP3.at_⟩,by simp only;rw[VZ];exact hrow2,fun q hq=>?_,by simp only;omega,by simp only[Jb,JF];omega, .inl hd3,fun r hr=>?_⟩,by have:=hP3.at_;simp only;omega⟩
  ·rcases JS.1 hq with z|z
   ·exact⟨(hels q z).1.mono (hu E (by simp)),(hels q z).2.mono (hu E (by simp)) fun _ _=>BK (hu E (by simp))⟩
   ·rw[V4.1 z]
    exact⟨hph3.mono (hu E2 (by simp)),hbd3.mono (hu E2 (by simp)) fun _ _=>BK (hu E2 (by simp))⟩
  ·refine hgo r (ListR.next hv1 hR3 ?_)
   simp only[VZ,Ke,Vh]at hr;exact hr
 ·try simp only[decide_eq_true_eq,decide_eq_false_iff_not,Jh,VJ,Ky,VH,JH,VI,VV,VW,reduceCtorEq]at hb1
  have hv1:isV l i=false:=by rw[<-hb_2,hb1]
  refine XJ ?_;change Awp _ _ _ _ _ _ _;refine awp_rseq [4] (by rfl) fun K hK=>?_;simp+decide only[qh,qi,qj,qo,ev,qZ,qW,putD,Vz,VA,VB,Ka,VC,VD,Kb,and_true,↓qY,qR,↓qV,qP,qN,ne_eq,not_false_eq_true,qM wz eb_p,qO,qJ,VE,setAt,VF,Kj,qC,VG,Kn,Jp,Nat.reduceAdd,qF,qG,qI,qf,qK,qa,qz,qd,qE,qc,qA,qg,qH,qy,allLive,J4,tokV,posV,faultV,hrl];repeat (with_reducible refine And.intro ?_ ?_;· first|trivial|omega|(intro hg;simp only[Ky,JH,Jh,VH,VI,VJ,decide_eq_true_eq,decide_eq_false_iff_not,qU]at hg;omega))
  apply hK;clear hK K;refine Xe ?_;try simp only[QD,Qo]
  refine XD (Qs (Qy)) ?_;simp+decide only[qh,qi,qj,qo,ev,qZ,qW,putD,Vz,VA,VB,Ka,VC,VD,Kb,and_true,Xd,qN,ne_eq,not_false_eq_true,qM wz eb_p,qO,qJ,VE,setAt,VF,Kj,qC,VG,Kn,Jp,Nat.reduceAdd,qF,qG,qI,qf,qK,qa,qz,qd,qE,qc,qA,qg,qH,qy,allLive,J4,tokV,posV,faultV];have hu:∀p∈[rp,E],Sub p (qaa [rp,E]):=ZE (hS.pick [3,4] (by decide) (by simp)).2;have hrr:=hrow.isL (wz:=wz) (hu rp (by simp));refine⟨H,Vg _,qs.map (·.1),i,ov,op,qaa [rp,E],hgo _ (ListR.stop hv1),hle,by rw[Jn];exact hfew,?_,hP,(BJ (ps:=[rp,E]) (hS.pick [3,4,0,1,2] (by decide) (by simp))).pick [1,2,3,0] (by decide) (by simp)⟩;rcases hdeep with hd|hq
  ·rw[show 33-dd=(32-dd)+1 by omega]
   exact⟨qs,rfl,hrr,fun q hq=>⟨(hels q hq).1.mono (hu E (by simp)),(hels q hq).2.mono (hu E (by simp)) fun _ _=>BK (hu E (by simp))⟩⟩
  ·subst hq
   cases h0:33-dd with
   |zero=>exact⟨rfl,hrr⟩
   |succ d=>exact⟨[],rfl,hrr,fun q hq=>by cases hq⟩
structure B1G where
 j:Nat
 H:AHeap
structure B2G where
 toks:List TokC
 i:Nat
 tv:AVal
 q:AHeap
 H:AHeap
structure B2I(wz:World)(l:List TokC)(B:AHeap)(kp ks kb:Nat)(v ov pv bv:AVal)(op pp tp bp E:AHeap)(c:Cur)(w:Str)(i₀:Nat)(g:B2G):Prop where
 sep:Sep [B,one kp (parB3 v g.i ov),op,one ks (curB c pv bv),pp,tp,bp,E,one kb ⟨[.str w,g.tv, .nilSlice],0⟩,g.q] g.H
 row:GrowV 5 g.tv g.q (g.toks.map Zt)
 at_:g.i<=l.length
 le:i₀<=g.i
 few:g.toks.length<=g.i
theorem qcN{l:List TokC}{fm:Str}{i:Nat}{acc:List TokC}(h:isE l i=true\/isV l i=true\/qbG l i≠[]\/0<(Xv l i fm).2):qcm l fm (l.length-i) i acc=(acc,i):=by
 cases hf:l.length-i with
 |zero=>rfl
 |succ f=>rw[qcm,if_pos h]
theorem qjz{l:List TokC}{fm:Str}{i:Nat}{acc:List TokC}(hi:i<l.length)(h:¬(isE l i=true\/isV l i=true\/qbG l i≠[]\/0<(Xv l i fm).2)):qcm l fm (l.length-i) i acc=qcm l fm (l.length-(i+1)) (i+1) (acc++[l.getD i noT]):=by
 obtain⟨f,hf⟩:∃f,l.length-i=f+1:=⟨l.length-i-1,by omega⟩
 rw[hf,qcm,if_neg h,show l.length-(i+1)=f by omega]
def goW(l:List TokC)(i:Nat):Bool:= !(isE l i||(isV l i|| !decide (qbG l i=[])))
theorem qrh{l:List TokC}{i:Nat}(h:¬i<l.length):goW l i=false:=by unfold goW isE;rw[if_neg h];rfl
theorem qsE{l:List TokC}{i:Nat}(h:i<l.length):goW l i=(!decide ((l.getD i noT).kind=6) && (!Ul (l.getD i noT) && decide (qcE (l.getD i noT)=[]))):=by
 unfold goW isE isV qbG;rw[if_pos h,if_pos h];cases decide ((l.getD i noT).kind=6)<;>cases Ul (l.getD i noT)<;>cases decide (qcE (l.getD i noT)=[])<;>rfl
def qtd(wz:World)(H:AHeap)(l:List TokC)(v:AVal)(a:Nat):Prop:=
 (∃(lc:AM.Loc) (o:Nat) (c:Cap),v=v/\decide ((a:Int)<(l.length:Int))=false/\¬a<l.length/\True/\True/\True/\True/\True/\True/\True/\goW l a=false)\/
 (∃(lc:AM.Loc) (o:Nat) (c:Cap),v= .slice lc o l.length c/\decide ((a:Int)<(l.length:Int))=true/\a<l.length/\decide (((l.getD a noT).kind.toNat:Int)=6)=true/\True/\rd wz H lc (o+a*5)= .int .u8 (l.getD a noT).kind.toNat/\rd wz H lc (o+a*5+1)= .str (l.getD a noT).text/\rd wz H lc (o+a*5+2)= .int .i64 (l.getD a noT).line/\rd wz H lc (o+a*5+3)= .int .i64 (l.getD a noT).col/\rd wz H lc (o+a*5+4)= .bool (l.getD a noT).left/\goW l a=false)\/
 (∃(lc:AM.Loc) (o:Nat) (c:Cap),v= .slice lc o l.length c/\decide ((a:Int)<(l.length:Int))=true/\a<l.length/\decide (((l.getD a noT).kind.toNat:Int)=6)=false/\Ul (l.getD a noT)=true/\rd wz H lc (o+a*5)= .int .u8 (l.getD a noT).kind.toNat/\rd wz H lc (o+a*5+1)= .str (l.getD a noT).text/\rd wz H lc (o+a*5+2)= .int .i64 (l.getD a noT).line/\rd wz H lc (o+a*5+3)= .int .i64 (l.getD a noT).col/\rd wz H lc (o+a*5+4)= .bool (l.getD a noT).left/\goW l a=false)\/
 (∃(lc:AM.Loc) (o:Nat) (c:Cap),v= .slice lc o l.length c/\decide ((a:Int)<(l.length:Int))=true/\a<l.length/\decide (((l.getD a noT).kind.toNat:Int)=6)=false/\Ul (l.getD a noT)=false/\rd wz H lc (o+a*5)= .int .u8 (l.getD a noT).kind.toNat/\rd wz H lc (o+a*5+1)= .str (l.getD a noT).text/\rd wz H lc (o+a*5+2)= .int .i64 (l.getD a noT).line/\rd wz H lc (o+a*5+3)= .int .i64 (l.getD a noT).col/\rd wz H lc (o+a*5+4)= .bool (l.getD a noT).left/\goW l a=decide (qcE (l.getD a noT)=[]))
theorem mc11{wz:World}{H:AHeap}{l:List TokC}{v:AVal}{a:Nat}(hv:IsL wz H 5 v (l.map Zt)):qtd wz H l v a:=by
 by_cases hlt:a<l.length
 ·obtain⟨lc,o,c,hve⟩:=Yr hv (by omega)
  rw[hve]at hv;have he:=Ut hv hlt;have hg:=qsE hlt;have z6:decide (((l.getD a noT).kind.toNat:Int)=6)=decide ((l.getD a noT).kind=6):=Wi _ 6;have hd:decide ((a:Int)<(l.length:Int))=true:=by simpa using hlt
  obtain⟨e0,e1,e2,e3,e4⟩:=he;by_cases q6:(l.getD a noT).kind=6
  ·exact .inr (.inl ⟨lc,o,c,hve,hd,hlt,by rw[z6];exact decide_eq_true q6,trivial,e0,e1,e2,e3,e4,by rw[hg,decide_eq_true q6];rfl⟩)
  ·cases hvt:Ul (l.getD a noT)with
   |true=>exact .inr (.inr (.inl ⟨lc,o,c,hve,hd,hlt,by rw[z6];exact decide_eq_false q6,hvt,e0,e1,e2,e3,e4,by rw[hg,hvt,decide_eq_false q6];rfl⟩))
   |false=>exact .inr (.inr (.inr ⟨lc,o,c,hve,hd,hlt,by rw[z6];exact decide_eq_false q6,hvt,e0,e1,e2,e3,e4,by rw[hg,hvt,decide_eq_false q6];rfl⟩))
 ·exact .inl ⟨.base 0,0, .exact 0,rfl,by simpa using hlt,hlt,trivial,trivial,trivial,trivial,trivial,trivial,trivial,qrh hlt⟩
theorem qfp{O:List Str}(hF:Fair O):(O.getLastD []).length<=1000000/\asciiB (O.getLastD [])=true:=by
 cases O with
 |nil=>exact⟨by simp,rfl⟩
 |cons a O=>exact hF _ (by rw[List.getLastD_cons];exact List.getLastD_mem_cons)
set_option maxHeartbeats 8000000 in
theorem qre(wz:World)(l:List TokC)(hl:l.length<=65537)(dd:Nat)
 (hrest:∀(H B:AHeap) (kp ks:Nat) (v ov bv pv:AVal) (op pp tp bp E:AHeap) (O:List Str) (c:Cur) (w:Str) (n i:Nat),Sep [B,one kp (parB3 v i ov),op,one ks (curB c pv bv),pp,tp,bp,E] H->ParS wz l B v ov op O i->CurS wz (32-dd) c pv bv pp tp bp E->Fair O->O.length=dd->i+n<=l.length->0<n\/isV l i=true->Few c i->Stm.twice c w=false->
   Awp Tryd.prog wz ⟨210,[],GP wz 210 [] [] (qhI B fun f=>BodyRO l dd O c w n i (.bad f))⟩ (WK 2 (qbT Tryd.f59)) (qcb Tryd.prog wz [] (fun r h'=>r= .tuple []/\qhM wz l B kp ks v pv pp tp O dd n i c w h')) [(0, .ptr (.own kp) 0),(1, .ptr (.own ks) 0),(2, .str w),(3, .int .i64 n),(4, .int .i64 dd),(10, .int .i64 i)] (H)):qte wz l dd:=by
 intro h B kp ks v ov bv pv op pp tp bp E O c w n i hS hP hC hF hO hin hpos hfew;have hin2:i<=l.length:=hP.at_;have eb_p:h kp=some _:=hS.at_ (i:=1) rfl;have eb_s:h ks=some _:=hS.at_ (i:=3) rfl;have ne_p_s:kp≠ks:=hS.ne (i:=1) (j:=3) rfl rfl (by decide);have hs_h:Sub B h:=hS.in_ (i:=0) rfl;have hv:=hP.toks;have hlv:=hv.live;have hlo:=hP.open_.live;obtain⟨hpl,hps,hpc⟩:=hC.pv_ok;obtain⟨hbl,hbs,hbc,nb⟩:=hC.bv_len;obtain⟨bs,hb1e,hb2e,hb3e⟩:=hC.bd;have hbn:c.bodies.length=bs.length:=by rw[hb1e,Jn]
 obtain⟨hf1,hf2,hf3⟩:=hfew;have hin2:i<=l.length:=hP.at_;have hTw:Stm.twice c w=(bs.map (·.1)).any fun b=>(decide (b.1=w) && !decide (w=[87,72,69,78]))||decide (b.1=[87,72,69,78,32,79,84,72,69,82]):=by rw[<-hb1e];rfl
 refine qas (k:=210) (rs:=[]) Tryd.func59 rfl rfl rfl rfl (Vy rfl) ?_;simp only[QV];refine awp_rseq [0,1,2,3,4,10] (by rfl) fun K hK=>?_;simp+decide only[qh,qi,qj,qo,ev,qZ,qW,putD,Vz,VA,VB,Ka,VC,VD,Kb,and_true,↓qY,qR,↓Xn,QS,XF,Xt,↓Qn,Qd,YR,↓Qv,QN,Qf ag3,↓qV,qP,qN,ne_eq,not_false_eq_true,qM wz eb_p,qM wz eb_s,ne_p_s,ne_p_s.symm,qO,qJ,VE,setAt,VF,Kj,qC,VG,Kn,Jp,Nat.reduceAdd,qF,qG,qI,qf,qK,qa,qz,qd,qE,qc,qA,qg,qH,qy,allLive,J4,tokV,posV,faultV,hlv,hlo,hbl,hpl,nb];repeat (with_reducible refine And.intro ?_ ?_;· first|trivial|omega|(intro hg;simp only[Ky,JH,Jh,VH,VI,VJ,decide_eq_true_eq,decide_eq_false_iff_not,qU]at hg;omega))
 apply hK;clear hK K;refine Qr ?_;refine awp_rseq [0,1,2,3,4,10,26,27,28] (by rfl) fun K hK=>?_;simp+decide only[qh,qi,qj,qo,ev,qZ,qW,putD,Vz,VA,VB,Ka,VC,VD,Kb,and_true,↓qY,qR,↓Xn,QS,XF,Xt,↓Qn,Qd,Ua,↓Qv,QN,Qf qek,↓XG,Xf,Qz Tryd.underlying46,QR Tryd.underlying46,qN,ne_eq,not_false_eq_true,qM wz eb_p,qM wz eb_s,ne_p_s,ne_p_s.symm,qO,qJ,VE,setAt,VF,Kj,qC,VG,Kn,Jp,Nat.reduceAdd,qF,qG,qI,qf,qK,qa,qz,qd,qE,qc,qA,qg,qH,qy,allLive,J4,tokV,posV,faultV,hlv,hlo,hbl,hpl,nb];repeat (with_reducible refine And.intro ?_ ?_;· first|trivial|omega|(intro hg;simp only[Ky,JH,Jh,VH,VI,VJ,decide_eq_true_eq,decide_eq_false_iff_not,qU]at hg;omega))
 apply hK;clear hK K;refine QK ?_;refine XL [0,1,2,3,4,10,26,27,28] (fun g:B1G=>[(0, .ptr (.own kp) 0),(1, .ptr (.own ks) 0),(2, .str w),(3, .int .i64 n),(4, .int .i64 dd),(10, .int .i64 i),(26,bv),(27, .int .i64 c.bodies.length),(28, .int .i64 g.j)]) (fun g:B1G=>g.H) (fun g:B1G=>Sep [B,one kp (parB3 v i ov),op,one ks (curB c pv bv),pp,tp,bp,E] g.H/\g.j<=bs.length/\Stm.twice c w=((bs.drop g.j).map (·.1)).any fun b=>(decide (b.1=w) && !decide (w=[87,72,69,78]))||decide (b.1=[87,72,69,78,32,79,84,72,69,82])) (fun g:B1G=>bs.length-g.j) ⟨0,h⟩ (by rfl) (Vg _) ⟨hS,Jq _,hTw⟩ ?_;rintro⟨j,H⟩ ⟨hS,hj,hTj⟩;simp only at hS hj hTj|-
 have eb_p:H kp=some _:=hS.at_ (i:=1) rfl;have eb_s:H ks=some _:=hS.at_ (i:=3) rfl;have hs_H:Sub B H:=hS.in_ (i:=0) rfl;refine awp_rseq [0,1,2,3,4,10,26,27,28,29] (by rfl) fun K hK=>?_;simp+decide only[qh,qi,qj,qo,ev,qZ,qW,putD,Vz,VA,VB,Ka,VC,VD,Kb,and_true,↓Qh,Qa,QB,cond_false,Qg,Zv,qN,ne_eq,not_false_eq_true,qM wz eb_p,qM wz eb_s,ne_p_s,ne_p_s.symm,qO,qJ,VE,setAt,VF,Kj,qC,VG,Kn,Jp,Nat.reduceAdd,qF,qG,qI,qf,qK,qa,qz,qd,qE,qc,qA,qg,qH,qy,allLive,J4,tokV,posV,faultV,hlv,hlo,hbl,hpl,nb];repeat (with_reducible refine And.intro ?_ ?_;· first|trivial|omega|(intro hg;simp only[Ky,JH,Jh,VH,VI,VJ,decide_eq_true_eq,decide_eq_false_iff_not,qU]at hg;omega))
 apply hK;clear hK K;refine Qr (Qu (b:=_) rfl (fun hb1=>?_) (fun hb1=>?_))
 ·try simp only[decide_eq_true_eq,decide_eq_false_iff_not,Jh,VJ,Ky,VH,JH,VI,VV,VW,reduceCtorEq]at hb1
  have hj':j<bs.length:=by omega
  obtain⟨q,hqe⟩:∃q,q=bs.getD j qew:=⟨_,rfl⟩
  have hqm:q∈bs:=by rw[hqe,Ko,JB hj'];exact Vr hj'
  have hqb:=hb2e.isL (wz:=wz) (hS.in_ (i:=6) rfl);obtain⟨lc,o,cc,hpe⟩:=qdF hqb (by omega);rw[hpe]at hqb;obtain⟨e0,e1,e2⟩:=qga hqb hj';rw[<-hqe]at e0 e1 e2;obtain⟨hqt,hqs⟩:=hb3e q hqm;have hl1:=hqt.live;have hs1:=hqt.scal;have hc1:=hqt.cells;obtain⟨hl2,hs2,hc2⟩:=hqs.shape;have hst:Stm.twice c w=(((decide (q.1.1=w) && !decide (w=[87,72,69,78]))||decide (q.1.1=[87,72,69,78,32,79,84,72,69,82]))||((bs.drop (j+1)).map (·.1)).any fun b=>(decide (b.1=w) && !decide (w=[87,72,69,78]))||decide (b.1=[87,72,69,78,32,79,84,72,69,82])):=by
   rw[hTj,J9 hj',Ke,BD];have:bs[j]=q:=by rw[hqe,Ko,JB hj'];rfl
   rw[this]
  obtain⟨⟨qw,qt,qL⟩,qtv,qlv⟩:=q;simp only at e0 e1 e2 hl1 hs1 hc1 hl2 hs2 hc2 hst;have hwj:IntKind.i64.wrap ((j:Int)+1)=((j+1:Nat):Int):=by rw[wrap_i64 (by omega) (by omega)];omega
  refine QE ?_;change Awp _ _ _ _ _ _ _;refine Qr ?_;refine QK ?_;refine awp_rseq [0,1,2,3,4,10,12,26,27,28] (by rfl) fun K hK=>?_;simp+decide only[qh,qi,qj,qo,ev,qZ,qW,putD,Vz,VA,VB,Ka,VC,VD,Kb,and_true,↓QU,QN,Ql Tryd.underlying46 qbg,↓Qv,Xm qpm qbg,qN,ne_eq,not_false_eq_true,qM wz eb_p,qM wz eb_s,ne_p_s,ne_p_s.symm,qO,qJ,VE,setAt,VF,Kj,qC,VG,Kn,Jp,Nat.reduceAdd,qF,qG,qI,qf,qK,qa,qz,qd,qE,qc,qA,qg,qH,qy,allLive,J4,tokV,posV,faultV,hlv,hlo,hbl,hpl,nb,hpe,e0,e1,e2,hl1,hl2,VO,VX,K6];repeat (with_reducible refine And.intro ?_ ?_;· first|trivial|omega|(intro hg;simp only[Ky,JH,Jh,VH,VI,VJ,decide_eq_true_eq,decide_eq_false_iff_not,qU]at hg;omega))
  refine XP qmD (cs:=[.str [], .nilSlice, .nilSlice]) (by rfl) fun k3q2 hk3q2=>?_;have hn_3q2:H k3q2=none:=by first|assumption|(simp only[V7]at hk3q2;simp only[hk3q2])
  have hf_3q2:B k3q2=none:=Bh hs_H hn_3q2;have ne_3q2_p:k3q2≠kp:=BF hn_3q2 eb_p;have ne_3q2_s:k3q2≠ks:=BF hn_3q2 eb_s;refine QO (by rfl) (by rfl) zqA qbg (by rfl) (by rfl) zqD (Jq _) (by first|rfl|(simp+decide only[ev,putD,Vz,VA,Ka,VE,XN,J4,VO,hs1,hs2,qcT,qcS,qbI])) ?_;simp only[Bi,setAt,VE,VF,Kj,Jp,Nat.reduceAdd];simp+decide only[qh,qi,qj,qo,ev,qZ,qW,putD,Vz,VA,VB,Ka,VC,VD,Kb,and_true,qN,ne_eq,not_false_eq_true,ne_3q2_p,ne_3q2_p.symm,ne_3q2_s,ne_3q2_s.symm,qM wz eb_p,qM wz eb_s,ne_p_s,ne_p_s.symm,qO,qJ,VE,setAt,VF,Kj,qC,VG,Kn,Jp,Nat.reduceAdd,qF,qG,qI,qf,qK,qa,qz,qd,qE,qc,qA,qg,qH,qy,allLive,J4,tokV,posV,faultV,hlv,hlo,hbl,hpl,nb,hpe,e0,e1,e2,hl1,hl2,VO,VX,K6];repeat (with_reducible refine And.intro ?_ ?_;· first|trivial|omega|(intro hg;simp only[Ky,JH,Jh,VH,VI,VJ,decide_eq_true_eq,decide_eq_false_iff_not,qU]at hg;omega))
  apply hK;clear hK K;refine awp_rseq [0,1,2,3,4,10,26,27,28,44] (by rfl) fun K hK=>?_;simp+decide only[qh,qi,qj,qo,ev,qZ,qW,putD,Vz,VA,VB,Ka,VC,VD,Kb,and_true,↓Qn,Qd,qja,↓Qv,QN,Qf ag9,↓qY,qR,↓Qh,Qa,QB,cond_false,Xu,Wo,↓Zy,agP,XH,gv,Qw,QJ,QI,QC,Qk,Qi,ZC,implies_true,VK,decide_true,decide_false,VL,VM,Qc,Qb,forall_const,false_implies,Qj,Qe,J4,VN,VO,VP,VQ,VS,VT,VU,Xp,Xr,Xo,↓XY,XE,Zh,Zg,Zj,Zi,qbw,↓XR,Xw,Xb,QM,QL,QG,XC,XB,XA,Xz,Xl,Xy,↓Zk,XU,XV,↓ZK,Zz,WM,Ya,ZZ,ZY,ZW,ZV,ZU,ZR,ZT,qN,ne_eq,not_false_eq_true,ne_3q2_p,ne_3q2_p.symm,ne_3q2_s,ne_3q2_s.symm,qM wz eb_p,qM wz eb_s,ne_p_s,ne_p_s.symm,qO,qJ,VE,setAt,VF,Kj,qC,VG,Kn,Jp,Nat.reduceAdd,qF,qG,qI,qf,qK,qa,qz,qd,qE,qc,qA,qg,qH,qy,allLive,J4,tokV,posV,faultV,hlv,hlo,hbl,hpl,nb];repeat (with_reducible refine And.intro ?_ ?_;· first|trivial|omega|(intro hg;simp only[Ky,JH,Jh,VH,VI,VJ,decide_eq_true_eq,decide_eq_false_iff_not,qU]at hg;omega))
  apply hK;clear hK K;refine Qu (b:=_) rfl (fun hb2=>?_) (fun hb2=>?_)
  ·try simp only[decide_eq_true_eq,decide_eq_false_iff_not,Jh,VJ,Ky,VH,JH,VI,VV,VW,reduceCtorEq]at hb2
   have hT:Stm.twice c w=true:=by
    rw[hst];rcases hb2 with⟨z1,z2⟩|z
    ·simp[z1,z2]
    ·simp[z]
   refine YD 2 (by rfl) (by rfl) ?_;simp only[Ki,Bj];simp+decide only[qh,qi,qj,qo,ev,qZ,qW,putD,Vz,VA,VB,Ka,VC,VD,Kb,and_true,↓qY,qR,qN,ne_eq,not_false_eq_true,ne_3q2_p,ne_3q2_p.symm,ne_3q2_s,ne_3q2_s.symm,qM wz eb_p,qM wz eb_s,ne_p_s,ne_p_s.symm,qO,qJ,VE,setAt,VF,Kj,qC,VG,Kn,Jp,Nat.reduceAdd,qF,qG,qI,qf,qK,qa,qz,qd,qE,qc,qA,qg,qH,qy,allLive,J4,tokV,posV,faultV,hlv,hlo,hbl,hpl,nb];repeat (with_reducible refine And.intro ?_ ?_;· first|trivial|omega|(intro hg;simp only[Ky,JH,Jh,VH,VI,VJ,decide_eq_true_eq,decide_eq_false_iff_not,qU]at hg;omega))
   refine⟨⟨_,_,by rfl,?_⟩,by intro i;first|trivial|exact .inr trivial|exact .inr rfl⟩;exact(qcG wz _ B kp v ov l i 4 i zqA zqB hv (by omega) (by omega)).mono (fun _ _ q=>q) fun x h' ⟨q1,q2⟩=>⟨_,BodyR.twice hT,q1,Bq (by assumption) (Bq zqB q2)⟩
  ·try simp only[decide_eq_true_eq,decide_eq_false_iff_not,Jh,VJ,Ky,VH,JH,VI,VV,VW,reduceCtorEq]at hb2
   have hst2:Stm.twice c w=((bs.drop (j+1)).map (·.1)).any fun b=>(decide (b.1=w) && !decide (w=[87,72,69,78]))||decide (b.1=[87,72,69,78,32,79,84,72,69,82]):=by
    rw[hst];have:(decide (qw=w) && !decide (w=[87,72,69,78])||decide (qw=[87,72,69,78,32,79,84,72,69,82]))=false:=by
     rw[<-BL];intro z;simp only[JH,Ky,decide_eq_true_eq,Jh,decide_eq_false_iff_not]at z;rcases z with⟨z1,z2⟩|z
     ·rcases hb2.1 with y|y
      ·exact y z1
      ·exact z2 y
     ·exact hb2.2 z
    rw[this,VU]
   refine QE ?_;change Awp _ _ _ _ _ _ _;refine Zf [0,1,2,3,4,10,26,27,28] (by rfl) ?_;simp+decide only[qh,qi,qj,qo,ev,qZ,qW,putD,Vz,VA,VB,Ka,VC,VD,Kb,and_true,↓Qh,Qa,Qm,cond_false,Qg,XM,↓qY,qR,qN,ne_eq,not_false_eq_true,ne_3q2_p,ne_3q2_p.symm,ne_3q2_s,ne_3q2_s.symm,qM wz eb_p,qM wz eb_s,ne_p_s,ne_p_s.symm,qO,qJ,VE,setAt,VF,Kj,qC,VG,Kn,Jp,Nat.reduceAdd,qF,qG,qI,qf,qK,qa,qz,qd,qE,qc,qA,qg,qH,qy,allLive,J4,tokV,posV,faultV,hlv,hlo,hbl,hpl,nb,hwj];try simp(disch:=omega)only[wrap_i64,wrap_u8]
   repeat (with_reducible refine And.intro ?_ ?_;· first|trivial|omega|(intro hg;simp only[Ky,JH,Jh,VH,VI,VJ,decide_eq_true_eq,decide_eq_false_iff_not,qU]at hg;omega))
   try simp only[QH,Qt]
   exact⟨⟨j+1,_⟩,by rw[hpe];rfl,Vg _,⟨hS.forget zqB,hj',hst2⟩,by simp only;omega⟩
 ·try simp only[decide_eq_true_eq,decide_eq_false_iff_not,Jh,VJ,Ky,VH,JH,VI,VV,VW,reduceCtorEq]at hb1
  have hj':j=bs.length:=by omega
  have hTf:Stm.twice c w=false:=by rw[hTj,hj',J8];rfl
  refine XJ ?_;change Awp _ _ _ _ _ _ _;refine JP [0,1,2,3,4,10] ?_;exact hrest H B kp ks v ov bv pv op pp tp bp E O c w n i hS hP hC hF hO hin hpos ⟨hf1,hf2,hf3⟩ hTf
set_option maxHeartbeats 8000000 in
theorem qrd(wz:World)(hm:MaxL wz)(ha:Asp wz)(l:List TokC)(hl:l.length<=65537)(hsh:Short l)(dd:Nat)(hdd:dd<=32)(hd0:0<dd)(H B:AHeap)(kp ks:Nat)(v ov bv pv:AVal)(op pp tp bp E:AHeap)(O:List Str)(c:Cur)(w:Str)(n i:Nat)
 (hS:Sep [B,one kp (parB3 v i ov),op,one ks (curB c pv bv),pp,tp,bp,E] H) (hP:ParS wz l B v ov op O i) (hC:CurS wz (32-dd) c pv bv pp tp bp E) (hF:Fair O) (hO:O.length=dd) (hin:i+n<=l.length) (hTf:Stm.twice c w=false)
 (hrest:∀(kb:Nat) (g:B2G),B2I wz l B kp ks kb v ov pv bv op pp tp bp E c w (i+n) g->headW l O w n i=(g.toks,g.i)->¬(w=Ue/\(headW l O w n i).1=[])->
   Awp Tryd.prog wz ⟨210,[],GP wz 210 [] [] (qhI B fun f=>BodyRO l dd O c w n i (.bad f))⟩ (WK 6 (qbT Tryd.f59)) (qcb Tryd.prog wz [] (fun r h'=>r= .tuple []/\qhM wz l B kp ks v pv pp tp O dd n i c w h')) [(0, .ptr (.own kp) 0),(1, .ptr (.own ks) 0),(2, .str w),(4, .int .i64 dd),(10, .int .i64 i),(13, .ptr (.own kb) 0),(14, .str (O.getLastD []))] (g.H)):
 Awp Tryd.prog wz ⟨210,[],GP wz 210 [] [] (qhI B fun f=>BodyRO l dd O c w n i (.bad f))⟩ (WK 2 (qbT Tryd.f59)) (qcb Tryd.prog wz [] (fun r h'=>r= .tuple []/\qhM wz l B kp ks v pv pp tp O dd n i c w h')) [(0, .ptr (.own kp) 0),(1, .ptr (.own ks) 0),(2, .str w),(3, .int .i64 n),(4, .int .i64 dd),(10, .int .i64 i)] (H):=by
 have eb_p:H kp=some _:=hS.at_ (i:=1) rfl;have eb_s:H ks=some _:=hS.at_ (i:=3) rfl;have ne_p_s:kp≠ks:=hS.ne (i:=1) (j:=3) rfl rfl (by decide);have hs_H:Sub B H:=hS.in_ (i:=0) rfl;have hv:=hP.toks;have hlv:=hv.live;have hlo:=hP.open_.live;obtain⟨hpl,hps,hpc⟩:=hC.pv_ok;obtain⟨hbl,hbs,hbc,nb⟩:=hC.bv_len;have hin2:i<=l.length:=hP.at_;have hwn:IntKind.i64.wrap ((i:Int)+n)=((i+n:Nat):Int):=by rw[wrap_i64 (by omega) (by omega)];omega
 change Awp _ _ _ (Code.seq _ _) _ _ _;refine awp_rseq [0,1,2,4,10] (by rfl) fun K hK=>?_;simp+decide only[qh,qi,qj,qo,ev,qZ,qW,putD,Vz,VA,VB,Ka,VC,VD,Kb,and_true,↓qY,qR,↓Xn,QS,XF,Xt,↓Qn,Qd,YR,↓Qv,QN,Qf ag3,↓Qh,Qa,QB,cond_false,Qg,XM,qN,ne_eq,not_false_eq_true,qM wz eb_p,qM wz eb_s,ne_p_s,ne_p_s.symm,qO,qJ,VE,setAt,VF,Kj,qC,VG,Kn,Jp,Nat.reduceAdd,qF,qG,qI,qf,qK,qa,qz,qd,qE,qc,qA,qg,qH,qy,allLive,J4,tokV,posV,faultV,hlv,hlo,hbl,hpl,nb,hwn];try simp(disch:=omega)only[wrap_i64,wrap_u8]
 repeat (with_reducible refine And.intro ?_ ?_;· first|trivial|omega|(intro hg;simp only[Ky,JH,Jh,VH,VI,VJ,decide_eq_true_eq,decide_eq_false_iff_not,qU]at hg;omega))
 refine QO (by rfl) (by rfl) zqA sz3 (by rfl) (by rfl) zqD (Jq _) (by rfl) ?_;simp only[Bi,setAt,VE,VF,Kj,Jp,Nat.reduceAdd];simp+decide only[qh,qi,qj,qo,ev,qZ,qW,putD,Vz,VA,VB,Ka,VC,VD,Kb,and_true,qN,ne_eq,not_false_eq_true,qM wz eb_p,qM wz eb_s,ne_p_s,ne_p_s.symm,qO,qJ,VE,setAt,VF,Kj,qC,VG,Kn,Jp,Nat.reduceAdd,qF,qG,qI,qf,qK,qa,qz,qd,qE,qc,qA,qg,qH,qy,allLive,J4,tokV,posV,faultV,hlv,hlo,hbl,hpl,nb,hwn];repeat (with_reducible refine And.intro ?_ ?_;· first|trivial|omega|(intro hg;simp only[Ky,JH,Jh,VH,VI,VJ,decide_eq_true_eq,decide_eq_false_iff_not,qU]at hg;omega))
 apply hK;clear hK K;refine awp_rseq [0,1,2,4,10,13] (by rfl) fun K hK=>?_;simp+decide only[qh,qi,qj,qo,ev,qZ,qW,putD,Vz,VA,VB,Ka,VC,VD,Kb,and_true,↓qY,qR,↓qar,YL,↓Yf,qry,evP,Ke,Vh,WC,ZH,YN,qaH,Yk,Ur,YO,qN,ne_eq,not_false_eq_true,qM wz eb_p,qM wz eb_s,ne_p_s,ne_p_s.symm,qO,qJ,VE,setAt,VF,Kj,qC,VG,Kn,Jp,Nat.reduceAdd,qF,qG,qI,qf,qK,qa,qz,qd,qE,qc,qA,qg,qH,qy,allLive,J4,tokV,posV,faultV,hlv,hlo,hbl,hpl,nb];repeat (with_reducible refine And.intro ?_ ?_;· first|trivial|omega|(intro hg;simp only[Ky,JH,Jh,VH,VI,VJ,decide_eq_true_eq,decide_eq_false_iff_not,qU]at hg;omega))
 refine XP qmD (cs:=[.str [], .nilSlice, .nilSlice]) (by rfl) fun k8q2 hk8q2=>?_;have hn_8q2:H k8q2=none:=by first|assumption|(simp only[V7]at hk8q2;simp only[hk8q2])
 have hf_8q2:B k8q2=none:=Bh hs_H hn_8q2;have ne_8q2_p:k8q2≠kp:=BF hn_8q2 eb_p;have ne_8q2_s:k8q2≠ks:=BF hn_8q2 eb_s;refine QO (by rfl) (by rfl) zqA qbg (by rfl) (by rfl) zqD (Jq _) (by rfl) ?_;simp only[Bi,setAt,VE,VF,Kj,Jp,Nat.reduceAdd];simp+decide only[qh,qi,qj,qo,ev,qZ,qW,putD,Vz,VA,VB,Ka,VC,VD,Kb,and_true,qN,ne_eq,not_false_eq_true,ne_8q2_p,ne_8q2_p.symm,ne_8q2_s,ne_8q2_s.symm,qM wz eb_p,qM wz eb_s,ne_p_s,ne_p_s.symm,qO,qJ,VE,setAt,VF,Kj,qC,VG,Kn,Jp,Nat.reduceAdd,qF,qG,qI,qf,qK,qa,qz,qd,qE,qc,qA,qg,qH,qy,allLive,J4,tokV,posV,faultV,hlv,hlo,hbl,hpl,nb];repeat (with_reducible refine And.intro ?_ ?_;· first|trivial|omega|(intro hg;simp only[Ky,JH,Jh,VH,VI,VJ,decide_eq_true_eq,decide_eq_false_iff_not,qU]at hg;omega))
 apply hK;clear hK K;obtain⟨H9,hH9⟩:∃H9,H9=(H.set kp (parB3 v (i+n) ov)).set k8q2 ⟨[.str w, .nilSlice, .nilSlice],0⟩:=⟨_,rfl⟩
 refine BI (h':=H9) (by rw[hH9];exact Vg _) ?_;have hS9:=(hS.put (i:=1) rfl (parB3 v (i+n) ov)).lay hk8q2 ⟨[.str w, .nilSlice, .nilSlice],0⟩;rw[<-hH9]at hS9;simp only[VF,Kj,Kh,Jd]at hS9;have eb_p:H9 kp=some _:=hS9.at_ (i:=1) rfl;have eb_s:H9 ks=some _:=hS9.at_ (i:=3) rfl;have eb_8q2:H9 k8q2=some _:=hS9.at_ (i:=8) rfl;have ne_p_8q2:kp≠k8q2:=hS9.ne (i:=1) (j:=8) rfl rfl (by decide);have ne_s_8q2:ks≠k8q2:=hS9.ne (i:=3) (j:=8) rfl rfl (by decide);have hs_H9:Sub B H9:=hS9.in_ (i:=0) rfl;have hos:IsStrs wz H9 ov O:=hP.open_.isL (hS9.in_ (i:=2) rfl);have no:=qaJ hos;obtain⟨lo,oo,co,hove⟩:=qgE hos (by omega);have hos2:=hos;rw[hove]at hos2;have hwo:IntKind.i64.wrap ((O.length:Int)-1)=((O.length-1:Nat):Int):=by rw[wrap_i64 (by omega) (by omega)];omega
 have ef:=qgF hos2 (i:=O.length-1) (by omega);obtain⟨fm,hfm⟩:∃fm,fm=O.getLastD []:=⟨_,rfl⟩
 have hfl:O.getD (O.length-1) []=fm:=by
  rw[hfm,BM,List.getLast?_eq_getElem?];rfl
 rw[hfl]at ef;obtain⟨hfm1,hfm2⟩:=qfp hF;rw[<-hfm]at hfm1 hfm2;refine qbl [0,1,2,4,10,13,14] mixed (by kernel_rfl) (by rfl) (by rfl) fun K hK=>?_;simp+decide only[qh,qi,qj,qo,ev,qZ,qW,putD,Vz,VA,VB,Ka,VC,VD,Kb,and_true,↓qY,qR,↓Xn,QS,XF,Xt,↓Qn,Qd,qfr,↓Qv,QN,Qf qrI,↓XG,Xf,Qz Tryd.underlying22,QR Tryd.underlying22,↓Qh,Qa,Qm,cond_false,Qg,qba,qN,ne_eq,not_false_eq_true,qM wz eb_p,qM wz eb_s,qM wz eb_8q2,ne_p_s,ne_p_s.symm,ne_8q2_p,ne_8q2_p.symm,ne_8q2_s,ne_8q2_s.symm,qO,qJ,VE,setAt,VF,Kj,qC,VG,Kn,Jp,Nat.reduceAdd,qF,qG,qI,qf,qK,qa,qz,qd,qE,qc,qA,qg,qH,qy,allLive,J4,tokV,posV,faultV,hlv,hlo,hbl,hpl,nb,no,hwo,hove,ef,VX,Nat.mul_one,K6];try simp(disch:=omega)only[wrap_i64,wrap_u8]
 try simp+decide only[qh,qi,qj,qo,ev,qZ,qW,putD,Vz,VA,VB,Ka,VC,VD,Kb,and_true,↓QU,QN,Ql Tryd.underlying22 sz9,↓Qv,Qf ag9,↓qV,qP,qN,ne_eq,not_false_eq_true,qM wz eb_p,qM wz eb_s,qM wz eb_8q2,ne_p_s,ne_p_s.symm,ne_8q2_p,ne_8q2_p.symm,ne_8q2_s,ne_8q2_s.symm,qO,qJ,VE,setAt,VF,Kj,qC,VG,Kn,Jp,Nat.reduceAdd,qF,qG,qI,qf,qK,qa,qz,qd,qE,qc,qA,qg,qH,qy,allLive,J4,tokV,posV,faultV,hlv,hlo,hbl,hpl,nb,no,hwo,hove,ef,VX,Nat.mul_one,K6]
 repeat (with_reducible refine And.intro ?_ ?_;· first|trivial|omega|(intro hg;simp only[Ky,JH,Jh,VH,VI,VJ,decide_eq_true_eq,decide_eq_false_iff_not,qU]at hg;omega))
 apply hK;clear hK K;refine Qr ?_;refine awp_rseq [0,1,2,4,10,13,14,72] (by rfl) fun K hK=>?_;simp+decide only[qh,qi,qj,qo,ev,qZ,qW,putD,Vz,VA,VB,Ka,VC,VD,Kb,and_true,↓qY,qR,↓Qh,Qa,XE,cond_false,Xu,Wo,qN,ne_eq,not_false_eq_true,qM wz eb_p,qM wz eb_s,qM wz eb_8q2,ne_p_s,ne_p_s.symm,ne_8q2_p,ne_8q2_p.symm,ne_8q2_s,ne_8q2_s.symm,qO,qJ,VE,setAt,VF,Kj,qC,VG,Kn,Jp,Nat.reduceAdd,qF,qG,qI,qf,qK,qa,qz,qd,qE,qc,qA,qg,qH,qy,allLive,J4,tokV,posV,faultV,hlv,hlo,hbl,hpl,nb];repeat (with_reducible refine And.intro ?_ ?_;· first|trivial|omega|(intro hg;simp only[Ky,JH,Jh,VH,VI,VJ,decide_eq_true_eq,decide_eq_false_iff_not,qU]at hg;omega))
 apply hK;clear hK K;refine qiv [0,1,2,4,10,13,14] (fun g:B2G=>[(0, .ptr (.own kp) 0),(1, .ptr (.own ks) 0),(2, .str w),(4, .int .i64 dd),(10, .int .i64 i),(13, .ptr (.own k8q2) 0),(14, .str fm)]) (fun g:B2G=>g.H) (fun g:B2G=>B2I wz l B kp ks k8q2 v ov pv bv op pp tp bp E c w (i+n) g/\headW l O w n i=(g.toks,g.i)/\¬(w=Ue/\(headW l O w n i).1=[])) ?_ ?_
 ·refine Qu (b:=_) rfl (fun hb1=>?_) (fun hb1=>?_)
  ·try simp only[decide_eq_true_eq,decide_eq_false_iff_not,Jh,VJ,Ky,VH,JH,VI,VV,VW,reduceCtorEq]at hb1
   have hwW:w=Ue:=hb1;have hW:headW l O w n i=qnE l fm (i+n):=by unfold headW;rw[if_pos hwW,hfm]
   refine Qr ?_;refine QK ?_;refine XL [0,1,2,4,10,13,14] (fun g:B2G=>[(0, .ptr (.own kp) 0),(1, .ptr (.own ks) 0),(2, .str w),(4, .int .i64 dd),(10, .int .i64 i),(13, .ptr (.own k8q2) 0),(14, .str fm)]) (fun g:B2G=>g.H) (fun g:B2G=>B2I wz l B kp ks k8q2 v ov pv bv op pp tp bp E c w (i+n) g/\headW l O w n i=qcm l fm (l.length-g.i) g.i g.toks) (fun g:B2G=>l.length-g.i) ⟨[],i+n, .nilSlice,emp,H9⟩ (by rfl) (Vg _) ⟨⟨hS9.emp, .nil,hin,KL _,Jq _⟩,hW⟩ ?_;rintro⟨toks,a,tv,q,H2⟩ ⟨⟨hS2,hrow,hal,hle,hfw⟩,hgo⟩;simp only at hS2 hrow hal hle hfw hgo|-
   have eb_p:H2 kp=some _:=hS2.at_ (i:=1) rfl;have eb_s:H2 ks=some _:=hS2.at_ (i:=3) rfl;have eb_8q2:H2 k8q2=some _:=hS2.at_ (i:=8) rfl;have hs_H2:Sub B H2:=hS2.in_ (i:=0) rfl;have nv:=YU hv;have htl:=hrow.live;have nt:∀H:AHeap,YG Tryd.prog H 31 tv=⟨True, .int .i64 toks.length⟩:=YU (wz:=wz) (hrow.isL (Vg _));refine Qr ?_;have mcase:qtd wz H2 l v a:=mc11 (hv.mono hs_H2);have hta:a<l.length->(l.getD a noT).text.length<=1000000:=fun z=>hsh.at z;unfold qtd at mcase;refine qaE 52 [] [0,1,2,4,10,13,14,124] mixed (by kernel_rfl) (by rfl) fun K hK=>?_;try simp only[BN,Kh,Jd]
   simp only[Ki,Bj,Ba,Vk,BG,BH];suffices hM:∀b:Bool,b=goW l a->K [(0, .ptr (.own kp) 0),(1, .ptr (.own ks) 0),(2, .str w),(4, .int .i64 dd),(10, .int .i64 i),(13, .ptr (.own k8q2) 0),(14, .str fm),(124, .bool b)] (H2) by
    rcases mcase with⟨lc,o,cc,hve,hkd,hkl,hk6,hvt,e0,e1,e2,e3,e4,hfin⟩|⟨lc,o,cc,hve,hkd,hkl,hk6,hvt,e0,e1,e2,e3,e4,hfin⟩|⟨lc,o,cc,hve,hkd,hkl,hk6,hvt,e0,e1,e2,e3,e4,hfin⟩|⟨lc,o,cc,hve,hkd,hkl,hk6,hvt,e0,e1,e2,e3,e4,hfin⟩<;>(
     try simp only[BN,Kh,Jd]
     simp+decide only[qh,qi,qj,qo,ev,qZ,qW,putD,Vz,VA,VB,Ka,VC,VD,Kb,and_true,↓qaN,qR,↓UW,QS,XF,Xt,↓Wl,Qd,YR,↓qaO,Yb,Qf ag3,qbC,Qf qbV,↓qsH,Xf,Qz Tryd.underlying31,QR Tryd.underlying31,↓qeB,Qa,QB,cond_false,Qg,Zv,↓qmm,fgP,qhj,gv,Qw,QJ,QI,QC,Qk,Qi,ZC,implies_true,VK,decide_true,decide_false,VL,VM,Qc,Qb,forall_const,false_implies,Qj,Qe,J4,VN,VO,VP,VQ,VS,VT,VU,Xp,Xr,Xo,↓qfU,qfv,qfw,↓qeG,XU,XV,↓qmn,ZF,Ya,ZZ,ZY,ZW,ZV,ZU,ZR,ZT,↓qeF,UM,UL,UK,UJ,UI,UH,UC,UB,UG,UF,UE,UD,Ql Tryd.underlying31 Ye,YY,YW,Wd,YZ,Uv,Qf qgi,↓qkg,Qm,Zh,Zg,Zj,Zi,qby,↓qiV,Xw,Xb,QM,QL,QG,XC,XB,XA,Xz,Xl,Xy,Xm qhU Ye,qN,ne_eq,not_false_eq_true,qM wz eb_p,qM wz eb_s,qM wz eb_8q2,ne_p_s,ne_p_s.symm,ne_8q2_p,ne_8q2_p.symm,ne_8q2_s,ne_8q2_s.symm,qO,qJ,VE,setAt,VF,Kj,qC,VG,Kn,Jp,Nat.reduceAdd,qF,qG,qI,qf,qK,qa,qz,qd,qE,qc,qA,qg,qH,qy,allLive,J4,tokV,posV,faultV,hlv,hlo,hbl,hpl,nb,hlv,nv,htl,hve,hkd,hk6,hvt,e0,e1,e2,e3,e4,VX,K6,qal,Qb,Qc,VP,VO];repeat (with_reducible refine And.intro ?_ ?_;· first|trivial|omega|(intro hg;simp only[Ky,JH,Jh,VH,VI,VJ,decide_eq_true_eq,decide_eq_false_iff_not,qU]at hg;omega))
     first
     |(refine qki (by rfl) ?_)
     |(refine qeb (V:= .bool (Ul (l.getD a noT))) (f:=37) (cap:=[]) (xs:=[tokV (l.getD a noT)]) (by rfl) (fun hg=>⟨rfl,rfl⟩) trivial (fun hg g hsub=>qdk wz hm _ _ (hta hkl)) ?_)
     simp+decide only[qh,qi,qj,qo,ev,qZ,qW,putD,Vz,VA,VB,Ka,VC,VD,Kb,and_true,gv,Qw,Qk,Qi,QC,↓qrk,qae,fgP,qhj,QJ,QI,ZC,implies_true,VK,decide_true,decide_false,VL,VM,Qc,Qb,forall_const,false_implies,Qj,Qe,J4,VN,VO,VP,VQ,VS,VT,VU,qcy,qkm,qkn,Xp,Xr,Xo,↓qiV,Xw,Xb,QM,QL,QG,XC,XB,XA,Xz,Xl,Xy,↓qaN,qR,↓qmm,↓qfU,QS,XF,Xt,qfv,qfw,↓qeG,Qd,qbC,XU,XV,↓qmn,Yb,ZF,Ya,ZZ,ZY,ZW,ZV,ZU,Qf qbV,ZR,ZT,YR,Qf ag3,↓qeF,UM,UL,UK,UJ,UI,UH,UC,UB,UG,UF,UE,UD,Ql Tryd.underlying31 Ye,YY,YW,Wd,YZ,Xm qhU Ye,qN,ne_eq,not_false_eq_true,qM wz eb_p,qM wz eb_s,qM wz eb_8q2,ne_p_s,ne_p_s.symm,ne_8q2_p,ne_8q2_p.symm,ne_8q2_s,ne_8q2_s.symm,qO,qJ,VE,setAt,VF,Kj,qC,VG,Kn,Jp,Nat.reduceAdd,qF,qG,qI,qf,qK,qa,qz,qd,qE,qc,qA,qg,qH,qy,allLive,J4,tokV,posV,faultV,hlv,hlo,hbl,hpl,nb,hlv,nv,htl,hve,hkd,hk6,hvt,e0,e1,e2,e3,e4,VX,K6,qal,Qb,Qc,VP,VO];try simp(disch:=omega)only[wrap_i64,wrap_u8]
     repeat (with_reducible refine And.intro ?_ ?_;· first|trivial|omega|(intro hg;simp only[Ky,JH,Jh,VH,VI,VJ,decide_eq_true_eq,decide_eq_false_iff_not,qU]at hg;omega))
     first
     |(refine qki (by rfl) ?_)
     |(refine qeb (V:= .str (qcE (l.getD a noT))) (f:=57) (cap:=[]) (xs:=[tokV (l.getD a noT)]) (by rfl) (fun hg=>⟨rfl,rfl⟩) trivial (fun hg g hsub=>qmw wz hm _ _ (hta hkl)) ?_)
     simp+decide only[qh,qi,qj,qo,ev,qZ,qW,putD,Vz,VA,VB,Ka,VC,VD,Kb,and_true,gv,Qw,Qk,Qi,QC,↓qkg,Qa,fgP,qhj,QJ,QI,ZC,implies_true,VK,decide_true,decide_false,VL,VM,Qc,Qb,forall_const,false_implies,Qj,Qe,J4,VN,VO,VP,VQ,VS,VT,VU,XE,cond_false,Zh,Zg,Zj,Zi,Xu,Wo,Xp,Xr,Xo,↓qiV,Xw,Xb,QM,QL,QG,XC,XB,XA,Xz,Xl,Xy,qN,ne_eq,not_false_eq_true,qM wz eb_p,qM wz eb_s,qM wz eb_8q2,ne_p_s,ne_p_s.symm,ne_8q2_p,ne_8q2_p.symm,ne_8q2_s,ne_8q2_s.symm,qO,qJ,VE,setAt,VF,Kj,qC,VG,Kn,Jp,Nat.reduceAdd,qF,qG,qI,qf,qK,qa,qz,qd,qE,qc,qA,qg,qH,qy,allLive,J4,tokV,posV,faultV,hlv,hlo,hbl,hpl,nb,hlv,nv,htl,hve,hkd,hk6,hvt,e0,e1,e2,e3,e4,VX,K6,qal,Qb,Qc,VP,VO];repeat (with_reducible refine And.intro ?_ ?_;· first|trivial|omega|(intro hg;simp only[Ky,JH,Jh,VH,VI,VJ,decide_eq_true_eq,decide_eq_false_iff_not,qU]at hg;omega))
     exact hM _ hfin.symm)
   intro b hb_11;apply hK;clear hK K;refine Qu (b:=_) rfl (fun hb2=>?_) (fun hb2=>?_)
   ·try simp only[decide_eq_true_eq,decide_eq_false_iff_not,Jh,VJ,Ky,VH,JH,VI,VV,VW,reduceCtorEq]at hb2
    have hgo1:isE l a=false/\isV l a=false/\qbG l a=[]:=by
     have z:goW l a=true:=by rw[<-hb_11];exact hb2
     unfold goW at z;simp only[Jh,VI,VJ,decide_eq_true_eq]at z;exact⟨z.1,z.2.1,z.2.2⟩
    have hal2:a<l.length:=by
     by_cases z:a<l.length
     ·exact z
     ·have y:=hgo1.1
      unfold isE at y;rw[if_neg z]at y;cases y
    refine QE ?_;change Awp _ _ _ _ _ _ _;refine QK ?_;refine Qr ?_;refine awp_rseq [0,1,2,4,10,13,14,16] (by rfl) fun K hK=>?_;simp+decide only[qh,qi,qj,qo,ev,qZ,qW,putD,Vz,VA,VB,Ka,VC,VD,Kb,and_true,↓qY,qR,qN,ne_eq,not_false_eq_true,qM wz eb_p,qM wz eb_s,qM wz eb_8q2,ne_p_s,ne_p_s.symm,ne_8q2_p,ne_8q2_p.symm,ne_8q2_s,ne_8q2_s.symm,qO,qJ,VE,setAt,VF,Kj,qC,VG,Kn,Jp,Nat.reduceAdd,qF,qG,qI,qf,qK,qa,qz,qd,qE,qc,qA,qg,qH,qy,allLive,J4,tokV,posV,faultV,hlv,hlo,hbl,hpl,nb];repeat (with_reducible refine And.intro ?_ ?_;· first|trivial|omega|(intro hg;simp only[Ky,JH,Jh,VH,VI,VJ,decide_eq_true_eq,decide_eq_false_iff_not,qU]at hg;omega))
    refine Xk (V:= .tuple [.str (Xv l a fm).1, .int .i64 (Xv l a fm).2]) (by rfl) (by rfl) (qdi wz ha _ (.own kp) 0 v l a fm (qM wz eb_p 0) (qM wz eb_p 1) (hv.mono zqB) (by omega) hal hfm1 hfm2) ?_;simp+decide only[qh,qi,qj,qo,ev,qZ,qW,putD,Vz,VA,VB,Ka,VC,VD,Kb,and_true,↓qY,qR,↓XW,XK,Zd,KX,JD,VG,Kn,↓qV,qP,qN,ne_eq,not_false_eq_true,qM wz eb_p,qM wz eb_s,qM wz eb_8q2,ne_p_s,ne_p_s.symm,ne_8q2_p,ne_8q2_p.symm,ne_8q2_s,ne_8q2_s.symm,qO,qJ,VE,setAt,VF,Kj,qC,VG,Kn,Jp,Nat.reduceAdd,qF,qG,qI,qf,qK,qa,qz,qd,qE,qc,qA,qg,qH,qy,allLive,J4,tokV,posV,faultV,hlv,hlo,hbl,hpl,nb];repeat (with_reducible refine And.intro ?_ ?_;· first|trivial|omega|(intro hg;simp only[Ky,JH,Jh,VH,VI,VJ,decide_eq_true_eq,decide_eq_false_iff_not,qU]at hg;omega))
    apply hK;clear hK K;refine awp_rseq [0,1,2,4,10,13,14,132] (by rfl) fun K hK=>?_;simp+decide only[qh,qi,qj,qo,ev,qZ,qW,putD,Vz,VA,VB,Ka,VC,VD,Kb,and_true,↓qY,qR,↓Qh,Qa,Qm,cond_false,Qg,Uu,qN,ne_eq,not_false_eq_true,qM wz eb_p,qM wz eb_s,qM wz eb_8q2,ne_p_s,ne_p_s.symm,ne_8q2_p,ne_8q2_p.symm,ne_8q2_s,ne_8q2_s.symm,qO,qJ,VE,setAt,VF,Kj,qC,VG,Kn,Jp,Nat.reduceAdd,qF,qG,qI,qf,qK,qa,qz,qd,qE,qc,qA,qg,qH,qy,allLive,J4,tokV,posV,faultV,hlv,hlo,hbl,hpl,nb];repeat (with_reducible refine And.intro ?_ ?_;· first|trivial|omega|(intro hg;simp only[Ky,JH,Jh,VH,VI,VJ,decide_eq_true_eq,decide_eq_false_iff_not,qU]at hg;omega))
    apply hK;clear hK K;refine Qu (b:=_) rfl (fun hb3=>?_) (fun hb3=>?_)
    ·try simp only[decide_eq_true_eq,decide_eq_false_iff_not,Jh,VJ,Ky,VH,JH,VI,VV,VW,reduceCtorEq]at hb3
     have hWd:headW l O w n i=(toks,a):=by rw[hgo];exact qcN (.inr (.inr (.inr (by omega))))
     refine XJ ?_;change Awp _ _ _ _ _ _ _;refine awp_rseq [0,1,2,4,10,13,14,158] (by rfl) fun K hK=>?_;simp+decide only[qh,qi,qj,qo,ev,qZ,qW,putD,Vz,VA,VB,Ka,VC,VD,Kb,and_true,↓Qn,Qd,qea,↓Qv,QN,Qf qbV,↓XG,Xf,Qz Tryd.underlying31,QR Tryd.underlying31,↓Qh,Qa,Qm,cond_false,Qg,Yu,qN,ne_eq,not_false_eq_true,qM wz eb_p,qM wz eb_s,qM wz eb_8q2,ne_p_s,ne_p_s.symm,ne_8q2_p,ne_8q2_p.symm,ne_8q2_s,ne_8q2_s.symm,qO,qJ,VE,setAt,VF,Kj,qC,VG,Kn,Jp,Nat.reduceAdd,qF,qG,qI,qf,qK,qa,qz,qd,qE,qc,qA,qg,qH,qy,allLive,J4,tokV,posV,faultV,hlv,hlo,hbl,hpl,nb,nt,htl];repeat (with_reducible refine And.intro ?_ ?_;· first|trivial|omega|(intro hg;simp only[Ky,JH,Jh,VH,VI,VJ,decide_eq_true_eq,decide_eq_false_iff_not,qU]at hg;omega))
     apply hK;clear hK K;refine Qu (b:=_) rfl (fun hb4=>?_) (fun hb4=>?_)
     ·try simp only[decide_eq_true_eq,decide_eq_false_iff_not,Jh,VJ,Ky,VH,JH,VI,VV,VW,reduceCtorEq]at hb4
      have htk:toks=[]:=Kg (by omega);refine YD 2 (by rfl) (by rfl) ?_;simp only[Ki,Bj];simp+decide only[qh,qi,qj,qo,ev,qZ,qW,putD,Vz,VA,VB,Ka,VC,VD,Kb,and_true,↓qY,qR,qN,ne_eq,not_false_eq_true,qM wz eb_p,qM wz eb_s,qM wz eb_8q2,ne_p_s,ne_p_s.symm,ne_8q2_p,ne_8q2_p.symm,ne_8q2_s,ne_8q2_s.symm,qO,qJ,VE,setAt,VF,Kj,qC,VG,Kn,Jp,Nat.reduceAdd,qF,qG,qI,qf,qK,qa,qz,qd,qE,qc,qA,qg,qH,qy,allLive,J4,tokV,posV,faultV,hlv,hlo,hbl,hpl,nb];repeat (with_reducible refine And.intro ?_ ?_;· first|trivial|omega|(intro hg;simp only[Ky,JH,Jh,VH,VI,VJ,decide_eq_true_eq,decide_eq_false_iff_not,qU]at hg;omega))
      refine⟨⟨_,_,by rfl,?_⟩,by intro i;first|trivial|exact .inr trivial|exact .inr rfl⟩;exact(qcG wz _ B kp v ov l a 4 i zqA zqB hv (by omega) (by omega)).mono (fun _ _ q=>q) fun x h' ⟨q1,q2⟩=>⟨_,BO hTf ⟨hwW,by rw[hWd];exact htk⟩,q1,Bq (by assumption) q2⟩
     ·try simp only[decide_eq_true_eq,decide_eq_false_iff_not,Jh,VJ,Ky,VH,JH,VI,VV,VW,reduceCtorEq]at hb4
      have htk:toks≠[]:=fun z=>by rw[z]at hb4;exact hb4 rfl
      refine QE ?_;try simp only[QH,Qt]
      first
      |exact⟨⟨toks,a,tv,q,H2⟩,rfl,Vg _,⟨hS2,hrow,hal,hle,hfw⟩,hWd,fun z=>htk (by rw[hWd]at z;exact z.2)⟩
      |exact⟨⟨[],i+n, .nilSlice,emp,H9⟩,rfl,Vg _,⟨hS9.emp, .nil,hin,KL _,Jq _⟩,by unfold headW;rw[if_neg hwW],fun z=>hwW z.1⟩
    ·try simp only[decide_eq_true_eq,decide_eq_false_iff_not,Jh,VJ,Ky,VH,JH,VI,VV,VW,reduceCtorEq]at hb3
     have hgo2:headW l O w n i=qcm l fm (l.length-(a+1)) (a+1) (toks++[l.getD a noT]):=by
      rw[hgo];refine qjz hal2 ?_;rintro(z|z|z|z)
      ·rw[hgo1.1]at z;cases z
      ·rw[hgo1.2.1]at z;cases z
      ·exact z hgo1.2.2
      ·omega
     refine QE ?_;change Awp _ _ _ _ _ _ _;obtain⟨lc,o,cc,hve⟩:=Yr hv (by omega);have hv2:=hv.mono hs_H2;rw[hve]at hv2;obtain⟨e0,e1,e2,e3,e4⟩:=Ut hv2 hal2;obtain⟨t,ht⟩:∃t,t=l.getD a noT:=⟨_,rfl⟩
     rw[<-ht]at e0 e1 e2 e3 e4 hgo2;refine qaE 13 [] [0,1,2,4,10,13,14] mixed (by kernel_rfl) (by rfl) fun K hK=>?_;simp only[Ki,Bj,Ba,Vk,BG,BH];simp+decide only[qh,qi,qj,qo,ev,qZ,qW,putD,Vz,VA,VB,Ka,VC,VD,Kb,and_true,↓Wl,Qd,qea,↓qaO,Yb,Qf qbV,↓qaN,qR,↓UW,QS,XF,Xt,qbC,YR,Qf ag3,↓WJ,Ql Tryd.underlying31 Ye,ZF,Xm qhU Ye,qN,ne_eq,not_false_eq_true,qM wz eb_p,qM wz eb_s,qM wz eb_8q2,ne_p_s,ne_p_s.symm,ne_8q2_p,ne_8q2_p.symm,ne_8q2_s,ne_8q2_s.symm,qO,qJ,VE,setAt,VF,Kj,qC,VG,Kn,Jp,Nat.reduceAdd,qF,qG,qI,qf,qK,qa,qz,qd,qE,qc,qA,qg,qH,qy,allLive,J4,tokV,posV,faultV,hlv,hlo,hbl,hpl,nb,hve,htl,e0,e1,e2,e3,e4,VX,K6];repeat (with_reducible refine And.intro ?_ ?_;· first|trivial|omega|(intro hg;simp only[Ky,JH,Jh,VH,VI,VJ,decide_eq_true_eq,decide_eq_false_iff_not,qU]at hg;omega))
     refine qao (by rfl) ?_;refine QZ (cs:=(Zt t)) (by kernel_rfl) fun k14q12 hk14q12=>?_;have hn_14q12:H2 k14q12=none:=by first|assumption|(simp only[V7]at hk14q12;simp only[hk14q12])
     have hf_14q12:B k14q12=none:=Bh hs_H2 hn_14q12;have ne_14q12_p:k14q12≠kp:=BF hn_14q12 eb_p;have ne_14q12_s:k14q12≠ks:=BF hn_14q12 eb_s;have ne_14q12_8q2:k14q12≠k8q2:=BF hn_14q12 eb_8q2;rw[qh];repeat (with_reducible refine And.intro ?_ ?_;· first|trivial|omega|(intro hg;simp only[Ky,JH,Jh,VH,VI,VJ,decide_eq_true_eq,decide_eq_false_iff_not,qU]at hg;omega))
     try simp only[qi,qj]
     refine Uo (es:=5) (v:=tv) (p:=q) (xs:=toks.map Zt) (ys:=[Zt t]) (i:=9) (by rfl) (by rfl) Tryd.underlying31 Tryd.underlying31 (fun k e=>by cases e) Ye qnt qjy (by rfl) (by decide) (by rfl) hrow rfl (hS2.forget (V8 hn_14q12)) (by rfl) (V9 (Vf _ _ _) (fun x hx=>by rw[V4.1 hx];rfl) (by rfl) (by rfl) (.exact 1) (KL _)) (by rfl) (by simp) (by rw[Jn,JF];omega) (by rw[Jn,JF];omega) fun tv2 q2 h14 hrow2 _ hS3=>?_;simp+decide only[qh,qi,qj,qo,ev,qZ,qW,putD,Vz,VA,VB,Ka,VC,VD,Kb,and_true,↓Qn,Qd,qea,qN,ne_eq,not_false_eq_true,ne_14q12_p,ne_14q12_p.symm,ne_14q12_s,ne_14q12_s.symm,ne_14q12_8q2,ne_14q12_8q2.symm,qM wz eb_p,qM wz eb_s,qM wz eb_8q2,ne_p_s,ne_p_s.symm,ne_8q2_p,ne_8q2_p.symm,ne_8q2_s,ne_8q2_s.symm,qO,qJ,VE,setAt,VF,Kj,qC,VG,Kn,Jp,Nat.reduceAdd,qF,qG,qI,qf,qK,qa,qz,qd,qE,qc,qA,qg,qH,qy,allLive,J4,tokV,posV,faultV,hlv,hlo,hbl,hpl,nb,hve,htl,e0,e1,e2,e3,e4,VX,K6];repeat (with_reducible refine And.intro ?_ ?_;· first|trivial|omega|(intro hg;simp only[Ky,JH,Jh,VH,VI,VJ,decide_eq_true_eq,decide_eq_false_iff_not,qU]at hg;omega))
     refine QO (v:=tv2) (by rfl) (by rfl) (hS3.at_ (i:=8) rfl) qgc hrow2.live (by rw[hrow2.cells];rfl) (by simp only[hrow2.cells,KX,JD];omega) (Jq _) (by rw[hrow2.cells];simp[XN,hrow2.scal]) ?_;simp only[hrow2.cells,setAt,VF,Kj,Jp,Nat.reduceAdd];simp+decide only[qh,qi,qj,qo,ev,qZ,qW,putD,Vz,VA,VB,Ka,VC,VD,Kb,and_true,qN,ne_eq,not_false_eq_true,ne_14q12_p,ne_14q12_p.symm,ne_14q12_s,ne_14q12_s.symm,ne_14q12_8q2,ne_14q12_8q2.symm,qM wz eb_p,qM wz eb_s,qM wz eb_8q2,ne_p_s,ne_p_s.symm,ne_8q2_p,ne_8q2_p.symm,ne_8q2_s,ne_8q2_s.symm,qO,qJ,VE,setAt,VF,Kj,qC,VG,Kn,Jp,Nat.reduceAdd,qF,qG,qI,qf,qK,qa,qz,qd,qE,qc,qA,qg,qH,qy,allLive,J4,tokV,posV,faultV,hlv,hlo,hbl,hpl,nb,hve,htl,e0,e1,e2,e3,e4,VX,K6];have eb_p:h14 kp=some _:=hS3.at_ (i:=1) rfl;have hwa:IntKind.i64.wrap ((a:Int)+1)=((a+1:Nat):Int):=by rw[wrap_i64 (by omega) (by omega)];omega
     apply hK;clear hK K;refine Zf [0,1,2,4,10,13,14] (by rfl) ?_;simp+decide only[qh,qi,qj,qo,ev,qZ,qW,putD,Vz,VA,VB,Ka,VC,VD,Kb,and_true,↓qY,qR,↓Xn,QS,XF,Xt,↓Qn,Qd,YR,↓Qv,QN,Qf ag3,↓Qh,Qa,Qm,cond_false,Qg,XM,qN,ne_eq,not_false_eq_true,ne_14q12_p,ne_14q12_p.symm,ne_14q12_s,ne_14q12_s.symm,ne_14q12_8q2,ne_14q12_8q2.symm,qM wz eb_p,qM wz eb_s,qM wz eb_8q2,ne_p_s,ne_p_s.symm,ne_8q2_p,ne_8q2_p.symm,ne_8q2_s,ne_8q2_s.symm,qO,qJ,VE,setAt,VF,Kj,qC,VG,Kn,Jp,Nat.reduceAdd,qF,qG,qI,qf,qK,qa,qz,qd,qE,qc,qA,qg,qH,qy,allLive,J4,tokV,posV,faultV,hlv,hlo,hbl,hpl,nb,hwa];try simp(disch:=omega)only[wrap_i64,wrap_u8]
     repeat (with_reducible refine And.intro ?_ ?_;· first|trivial|omega|(intro hg;simp only[Ky,JH,Jh,VH,VI,VJ,decide_eq_true_eq,decide_eq_false_iff_not,qU]at hg;omega))
     refine QO (by rfl) (by rfl) zqA sz3 (by rfl) (by rfl) zqD (Jq _) (by rfl) ?_;simp only[Bi,setAt,VE,VF,Kj,Jp,Nat.reduceAdd];simp+decide only[qh,qi,qj,qo,ev,qZ,qW,putD,Vz,VA,VB,Ka,VC,VD,Kb,and_true,qN,ne_eq,not_false_eq_true,ne_14q12_p,ne_14q12_p.symm,ne_14q12_s,ne_14q12_s.symm,ne_14q12_8q2,ne_14q12_8q2.symm,qM wz eb_p,qM wz eb_s,qM wz eb_8q2,ne_p_s,ne_p_s.symm,ne_8q2_p,ne_8q2_p.symm,ne_8q2_s,ne_8q2_s.symm,qO,qJ,VE,setAt,VF,Kj,qC,VG,Kn,Jp,Nat.reduceAdd,qF,qG,qI,qf,qK,qa,qz,qd,qE,qc,qA,qg,qH,qy,allLive,J4,tokV,posV,faultV,hlv,hlo,hbl,hpl,nb,hwa];repeat (with_reducible refine And.intro ?_ ?_;· first|trivial|omega|(intro hg;simp only[Ky,JH,Jh,VH,VI,VJ,decide_eq_true_eq,decide_eq_false_iff_not,qU]at hg;omega))
     try simp only[QH,Qt]
     exact⟨⟨toks++[t],a+1,tv2,q2,(h14.set k8q2 ⟨[.str w,tv2, .nilSlice],0⟩).set kp (parB3 v (a+1) ov)⟩,rfl,Vg _,⟨⟨(hS3.put (i:=8) rfl ⟨[.str w,tv2, .nilSlice],0⟩).put (i:=1) rfl (parB3 v (a+1) ov),by simp only;rw[VZ];exact hrow2,hal2,by simp only;omega,by simp only[Jb,JF];omega⟩,hgo2⟩,by simp only;omega⟩
   ·try simp only[decide_eq_true_eq,decide_eq_false_iff_not,Jh,VJ,Ky,VH,JH,VI,VV,VW,reduceCtorEq]at hb2
    have hWd:headW l O w n i=(toks,a):=by
     rw[hgo];refine qcN ?_;have z:goW l a=false:=by rw[<-hb_11];exact hb2
     unfold goW at z;simp only[VJ,JH,Jh,decide_eq_false_iff_not]at z;rcases z with z|z|z
     ·exact .inl z
     ·exact .inr (.inl z)
     ·exact .inr (.inr (.inl z))
    refine XJ ?_;change Awp _ _ _ _ _ _ _;refine awp_rseq [0,1,2,4,10,13,14,158] (by rfl) fun K hK=>?_;simp+decide only[qh,qi,qj,qo,ev,qZ,qW,putD,Vz,VA,VB,Ka,VC,VD,Kb,and_true,↓Qn,Qd,qea,↓Qv,QN,Qf qbV,↓XG,Xf,Qz Tryd.underlying31,QR Tryd.underlying31,↓Qh,Qa,Qm,cond_false,Qg,Yu,qN,ne_eq,not_false_eq_true,qM wz eb_p,qM wz eb_s,qM wz eb_8q2,ne_p_s,ne_p_s.symm,ne_8q2_p,ne_8q2_p.symm,ne_8q2_s,ne_8q2_s.symm,qO,qJ,VE,setAt,VF,Kj,qC,VG,Kn,Jp,Nat.reduceAdd,qF,qG,qI,qf,qK,qa,qz,qd,qE,qc,qA,qg,qH,qy,allLive,J4,tokV,posV,faultV,hlv,hlo,hbl,hpl,nb,nt,htl];repeat (with_reducible refine And.intro ?_ ?_;· first|trivial|omega|(intro hg;simp only[Ky,JH,Jh,VH,VI,VJ,decide_eq_true_eq,decide_eq_false_iff_not,qU]at hg;omega))
    apply hK;clear hK K;refine Qu (b:=_) rfl (fun hb5=>?_) (fun hb5=>?_)
    ·try simp only[decide_eq_true_eq,decide_eq_false_iff_not,Jh,VJ,Ky,VH,JH,VI,VV,VW,reduceCtorEq]at hb5
     have htk:toks=[]:=Kg (by omega);refine YD 2 (by rfl) (by rfl) ?_;simp only[Ki,Bj];simp+decide only[qh,qi,qj,qo,ev,qZ,qW,putD,Vz,VA,VB,Ka,VC,VD,Kb,and_true,↓qY,qR,qN,ne_eq,not_false_eq_true,qM wz eb_p,qM wz eb_s,qM wz eb_8q2,ne_p_s,ne_p_s.symm,ne_8q2_p,ne_8q2_p.symm,ne_8q2_s,ne_8q2_s.symm,qO,qJ,VE,setAt,VF,Kj,qC,VG,Kn,Jp,Nat.reduceAdd,qF,qG,qI,qf,qK,qa,qz,qd,qE,qc,qA,qg,qH,qy,allLive,J4,tokV,posV,faultV,hlv,hlo,hbl,hpl,nb];repeat (with_reducible refine And.intro ?_ ?_;· first|trivial|omega|(intro hg;simp only[Ky,JH,Jh,VH,VI,VJ,decide_eq_true_eq,decide_eq_false_iff_not,qU]at hg;omega))
     refine⟨⟨_,_,by rfl,?_⟩,by intro i;first|trivial|exact .inr trivial|exact .inr rfl⟩;exact(qcG wz _ B kp v ov l a 4 i zqA zqB hv (by omega) (by omega)).mono (fun _ _ q=>q) fun x h' ⟨q1,q2⟩=>⟨_,BO hTf ⟨hwW,by rw[hWd];exact htk⟩,q1,Bq (by assumption) q2⟩
    ·try simp only[decide_eq_true_eq,decide_eq_false_iff_not,Jh,VJ,Ky,VH,JH,VI,VV,VW,reduceCtorEq]at hb5
     have htk:toks≠[]:=fun z=>by rw[z]at hb5;exact hb5 rfl
     refine QE ?_;try simp only[QH,Qt]
     first
     |exact⟨⟨toks,a,tv,q,H2⟩,rfl,Vg _,⟨hS2,hrow,hal,hle,hfw⟩,hWd,fun z=>htk (by rw[hWd]at z;exact z.2)⟩
     |exact⟨⟨[],i+n, .nilSlice,emp,H9⟩,rfl,Vg _,⟨hS9.emp, .nil,hin,KL _,Jq _⟩,by unfold headW;rw[if_neg hwW],fun z=>hwW z.1⟩
  ·try simp only[decide_eq_true_eq,decide_eq_false_iff_not,Jh,VJ,Ky,VH,JH,VI,VV,VW,reduceCtorEq]at hb1
   have hwW:¬w=Ue:=hb1;refine QE ?_;try simp only[QH,Qt]
   first
   |exact⟨⟨toks,a,tv,q,H2⟩,rfl,Vg _,⟨hS2,hrow,hal,hle,hfw⟩,hWd,fun z=>htk (by rw[hWd]at z;exact z.2)⟩
   |exact⟨⟨[],i+n, .nilSlice,emp,H9⟩,rfl,Vg _,⟨hS9.emp, .nil,hin,KL _,Jq _⟩,by unfold headW;rw[if_neg hwW],fun z=>hwW z.1⟩
 ·rintro⟨toks,a,tv,q,H2⟩ ⟨hI,hhd,hbare⟩
  refine JP [0,1,2,4,10,13,14] ?_;have:=hrest k8q2 _ hI hhd hbare;rw[<-hfm]at this;exact this
theorem qnT{wz:World}{h:AHeap}:∀{d:Nat} {v:AVal} {l:List StC},StsV wz d h v l->StsV wz d h (Zo v) l
 |0,_,_,hp=>⟨hp.1,hp.2.clip⟩
 |d+1,_,_,⟨qs,e,a,b⟩=>⟨qs,e,a.clip,b⟩
theorem qco{wz:World}{h:AHeap}{d:Nat}{v:AVal}{l:List StC}(hp:StsV wz d h v l):∀H:AHeap,YG Tryd.prog H 23 v=⟨True, .int .i64 l.length⟩:=by
 intro H;obtain⟨qs,rfl,a⟩:=hp.isL;have:=a.len Tryd.underlying23 H
 rwa [Jn,<-Jn (f:=(·.1))]at this
set_option maxHeartbeats 8000000 in
theorem qrc(wz:World)(hm:MaxL wz)(ha:Asp wz)(l:List TokC)(hl:l.length<=65537)(hsh:Short l)(dd:Nat)(hdd:dd<=32)(hli:qiz wz l (dd+1))(B:AHeap)(kp ks kb:Nat)(v ov bv pv:AVal)(op pp tp bp E:AHeap)(O:List Str)(c:Cur)(w:Str)(n i:Nat)
 (hP0:ParS wz l B v ov op O i) (hC:CurS wz (32-dd) c pv bv pp tp bp E) (hF:Fair O) (hO:O.length=dd) (hin:i+n<=l.length) (hpos:0<n\/isV l i=true) (hfew:Few c i) (hTf:Stm.twice c w=false) (g:B2G)
 (hI:B2I wz l B kp ks kb v ov pv bv op pp tp bp E c w (i+n) g) (hhd:headW l O w n i=(g.toks,g.i)) (hbare:¬(w=Ue/\(headW l O w n i).1=[])):
 Awp Tryd.prog wz ⟨210,[],GP wz 210 [] [] (qhI B fun f=>BodyRO l dd O c w n i (.bad f))⟩ (WK 6 (qbT Tryd.f59)) (qcb Tryd.prog wz [] (fun r h'=>r= .tuple []/\qhM wz l B kp ks v pv pp tp O dd n i c w h')) [(0, .ptr (.own kp) 0),(1, .ptr (.own ks) 0),(2, .str w),(4, .int .i64 dd),(10, .int .i64 i),(13, .ptr (.own kb) 0),(14, .str (O.getLastD []))] (g.H):=by
 obtain⟨toks,a,tv,q,H⟩:=g;obtain⟨hS,hrow,hal,hle,hfw⟩:=hI;simp only at hS hrow hal hle hfw hhd|-
 have eb_p:H kp=some _:=hS.at_ (i:=1) rfl;have eb_s:H ks=some _:=hS.at_ (i:=3) rfl;have eb_b:H kb=some _:=hS.at_ (i:=8) rfl;have ne_p_s:kp≠ks:=hS.ne (i:=1) (j:=3) rfl rfl (by decide);have ne_p_b:kp≠kb:=hS.ne (i:=1) (j:=8) rfl rfl (by decide);have ne_s_b:ks≠kb:=hS.ne (i:=3) (j:=8) rfl rfl (by decide);have hs_H:Sub B H:=hS.in_ (i:=0) rfl;have hv:=hP0.toks;have hlv:=hv.live;obtain⟨hpl,hps,hpc⟩:=hC.pv_ok;obtain⟨hbl,hbs,hbc,nb⟩:=hC.bv_len;obtain⟨fm,hfm⟩:∃fm,fm=O.getLastD []:=⟨_,rfl⟩
 obtain⟨hfm1,hfm2⟩:=qfp hF;rw[<-hfm]at hfm1 hfm2|-
 have hW2:(headW l O w n i).2=a:=by rw[hhd]
 have hdj:[B,one ks (curB c pv bv),pp,tp,bp,E,one kb ⟨[.str w,tv, .nilSlice],0⟩,q].Pairwise disj:=(hS.pick [0,3,4,5,6,7,8,9] (by decide) (by simp)).2;have hcall:=hli H (qaa [B,one ks (curB c pv bv),pp,tp,bp,E,one kb ⟨[.str w,tv, .nilSlice],0⟩,q]) kp v ov op O a (BJ (ps:=[B,one ks (curB c pv bv),pp,tp,bp,E,one kb ⟨[.str w,tv, .nilSlice],0⟩,q]) (hS.pick [0,3,4,5,6,7,8,9,1,2] (by decide) (by simp))) ⟨hv.mono (ZE hdj B (by simp)),hP0.open_,hP0.isG,hal⟩ hF (by omega);have hwd:IntKind.i64.wrap ((dd:Int)+1)=((dd+1:Nat):Int):=by rw[wrap_i64 (by omega) (by omega)];omega
 change Awp _ _ _ (Code.seq _ _) _ _ _;by_cases hbad:∃f,ListRO l (dd+1) O a [] (.bad f)
 ·skip
  refine Qr ?_;refine YD 3 (by rfl) (by rfl) ?_;simp only[Ki,Bj];simp+decide only[qh,qi,qj,qo,ev,qZ,qW,putD,Vz,VA,VB,Ka,VC,VD,Kb,and_true,↓qY,qR,↓Qh,Qa,Qm,cond_false,Qg,XM,qN,ne_eq,not_false_eq_true,qM wz eb_p,qM wz eb_s,qM wz eb_b,ne_p_s,ne_p_s.symm,ne_p_b,ne_p_b.symm,ne_s_b,ne_s_b.symm,qO,qJ,VE,setAt,VF,Kj,qC,VG,Kn,Jp,Nat.reduceAdd,qF,qG,qI,qf,qK,qa,qz,qd,qE,qc,qA,qg,qH,qy,allLive,J4,tokV,posV,faultV,hlv,hbl,hpl,nb];try simp(disch:=omega)only[wrap_i64,wrap_u8]
  repeat (with_reducible refine And.intro ?_ ?_;· first|trivial|omega|(intro hg;simp only[Ky,JH,Jh,VH,VI,VJ,decide_eq_true_eq,decide_eq_false_iff_not,qU]at hg;omega))
  refine⟨⟨_,_,by rfl,?_⟩,by intro i;first|trivial|exact .inr trivial|exact .inr rfl⟩;try rw[hwd]
  obtain⟨f,hf⟩:=hbad;refine(hcall.bad fun x h' ⟨L,j,_,_,_,y,_⟩=>by cases y.one hf).mono (fun _ _ q=>q) fun x h' ⟨f',q1,q2,q3⟩=>⟨f',BodyR.bad hTf hbare (by rw[hW2];exact q1),q2,(ZE hdj B (by simp)).trans q3⟩
 refine awp_rseq [0,1,2,10,13,14] (by rfl) fun K hK=>?_;simp+decide only[qh,qi,qj,qo,ev,qZ,qW,putD,Vz,VA,VB,Ka,VC,VD,Kb,and_true,↓qY,qR,↓Qh,Qa,Qm,cond_false,Qg,XM,qN,ne_eq,not_false_eq_true,qM wz eb_p,qM wz eb_s,qM wz eb_b,ne_p_s,ne_p_s.symm,ne_p_b,ne_p_b.symm,ne_s_b,ne_s_b.symm,qO,qJ,VE,setAt,VF,Kj,qC,VG,Kn,Jp,Nat.reduceAdd,qF,qG,qI,qf,qK,qa,qz,qd,qE,qc,qA,qg,qH,qy,allLive,J4,tokV,posV,faultV,hlv,hbl,hpl,nb];try simp(disch:=omega)only[wrap_i64,wrap_u8]
 repeat (with_reducible refine And.intro ?_ ?_;· first|trivial|omega|(intro hg;simp only[Ky,JH,Jh,VH,VI,VJ,decide_eq_true_eq,decide_eq_false_iff_not,qU]at hg;omega))
 refine QT (by rfl) (by rfl) (hcall.ok fun x h' ⟨f,q,_⟩=>hbad ⟨f,q⟩) fun x18q3 h18q3 hx18q3=>?_;obtain⟨L,j,ov2,op2,E2,hR,hij,hLn,hsts,hP2,hS2⟩:=hx18q3;have hS2:=hS2.unfold hdj;obtain⟨hrl,hrs,hrc⟩:=hsts.shape;simp+decide only[qh,qi,qj,qo,ev,qZ,qW,putD,Vz,VA,VB,Ka,VC,VD,Kb,and_true,↓Qn,Qd,qdZ,qN,ne_eq,not_false_eq_true,qM wz eb_p,qM wz eb_s,qM wz eb_b,ne_p_s,ne_p_s.symm,ne_p_b,ne_p_b.symm,ne_s_b,ne_s_b.symm,qO,qJ,VE,setAt,VF,Kj,qC,VG,Kn,Jp,Nat.reduceAdd,qF,qG,qI,qf,qK,qa,qz,qd,qE,qc,qA,qg,qH,qy,allLive,J4,tokV,posV,faultV,hlv,hbl,hpl,nb];repeat (with_reducible refine And.intro ?_ ?_;· first|trivial|omega|(intro hg;simp only[Ky,JH,Jh,VH,VI,VJ,decide_eq_true_eq,decide_eq_false_iff_not,qU]at hg;omega))
 refine QO (v:=x18q3) (by rfl) (by rfl) (hS2.at_ (i:=6) rfl) qnR hrl (by rw[hrc];rfl) (by simp only[hrc,KX,JD];omega) (Jq _) (by rw[hrc];simp[XN,hrs]) ?_;simp only[hrc,setAt,VF,Kj,Jp,Nat.reduceAdd];simp+decide only[qh,qi,qj,qo,ev,qZ,qW,putD,Vz,VA,VB,Ka,VC,VD,Kb,and_true,qN,ne_eq,not_false_eq_true,qM wz eb_p,qM wz eb_s,qM wz eb_b,ne_p_s,ne_p_s.symm,ne_p_b,ne_p_b.symm,ne_s_b,ne_s_b.symm,qO,qJ,VE,setAt,VF,Kj,qC,VG,Kn,Jp,Nat.reduceAdd,qF,qG,qI,qf,qK,qa,qz,qd,qE,qc,qA,qg,qH,qy,allLive,J4,tokV,posV,faultV,hlv,hbl,hpl,nb];repeat (with_reducible refine And.intro ?_ ?_;· first|trivial|omega|(intro hg;simp only[Ky,JH,Jh,VH,VI,VJ,decide_eq_true_eq,decide_eq_false_iff_not,qU]at hg;omega))
 apply hK;clear hK K;refine Qr ?_;obtain⟨H19,hH19⟩:∃H19,H19=h18q3.set kb ⟨[.str w,tv,x18q3],0⟩:=⟨_,rfl⟩
 refine BI (h':=H19) (by rw[hH19];exact Vg _) ?_;have hS3:=hS2.put (i:=6) rfl ⟨[.str w,tv,x18q3],0⟩;rw[<-hH19]at hS3;simp only[VF,Kj,Kh,Jd]at hS3;have eb_p:H19 kp=some _:=hS3.at_ (i:=8) rfl;have eb_s:H19 ks=some _:=hS3.at_ (i:=1) rfl;have eb_b:H19 kb=some _:=hS3.at_ (i:=6) rfl;have hs_H19:Sub B H19:=hS3.in_ (i:=0) rfl;have hj:=hP2.at_;have nL:=qco hsts;have hlo2:=hP2.open_.live;have htl:=hrow.live;obtain⟨S,hSS⟩:∃S,S=Xv l j fm:=⟨_,rfl⟩
 have hE:qft l O w L j=(decide (L.length=0) && (!decide (w=Ue)||(!decide (S.1=Ue) && !decide (S.1=qhJ)))):=by rw[hSS,hfm];rfl
 refine awp_rseq [0,1,2,10,13,17] (by rfl) fun K hK=>?_;simp+decide only[qh,qi,qj,qo,ev,qZ,qW,putD,Vz,VA,VB,Ka,VC,VD,Kb,and_true,↓qY,qR,qN,ne_eq,not_false_eq_true,qM wz eb_p,qM wz eb_s,qM wz eb_b,ne_p_s,ne_p_s.symm,ne_p_b,ne_p_b.symm,ne_s_b,ne_s_b.symm,qO,qJ,VE,setAt,VF,Kj,qC,VG,Kn,Jp,Nat.reduceAdd,qF,qG,qI,qf,qK,qa,qz,qd,qE,qc,qA,qg,qH,qy,allLive,J4,tokV,posV,faultV,hlv,hbl,hpl,nb];repeat (with_reducible refine And.intro ?_ ?_;· first|trivial|omega|(intro hg;simp only[Ky,JH,Jh,VH,VI,VJ,decide_eq_true_eq,decide_eq_false_iff_not,qU]at hg;omega))
 refine Xk (V:= .tuple [.str S.1, .int .i64 S.2]) (by rfl) (by rfl) (by rw[hSS];exact qdi wz ha _ (.own kp) 0 v l j fm (qM wz eb_p 0) (qM wz eb_p 1) (hv.mono zqB) (by omega) hj hfm1 hfm2) ?_;simp+decide only[qh,qi,qj,qo,ev,qZ,qW,putD,Vz,VA,VB,Ka,VC,VD,Kb,and_true,↓qY,qR,↓XW,XK,Zd,KX,JD,VG,Kn,↓qV,qP,qN,ne_eq,not_false_eq_true,qM wz eb_p,qM wz eb_s,qM wz eb_b,ne_p_s,ne_p_s.symm,ne_p_b,ne_p_b.symm,ne_s_b,ne_s_b.symm,qO,qJ,VE,setAt,VF,Kj,qC,VG,Kn,Jp,Nat.reduceAdd,qF,qG,qI,qf,qK,qa,qz,qd,qE,qc,qA,qg,qH,qy,allLive,J4,tokV,posV,faultV,hlv,hbl,hpl,nb];repeat (with_reducible refine And.intro ?_ ?_;· first|trivial|omega|(intro hg;simp only[Ky,JH,Jh,VH,VI,VJ,decide_eq_true_eq,decide_eq_false_iff_not,qU]at hg;omega))
 apply hK;clear hK K;refine awp_rseq [0,1,10,13,188] (by rfl) fun K hK=>?_;simp+decide only[qh,qi,qj,qo,ev,qZ,qW,putD,Vz,VA,VB,Ka,VC,VD,Kb,and_true,↓Qn,Qd,qdZ,↓Qv,QN,Qf qhy,↓XG,Xf,Qz Tryd.underlying23,QR Tryd.underlying23,↓Qh,Qa,Qm,cond_false,Qg,Yu,↓qY,qR,↓Zy,agP,XH,gv,Qw,QJ,QI,QC,Qk,Qi,ZC,implies_true,VK,decide_true,decide_false,VL,VM,Qc,Qb,forall_const,false_implies,Qj,Qe,J4,VN,VO,VP,VQ,VS,VT,VU,Xp,Xr,Xo,↓XY,XE,Zh,Zg,Zj,Zi,Xu,qbw,↓qeT,Xw,Xb,QM,QL,QG,XC,XB,XA,Xz,Xl,Xy,qeJ,qeK,↓XR,qN,ne_eq,not_false_eq_true,qM wz eb_p,qM wz eb_s,qM wz eb_b,ne_p_s,ne_p_s.symm,ne_p_b,ne_p_b.symm,ne_s_b,ne_s_b.symm,qO,qJ,VE,setAt,VF,Kj,qC,VG,Kn,Jp,Nat.reduceAdd,qF,qG,qI,qf,qK,qa,qz,qd,qE,qc,qA,qg,qH,qy,allLive,J4,tokV,posV,faultV,hlv,hbl,hpl,nb,nL,hrl,hlo2,htl];repeat (with_reducible refine And.intro ?_ ?_;· first|trivial|omega|(intro hg;simp only[Ky,JH,Jh,VH,VI,VJ,decide_eq_true_eq,decide_eq_false_iff_not,qU]at hg;omega))
 apply hK;clear hK K;refine Qu (b:=_) rfl (fun hb1=>?_) (fun hb1=>?_)
 ·try simp only[decide_eq_true_eq,decide_eq_false_iff_not,Jh,VJ,Ky,VH,JH,VI,VV,VW,reduceCtorEq]at hb1
  have hEt:qft l O w L j=true:=by
   rw[hE,Ky,decide_eq_true_eq];refine⟨by omega,?_⟩;rcases hb1.2 with z|⟨z1,z2⟩
   ·rw[decide_eq_false (show ¬w=Ue from z)];rfl
   ·rw[decide_eq_false (show ¬S.1=Ue from z1),decide_eq_false (show ¬S.1=qhJ from z2)];simp
  refine YD 2 (by rfl) (by rfl) ?_;simp only[Ki,Bj];simp+decide only[qh,qi,qj,qo,ev,qZ,qW,putD,Vz,VA,VB,Ka,VC,VD,Kb,and_true,↓qY,qR,qN,ne_eq,not_false_eq_true,qM wz eb_p,qM wz eb_s,qM wz eb_b,ne_p_s,ne_p_s.symm,ne_p_b,ne_p_b.symm,ne_s_b,ne_s_b.symm,qO,qJ,VE,setAt,VF,Kj,qC,VG,Kn,Jp,Nat.reduceAdd,qF,qG,qI,qf,qK,qa,qz,qd,qE,qc,qA,qg,qH,qy,allLive,J4,tokV,posV,faultV,hlv,hbl,hpl,nb];repeat (with_reducible refine And.intro ?_ ?_;· first|trivial|omega|(intro hg;simp only[Ky,JH,Jh,VH,VI,VJ,decide_eq_true_eq,decide_eq_false_iff_not,qU]at hg;omega))
  refine⟨⟨_,_,by rfl,?_⟩,by intro i;first|trivial|exact .inr trivial|exact .inr rfl⟩;exact(qcG wz _ B kp v ov2 l j 4 i zqA zqB hv (by omega) (by omega)).mono (fun _ _ q=>q) fun x h' ⟨q1,q2⟩=>⟨_,BodyR.empty hTf hbare (by rw[hW2];exact hR) hEt,q1,Bq (by assumption) q2⟩
 ·try simp only[decide_eq_true_eq,decide_eq_false_iff_not,Jh,VJ,Ky,VH,JH,VI,VV,VW,reduceCtorEq]at hb1
  have hEf:qft l O w L j=false:=by
   rw[hE,<-BL];intro z;rw[Ky,decide_eq_true_eq,JH,Ky]at z;obtain⟨z1,z2⟩:=z;rcases hb1 with y|⟨y1,y2⟩
   ·omega
   ·rcases z2 with x|⟨x1,x2⟩
    ·rw[show decide (w=Ue)=true from decide_eq_true y1]at x;cases x
    ·rcases y2 with u|u
     ·rw[show decide (S.1=Ue)=true from decide_eq_true u]at x1;cases x1
     ·rw[show decide (S.1=qhJ)=true from decide_eq_true u]at x2;cases x2
  refine QE ?_;change Awp _ _ _ _ _ _ _;have htv:=hrow.isL (wz:=wz) (hS3.in_ (i:=7) rfl);obtain⟨qL,hqL,hrv0⟩:=(hsts.mono (hS3.in_ (i:=10) rfl)).isL;have hck:=htv.clip;have hcr:=hrv0.clip;have hckl:=hck.live;have hcrl:=hcr.live;refine qdR 7 [1,13] mixed (by kernel_rfl) (by rfl) fun K hK=>?_;simp only[Ki,Bj,Ba,Vk];simp+decide only[qh,qi,qj,qo,ev,qZ,qW,putD,Vz,VA,VB,Ka,VC,VD,Kb,and_true,↓YH,Qd,qea,↓qdp,Yb,Qf qbV,qN,ne_eq,not_false_eq_true,qM wz eb_p,qM wz eb_s,qM wz eb_b,ne_p_s,ne_p_s.symm,ne_p_b,ne_p_b.symm,ne_s_b,ne_s_b.symm,qO,qJ,VE,setAt,VF,Kj,qC,VG,Kn,Jp,Nat.reduceAdd,qF,qG,qI,qf,qK,qa,qz,qd,qE,qc,qA,qg,qH,qy,allLive,J4,tokV,posV,faultV,hlv,hbl,hpl,nb,htl,hrl,hckl,hcrl];repeat (with_reducible refine And.intro ?_ ?_;· first|trivial|omega|(intro hg;simp only[Ky,JH,Jh,VH,VI,VJ,decide_eq_true_eq,decide_eq_false_iff_not,qU]at hg;omega))
  refine qbr (V:=Zo tv) (by rfl) (by rfl) (qeO wz _ tv _ htv) ?_;simp+decide only[qh,qi,qj,qo,ev,qZ,qW,putD,Vz,VA,VB,Ka,VC,VD,Kb,and_true,↓YH,Qd,qdZ,↓qdp,Yb,Qf qhy,qN,ne_eq,not_false_eq_true,qM wz eb_p,qM wz eb_s,qM wz eb_b,ne_p_s,ne_p_s.symm,ne_p_b,ne_p_b.symm,ne_s_b,ne_s_b.symm,qO,qJ,VE,setAt,VF,Kj,qC,VG,Kn,Jp,Nat.reduceAdd,qF,qG,qI,qf,qK,qa,qz,qd,qE,qc,qA,qg,qH,qy,allLive,J4,tokV,posV,faultV,hlv,hbl,hpl,nb,htl,hrl,hckl,hcrl];repeat (with_reducible refine And.intro ?_ ?_;· first|trivial|omega|(intro hg;simp only[Ky,JH,Jh,VH,VI,VJ,decide_eq_true_eq,decide_eq_false_iff_not,qU]at hg;omega))
  refine qbr (V:=Zo x18q3) (by rfl) (by rfl) (qkv wz _ x18q3 _ hrv0) ?_;simp+decide only[qh,qi,qj,qo,ev,qZ,qW,putD,Vz,VA,VB,Ka,VC,VD,Kb,and_true,↓YH,Qd,qea,qN,ne_eq,not_false_eq_true,qM wz eb_p,qM wz eb_s,qM wz eb_b,ne_p_s,ne_p_s.symm,ne_p_b,ne_p_b.symm,ne_s_b,ne_s_b.symm,qO,qJ,VE,setAt,VF,Kj,qC,VG,Kn,Jp,Nat.reduceAdd,qF,qG,qI,qf,qK,qa,qz,qd,qE,qc,qA,qg,qH,qy,allLive,J4,tokV,posV,faultV,hlv,hbl,hpl,nb,htl,hrl,hckl,hcrl];repeat (with_reducible refine And.intro ?_ ?_;· first|trivial|omega|(intro hg;simp only[Ky,JH,Jh,VH,VI,VJ,decide_eq_true_eq,decide_eq_false_iff_not,qU]at hg;omega))
  try simp only[qi,qj]
  refine QO (v:=Zo tv) (by rfl) (by rfl) eb_b qgc hckl (by rw[hck.cells];rfl) (by simp only[hck.cells,KX,JD];omega) (Jq _) (by rw[hck.cells];simp[XN,hck.scal]) ?_;simp only[hck.cells,setAt,VF,Kj,Jp,Nat.reduceAdd];simp+decide only[qh,qi,qj,qo,ev,qZ,qW,putD,Vz,VA,VB,Ka,VC,VD,Kb,and_true,↓Qn,Qd,qdZ,qN,ne_eq,not_false_eq_true,qM wz eb_p,qM wz eb_s,qM wz eb_b,ne_p_s,ne_p_s.symm,ne_p_b,ne_p_b.symm,ne_s_b,ne_s_b.symm,qO,qJ,VE,setAt,VF,Kj,qC,VG,Kn,Jp,Nat.reduceAdd,qF,qG,qI,qf,qK,qa,qz,qd,qE,qc,qA,qg,qH,qy,allLive,J4,tokV,posV,faultV,hlv,hbl,hpl,nb,htl,hrl,hckl,hcrl];repeat (with_reducible refine And.intro ?_ ?_;· first|trivial|omega|(intro hg;simp only[Ky,JH,Jh,VH,VI,VJ,decide_eq_true_eq,decide_eq_false_iff_not,qU]at hg;omega))
  refine QO (v:=Zo x18q3) (by rfl) (by rfl) (Vf _ _ _) qnR hcrl (by rw[hcr.cells];rfl) (by simp only[hcr.cells,KX,JD];omega) (Jq _) (by rw[hcr.cells];simp[XN,hcr.scal]) ?_;simp only[hcr.cells,Bi,setAt,VF,Kj,Jp,Nat.reduceAdd];simp+decide only[qh,qi,qj,qo,ev,qZ,qW,putD,Vz,VA,VB,Ka,VC,VD,Kb,and_true,qN,ne_eq,not_false_eq_true,qM wz eb_p,qM wz eb_s,qM wz eb_b,ne_p_s,ne_p_s.symm,ne_p_b,ne_p_b.symm,ne_s_b,ne_s_b.symm,qO,qJ,VE,setAt,VF,Kj,qC,VG,Kn,Jp,Nat.reduceAdd,qF,qG,qI,qf,qK,qa,qz,qd,qE,qc,qA,qg,qH,qy,allLive,J4,tokV,posV,faultV,hlv,hbl,hpl,nb,htl,hrl,hckl,hcrl];repeat (with_reducible refine And.intro ?_ ?_;· first|trivial|omega|(intro hg;simp only[Ky,JH,Jh,VH,VI,VJ,decide_eq_true_eq,decide_eq_false_iff_not,qU]at hg;omega))
  apply hK;clear hK K;obtain⟨H23,hH23⟩:∃H23,H23=H19.set kb ⟨[.str w,Zo tv,Zo x18q3],0⟩:=⟨_,rfl⟩
  refine BI (h':=H23) (by rw[hH23];exact Vg _) ?_;have hS4:=hS3.put (i:=6) rfl ⟨[.str w,Zo tv,Zo x18q3],0⟩;rw[<-hH23]at hS4;simp only[VF,Kj]at hS4;have eb_p:H23 kp=some _:=hS4.at_ (i:=8) rfl;have eb_s:H23 ks=some _:=hS4.at_ (i:=1) rfl;have eb_b:H23 kb=some _:=hS4.at_ (i:=6) rfl;have hs_H23:Sub B H23:=hS4.in_ (i:=0) rfl;obtain⟨bs,hb1e,hb2e,hb3e⟩:=id hC.bd;have hbn:c.bodies.length=bs.length:=by rw[hb1e,Jn]
  obtain⟨hf1,hf2,hf3⟩:=hfew;have hin2:i<=l.length:=hP0.at_;refine qeh 7 [0] mixed (by kernel_rfl) (by rfl) ?_;simp only[Ki,Bj,Ba,Vk,BG,BH];simp+decide only[qh,qi,qj,qo,ev,qZ,qW,putD,Vz,VA,VB,Ka,VC,VD,Kb,and_true,↓qaN,qR,↓UW,QS,XF,Xt,↓Wl,Qd,Ua,↓qaO,Yb,Qf qek,Xm qpm qbg,qN,ne_eq,not_false_eq_true,qM wz eb_p,qM wz eb_s,qM wz eb_b,ne_p_s,ne_p_s.symm,ne_p_b,ne_p_b.symm,ne_s_b,ne_s_b.symm,qO,qJ,VE,setAt,VF,Kj,qC,VG,Kn,Jp,Nat.reduceAdd,qF,qG,qI,qf,qK,qa,qz,qd,qE,qc,qA,qg,qH,qy,allLive,J4,tokV,posV,faultV,hlv,hbl,hpl,nb,hckl,hcrl,VO];repeat (with_reducible refine And.intro ?_ ?_;· first|trivial|omega|(intro hg;simp only[Ky,JH,Jh,VH,VI,VJ,decide_eq_true_eq,decide_eq_false_iff_not,qU]at hg;omega))
  refine qao (by rfl) ?_;refine QZ (cs:=[.str w,Zo tv,Zo x18q3]) (by kernel_rfl) fun k23q6 hk23q6=>?_;have hn_23q6:H23 k23q6=none:=by first|assumption|(simp only[V7]at hk23q6;simp only[hk23q6])
  have hf_23q6:B k23q6=none:=Bh hs_H23 hn_23q6;have ne_23q6_p:k23q6≠kp:=BF hn_23q6 eb_p;have ne_23q6_s:k23q6≠ks:=BF hn_23q6 eb_s;have ne_23q6_b:k23q6≠kb:=BF hn_23q6 eb_b;rw[qh];repeat (with_reducible refine And.intro ?_ ?_;· first|trivial|omega|(intro hg;simp only[Ky,JH,Jh,VH,VI,VJ,decide_eq_true_eq,decide_eq_false_iff_not,qU]at hg;omega))
  try simp only[qi,qj]
  refine Uo (es:=3) (v:=bv) (p:=bp) (xs:=bs.map bdC) (ys:=[[.str w,Zo tv,Zo x18q3]]) (i:=4) (by rfl) (by rfl) Tryd.underlying46 Tryd.underlying46 (fun k e=>by cases e) qbg by50 qmD (by rfl) (by decide) (by rfl) hb2e rfl (hS4.forget (V8 hn_23q6)) (by rfl) (V9 (Vf _ _ _) (fun x hx=>by rw[V4.1 hx];rfl) (by rfl) (by show(true && ((Zo tv).live && ((Zo x18q3).live && true)))=true;rw[hckl,hcrl];rfl) (.exact 1) (KL _)) (by show(true && ((Zo tv).scal && ((Zo x18q3).scal && true)))=true;rw[hck.scal,hcr.scal];rfl) (by simp) (by simp only[Jn,JF];omega) (by simp only[Jn,JF];omega) fun bv2 bp2 h23 hb2g _ hS5=>?_;simp+decide only[qh,qi,qj,qo,ev,qZ,qW,putD,Vz,VA,VB,Ka,VC,VD,Kb,and_true,↓Xn,QS,XF,Xt,↓Qn,Qd,Ua,qN,ne_eq,not_false_eq_true,ne_23q6_p,ne_23q6_p.symm,ne_23q6_s,ne_23q6_s.symm,ne_23q6_b,ne_23q6_b.symm,qM wz eb_p,qM wz eb_s,qM wz eb_b,ne_p_s,ne_p_s.symm,ne_p_b,ne_p_b.symm,ne_s_b,ne_s_b.symm,qO,qJ,VE,setAt,VF,Kj,qC,VG,Kn,Jp,Nat.reduceAdd,qF,qG,qI,qf,qK,qa,qz,qd,qE,qc,qA,qg,qH,qy,allLive,J4,tokV,posV,faultV,hlv,hbl,hpl,nb,hckl,hcrl,VO];repeat (with_reducible refine And.intro ?_ ?_;· first|trivial|omega|(intro hg;simp only[Ky,JH,Jh,VH,VI,VJ,decide_eq_true_eq,decide_eq_false_iff_not,qU]at hg;omega))
  refine QO (v:=bv2) (by rfl) (by rfl) (hS5.at_ (i:=1) rfl) qtf hb2g.live (by rw[hb2g.cells];rfl) (by simp only[hb2g.cells,KX,JD];omega) (Jq _) (by rw[hb2g.cells];simp[XN,hb2g.scal]) ?_;simp only[hb2g.cells,setAt,VF,Kj,Jp,Nat.reduceAdd];simp+decide only[qh,qi,qj,qo,ev,qZ,qW,putD,Vz,VA,VB,Ka,VC,VD,Kb,and_true,qN,ne_eq,not_false_eq_true,ne_23q6_p,ne_23q6_p.symm,ne_23q6_s,ne_23q6_s.symm,ne_23q6_b,ne_23q6_b.symm,qM wz eb_p,qM wz eb_s,qM wz eb_b,ne_p_s,ne_p_s.symm,ne_p_b,ne_p_b.symm,ne_s_b,ne_s_b.symm,qO,qJ,VE,setAt,VF,Kj,qC,VG,Kn,Jp,Nat.reduceAdd,qF,qG,qI,qf,qK,qa,qz,qd,qE,qc,qA,qg,qH,qy,allLive,J4,tokV,posV,faultV,hlv,hbl,hpl,nb,hckl,hcrl,VO];repeat (with_reducible refine And.intro ?_ ?_;· first|trivial|omega|(intro hg;simp only[Ky,JH,Jh,VH,VI,VJ,decide_eq_true_eq,decide_eq_false_iff_not,qU]at hg;omega))
  try simp only[WE,Ym,QH,Qt]
  try simp only[QD,Qo]
  refine qdt (Qy) ?_;simp+decide only[qh,qi,qj,qo,ev,qZ,qW,putD,Vz,VA,VB,Ka,VC,VD,Kb,and_true,qdu,qN,ne_eq,not_false_eq_true,ne_23q6_p,ne_23q6_p.symm,ne_23q6_s,ne_23q6_s.symm,ne_23q6_b,ne_23q6_b.symm,qM wz eb_p,qM wz eb_s,qM wz eb_b,ne_p_s,ne_p_s.symm,ne_p_b,ne_p_b.symm,ne_s_b,ne_s_b.symm,qO,qJ,VE,setAt,VF,Kj,qC,VG,Kn,Jp,Nat.reduceAdd,qF,qG,qI,qf,qK,qa,qz,qd,qE,qc,qA,qg,qH,qy,allLive,J4,tokV,posV,faultV,hlv,hbl,hpl,nb];have hS6:=hS5.put (i:=1) rfl (curB {c with bodies:=c.bodies++[(w,toks,L)]} pv bv2);simp only[VF,Kj]at hS6;have hdE:[E,q,E2].Pairwise disj:=(hS6.pick [5,7,10] (by decide) (by simp)).2;have hu:=ZE hdE;have hS7:=(BJ (ps:=[E,q,E2]) (hS6.pick [5,7,10,0,8,9,1,2,3,4] (by decide) (by simp))).pick [1,2,3,4,5,6,7,0] (by decide) (by simp);refine⟨_,Vg _,{c with bodies:=c.bodies++[(w,toks,L)]},j,ov2,op2,bv2,bp2,qaa [E,q,E2],by have:=BodyR.ok hTf hbare (by rw[hW2];exact hR) hEf;rw[hhd]at this;exact this,?_,rfl,rfl,rfl,rfl,by simp,⟨?_,?_⟩,⟨hv,hP2.open_,hP2.isG,hP2.at_⟩,hS7⟩
  ·rcases hpos with z|z
   ·omega
   ·by_cases hn0:n=0
    ·rcases Nat.lt_or_ge i j with y|y
     ·exact y
     ·exfalso
      have hij2:a=j:=by omega
      have hai:a=i:=by omega
      have hL0:L.length=0:=by omega
      have hwW:w=Ue:=by
       by_cases y2:w=Ue
       ·exact y2
       ·rw[hE,hL0,decide_eq_false y2]at hEf;cases hEf
      refine hbare ⟨hwW,?_⟩;unfold headW;rw[if_pos hwW,hn0,K6];unfold qnE;rw[qcN (.inr (.inl z))]
    ·omega
  ·obtain⟨qs,w1,ts,tv1,p1,p2,p3,p4⟩:=hC.ph
   exact⟨qs,w1,ts,tv1,p1,p2,p3,fun x hx=>(p4 x hx).mono (hu E (by simp))⟩
  ·refine⟨bs++[((w,toks,L),Zo tv,Zo x18q3)],by simp only;rw[hb1e,VZ];rfl,by rw[VZ];exact hb2g,fun b hb=>?_⟩
   rcases JS.1 hb with z|z
   ·exact⟨(hb3e b z).1.mono (hu E (by simp)),(hb3e b z).2.mono (hu E (by simp))⟩
   ·rw[V4.1 z]
    refine⟨(hrow.isL (hu q (by simp))).clip,?_⟩;have:=qnT (hsts.mono (hu E2 (by simp)))
    rwa [show 33-(dd+1)=32-dd by omega]at this
theorem qsC(wz:World)(hm:MaxL wz)(ha:Asp wz)(l:List TokC)(hl:l.length<=65537)(hsh:Short l)(dd:Nat)(hdd:dd<=32)(hd0:0<dd)(hli:qiz wz l (dd+1)):qte wz l dd:=
 qre wz l hl dd fun H B kp ks v ov bv pv op pp tp bp E O c w n i hS hP hC hF hO hin hpos hfew hTf=>
  qrd wz hm ha l hl hsh dd hdd hd0 H B kp ks v ov bv pv op pp tp bp E O c w n i hS hP hC hF hO hin hTf fun kb g hI hhd hbare=>
   qrc wz hm ha l hl hsh dd hdd hli B kp ks kb v ov bv pv op pp tp bp E O c w n i hP hC hF hO hin hpos hfew hTf g hI hhd hbare
theorem qsN{P:Str×Str->Prop}{b:Bool}{x y:Str×Str}(hx:P x)(hy:P y):P (bif b then x else y):=by cases b<;>assumption
def qmC(p:Str×Str):Prop:=(p.1.length<=1000000/\asciiB p.1=true)/\p.2.length<=1000000/\asciiB p.2=true
instance (p:Str×Str):Decidable (qmC p):=by unfold qmC;exact inferInstance
theorem qhd(s:Str):qmC (Zp s):=by
 unfold Zp;repeat' (refine qsN (P:=qmC) (by decide) ?_)
 decide
theorem Fair.snoc{O:List Str}(hF:Fair O)(s:Str):Fair (O++[(Zp s).2]):=fun f hf=>by
 rcases JS.1 hf with h|h
 ·exact hF f h
 ·rw[V4.1 h];exact(qhd s).2
structure StI(wz:World)(l:List TokC)(B:AHeap)(kp ks k4:Nat)(b4:Blk)(v ov pv bv:AVal)(op pp tp bp E:AHeap)(O:List Str)(d:Nat)(c:Cur)(j:Nat)(H:AHeap):Prop where
 sep:Sep [B,one kp (parB3 v j ov),op,one ks (curB c pv bv),pp,tp,bp,E,one k4 b4] H
 par:ParS wz l B v ov op O j
 cur:CurS wz d c pv bv pp tp bp E
 few:Few c j
def qcM:Blk:=⟨[.str [], .int .i64 0, .int .i64 0, .nilSlice, .nilSlice],0⟩
set_option maxHeartbeats 8000000 in
theorem qsA(wz:World)(l:List TokC)(hl:l.length<=65537)(dd:Nat)(hdd:dd<=33)
 (hrest:dd<=32->∀(H B:AHeap) (kp ks k4:Nat) (v ov pv bv:AVal) (op pp tp bp E:AHeap) (O:List Str) (i:Nat),StI wz l B kp ks k4 qcM v ov pv bv op pp tp bp E (O++[(Zp (l.getD i noT).text).2]) (32-dd) (qdh l i) (i+1) H->Fair O->O.length+1=dd->isV l i=true->
   Awp Tryd.prog wz ⟨201,[],GP wz 201 [] [] (qhI B fun f=>StRO l dd O i (.bad f))⟩ (WK 6 (qgk (WK 1 (qbT Tryd.f38)))) (qcC (qcb Tryd.prog wz [.cell 4 48] (qlV wz l B kp v O dd i))) [(0, .ptr (.own kp) 0),(1, .int .i64 dd),(4, .ptr (.own k4) 0),(5, .int .i64 i),(6, .ptr (.own ks) 0),(7, .str (Zp (l.getD i noT).text).1),(8, .str (Zp (l.getD i noT).text).2)] (H)):qtc wz l dd:=by
 intro h B kp v ov op O i hS hP hF hO hvi;have eb_p:h kp=some _:=hS.at_ (i:=1) rfl;have hs_h:Sub B h:=hS.in_ (i:=0) rfl;have hv:=hP.toks;have hlv:=hv.live;have hlo:=hP.open_.live;have hi:=qoA hvi;refine qas (k:=201) (rs:=[.cell 4 48]) Tryd.func38 rfl rfl rfl rfl (Vy rfl) ?_;simp only[QV];refine awp_rseq [0,1,4] (by rfl) fun K hK=>?_;refine XP qmE (cs:=[.str [], .int .i64 0, .int .i64 0, .nilSlice, .nilSlice]) (by rfl) fun k0q0 hk0q0=>?_;have hn_0q0:h k0q0=none:=by first|assumption|(simp only[V7]at hk0q0;simp only[hk0q0])
 have hf_0q0:B k0q0=none:=Bh hs_h hn_0q0;have ne_0q0_p:k0q0≠kp:=BF hn_0q0 eb_p;simp+decide only[qh,qi,qj,qo,ev,qZ,qW,putD,Vz,VA,VB,Ka,VC,VD,Kb,and_true,qN,ne_eq,not_false_eq_true,ne_0q0_p,ne_0q0_p.symm,qM wz eb_p,qO,qJ,VE,setAt,VF,Kj,qC,VG,Kn,Jp,Nat.reduceAdd,qF,qG,qI,qf,qK,qa,qz,qd,qE,qc,qA,qg,qH,qy,allLive,J4,tokV,posV,faultV,hlv,hlo];repeat (with_reducible refine And.intro ?_ ?_;· first|trivial|omega|(intro hg;simp only[Ky,JH,Jh,VH,VI,VJ,decide_eq_true_eq,decide_eq_false_iff_not,qU]at hg;omega))
 apply hK;clear hK K;refine qnu ?_;refine awp_rseq [0,1,4,5] (by rfl) fun K hK=>?_;simp+decide only[qh,qi,qj,qo,ev,qZ,qW,putD,Vz,VA,VB,Ka,VC,VD,Kb,and_true,↓qY,qR,↓Xn,QS,XF,Xt,↓Qn,Qd,YR,↓Qv,QN,Qf ag3,↓qV,qP,qN,ne_eq,not_false_eq_true,ne_0q0_p,ne_0q0_p.symm,qM wz eb_p,qO,qJ,VE,setAt,VF,Kj,qC,VG,Kn,Jp,Nat.reduceAdd,qF,qG,qI,qf,qK,qa,qz,qd,qE,qc,qA,qg,qH,qy,allLive,J4,tokV,posV,faultV,hlv,hlo];repeat (with_reducible refine And.intro ?_ ?_;· first|trivial|omega|(intro hg;simp only[Ky,JH,Jh,VH,VI,VJ,decide_eq_true_eq,decide_eq_false_iff_not,qU]at hg;omega))
 apply hK;clear hK K;refine Qr ?_;refine awp_rseq [0,1,4,5,23] (by rfl) fun K hK=>?_;simp+decide only[qh,qi,qj,qo,ev,qZ,qW,putD,Vz,VA,VB,Ka,VC,VD,Kb,and_true,↓qY,qR,↓Qh,Qa,Qm,cond_false,Qg,Uu,qN,ne_eq,not_false_eq_true,ne_0q0_p,ne_0q0_p.symm,qM wz eb_p,qO,qJ,VE,setAt,VF,Kj,qC,VG,Kn,Jp,Nat.reduceAdd,qF,qG,qI,qf,qK,qa,qz,qd,qE,qc,qA,qg,qH,qy,allLive,J4,tokV,posV,faultV,hlv,hlo];repeat (with_reducible refine And.intro ?_ ?_;· first|trivial|omega|(intro hg;simp only[Ky,JH,Jh,VH,VI,VJ,decide_eq_true_eq,decide_eq_false_iff_not,qU]at hg;omega))
 apply hK;clear hK K;refine Qu (b:=_) rfl (fun hb1=>?_) (fun hb1=>?_)
 ·try simp only[decide_eq_true_eq,decide_eq_false_iff_not,Jh,VJ,Ky,VH,JH,VI,VV,VW,reduceCtorEq]at hb1
  refine YD 2 (by rfl) (by rfl) ?_;simp only[Ki,Bj];simp+decide only[qh,qi,qj,qo,ev,qZ,qW,putD,Vz,VA,VB,Ka,VC,VD,Kb,and_true,↓qY,qR,qN,ne_eq,not_false_eq_true,ne_0q0_p,ne_0q0_p.symm,qM wz eb_p,qO,qJ,VE,setAt,VF,Kj,qC,VG,Kn,Jp,Nat.reduceAdd,qF,qG,qI,qf,qK,qa,qz,qd,qE,qc,qA,qg,qH,qy,allLive,J4,tokV,posV,faultV,hlv,hlo];repeat (with_reducible refine And.intro ?_ ?_;· first|trivial|omega|(intro hg;simp only[Ky,JH,Jh,VH,VI,VJ,decide_eq_true_eq,decide_eq_false_iff_not,qU]at hg;omega))
  refine⟨⟨_,_,by rfl,?_⟩,by intro i;first|trivial|exact .inr trivial|exact .inr rfl⟩;exact(qcG wz _ B kp v ov l i 3 i zqA zqB hv (by omega) (by omega)).mono (fun _ _ q=>q) fun x h' ⟨q1,q2⟩=>⟨_,StR.deep (by omega),q1,Bq zqB q2⟩
 ·try simp only[decide_eq_true_eq,decide_eq_false_iff_not,Jh,VJ,Ky,VH,JH,VI,VV,VW,reduceCtorEq]at hb1
  have hd32:dd<=32:=by omega
  refine QE ?_;change Awp _ _ _ _ _ _ _;obtain⟨H4,hH4⟩:∃H4,H4=h.set k0q0 qcM:=⟨_,rfl⟩
  refine BI (h':=H4) (by rw[hH4];exact Vg _) ?_;have hS4:=hS.lay hk0q0 qcM;rw[<-hH4]at hS4;simp only[Kh,Jd]at hS4;have eb_p:H4 kp=some _:=hS4.at_ (i:=1) rfl;have eb_0q0:H4 k0q0=some _:=hS4.at_ (i:=3) rfl;have hs_H4:Sub B H4:=hS4.in_ (i:=0) rfl;obtain⟨lc,o,cc,hve⟩:=Yr hv (by omega);have hv2:=hv.mono hs_H4;rw[hve]at hv2;obtain⟨e0,e1,e2,e3,e4⟩:=Ut hv2 hi;obtain⟨t,ht⟩:∃t,t=l.getD i noT:=⟨_,rfl⟩
  have hcur:qdh l i=⟨t.text,t.line,t.col,[⟨[],[]⟩],[]⟩:=by rw[ht];rfl
  rw[<-ht]at e0 e1 e2 e3 e4;have e3':rd wz H4 lc (o+i*5+2+1)= .int .i64 t.col:=e3;refine qaE 20 [] [0,1,4,5,6] mixed (by kernel_rfl) (by rfl) fun K hK=>?_;simp only[Ki,Bj,Ba,Vk,BG,BH];simp+decide only[qh,qi,qj,qo,ev,qZ,qW,putD,Vz,VA,VB,Ka,VC,VD,Kb,and_true,↓qaN,qR,↓UW,QS,XF,Xt,↓Wl,Qd,qbC,↓qaO,Yb,Qf qbV,↓WJ,Ql Tryd.underlying31 Ye,ZF,qbb,Qf ag9,qlw,Xm qta qpD,↓qhc,YL,↓Yf,qsT,evP,Ke,Vh,WC,ZH,YN,qaH,Yk,Ur,YO,qN,ne_eq,not_false_eq_true,qM wz eb_p,qO,qJ,VE,setAt,VF,Kj,qC,VG,Kn,Jp,Nat.reduceAdd,qF,qG,qI,qf,qK,qa,qz,qd,qE,qc,qA,qg,qH,qy,allLive,J4,tokV,posV,faultV,hlv,hlo,hve,e1,e2,e3,e3',VX,K6];repeat (with_reducible refine And.intro ?_ ?_;· first|trivial|omega|(intro hg;simp only[Ky,JH,Jh,VH,VI,VJ,decide_eq_true_eq,decide_eq_false_iff_not,qU]at hg;omega))
  refine qao (by rfl) ?_;refine QZ (cs:=[.str [], .nilSlice]) (by kernel_rfl) fun k4q17 hk4q17=>?_;have hn_4q17:H4 k4q17=none:=by first|assumption|(simp only[V7]at hk4q17;simp only[hk4q17])
  have hf_4q17:B k4q17=none:=Bh hs_H4 hn_4q17;have ne_4q17_p:k4q17≠kp:=BF hn_4q17 eb_p;rw[qh];simp+decide only[qh,qi,qj,qo,ev,qZ,qW,putD,Vz,VA,VB,Ka,VC,VD,Kb,and_true,↓qhc,YL,↓Yf,qky,evP,Ke,Vh,WC,ZH,YN,qaH,Yk,Ur,YO,qN,ne_eq,not_false_eq_true,ne_4q17_p,ne_4q17_p.symm,qM wz eb_p,qO,qJ,VE,setAt,VF,Kj,qC,VG,Kn,Jp,Nat.reduceAdd,qF,qG,qI,qf,qK,qa,qz,qd,qE,qc,qA,qg,qH,qy,allLive,J4,tokV,posV,faultV,hlv,hlo,hve,e1,e2,e3,e3',VX,K6];repeat (with_reducible refine And.intro ?_ ?_;· first|trivial|omega|(intro hg;simp only[Ky,JH,Jh,VH,VI,VJ,decide_eq_true_eq,decide_eq_false_iff_not,qU]at hg;omega))
  refine qao (by rfl) ?_;refine XP qmE (cs:=[.str [], .int .i64 0, .int .i64 0, .nilSlice, .nilSlice]) (by rfl) fun k4q19 hk4q19=>?_;have ne_4q19_4q17:k4q19≠k4q17:=by simp only[V7]at hk4q19;simp only[hk4q19,ne_eq,not_false_eq_true]
  have hn_4q19:H4 k4q19=none:=by first|assumption|(simp only[V7]at hk4q19;simp only[hk4q19])
  have hf_4q19:B k4q19=none:=Bh hs_H4 hn_4q19;have ne_4q19_p:k4q19≠kp:=BF hn_4q19 eb_p;rw[qh];repeat (with_reducible refine And.intro ?_ ?_;· first|trivial|omega|(intro hg;simp only[Ky,JH,Jh,VH,VI,VJ,decide_eq_true_eq,decide_eq_false_iff_not,qU]at hg;omega))
  try simp only[qi,qj]
  refine QO (by rfl) (by rfl) zqA Uw (by rfl) (by rfl) zqD (Jq _) (by rfl) ?_;simp only[Bi,setAt,VE,VF,Kj,Jp,Nat.reduceAdd];simp+decide only[qh,qi,qj,qo,ev,qZ,qW,putD,Vz,VA,VB,Ka,VC,VD,Kb,and_true,qN,ne_eq,not_false_eq_true,ne_4q17_p,ne_4q17_p.symm,ne_4q19_4q17,ne_4q19_4q17.symm,ne_4q19_p,ne_4q19_p.symm,qM wz eb_p,qO,qJ,VE,setAt,VF,Kj,qC,VG,Kn,Jp,Nat.reduceAdd,qF,qG,qI,qf,qK,qa,qz,qd,qE,qc,qA,qg,qH,qy,allLive,J4,tokV,posV,faultV,hlv,hlo,hve,e1,e2,e3,e3',VX,K6];repeat (with_reducible refine And.intro ?_ ?_;· first|trivial|omega|(intro hg;simp only[Ky,JH,Jh,VH,VI,VJ,decide_eq_true_eq,decide_eq_false_iff_not,qU]at hg;omega))
  apply hK;clear hK K;obtain⟨H5,hH5⟩:∃H5,H5=(H4.set k4q17 ⟨[.str [], .nilSlice],0⟩).set k4q19 ⟨[.str t.text, .int .i64 t.line, .int .i64 t.col, .slice (.own k4q17) 0 1 (.exact 1), .nilSlice],0⟩:=⟨_,rfl⟩
  refine BI (h':=H5) (by rw[hH5];exact Vg _) ?_;have hS5:=(hS4.lay hn_4q17 ⟨[.str [], .nilSlice],0⟩).lay ((AHeap.set_ne _ _ ne_4q19_4q17).trans hn_4q19) ⟨[.str t.text, .int .i64 t.line, .int .i64 t.col, .slice (.own k4q17) 0 1 (.exact 1), .nilSlice],0⟩;rw[<-hH5]at hS5;simp only[Kh,Jd]at hS5;have eb_p:H5 kp=some _:=hS5.at_ (i:=1) rfl;have eb_4q19:H5 k4q19=some _:=hS5.at_ (i:=5) rfl;have hs_H5:Sub B H5:=hS5.in_ (i:=0) rfl;refine awp_rseq [0,1,4,5,6,7,8] (by rfl) fun K hK=>?_;simp+decide only[qh,qi,qj,qo,ev,qZ,qW,putD,Vz,VA,VB,Ka,VC,VD,Kb,and_true,↓Qn,Qd,qfs,↓Qv,QN,Qf ag9,qN,ne_eq,not_false_eq_true,qM wz eb_p,qM wz eb_4q19,ne_4q19_p,ne_4q19_p.symm,qO,qJ,VE,setAt,VF,Kj,qC,VG,Kn,Jp,Nat.reduceAdd,qF,qG,qI,qf,qK,qa,qz,qd,qE,qc,qA,qg,qH,qy,allLive,J4,tokV,posV,faultV,hlv,hlo];repeat (with_reducible refine And.intro ?_ ?_;· first|trivial|omega|(intro hg;simp only[Ky,JH,Jh,VH,VI,VJ,decide_eq_true_eq,decide_eq_false_iff_not,qU]at hg;omega))
  refine Xk (V:= .tuple [.str (Zp t.text).1, .str (Zp t.text).2]) (by rfl) (by rfl) (qrr wz _ t.text) ?_;simp+decide only[qh,qi,qj,qo,ev,qZ,qW,putD,Vz,VA,VB,Ka,VC,VD,Kb,and_true,↓qY,qR,↓XW,XK,Zd,KX,JD,VG,Kn,↓qV,qP,qN,ne_eq,not_false_eq_true,qM wz eb_p,qM wz eb_4q19,ne_4q19_p,ne_4q19_p.symm,qO,qJ,VE,setAt,VF,Kj,qC,VG,Kn,Jp,Nat.reduceAdd,qF,qG,qI,qf,qK,qa,qz,qd,qE,qc,qA,qg,qH,qy,allLive,J4,tokV,posV,faultV,hlv,hlo];repeat (with_reducible refine And.intro ?_ ?_;· first|trivial|omega|(intro hg;simp only[Ky,JH,Jh,VH,VI,VJ,decide_eq_true_eq,decide_eq_false_iff_not,qU]at hg;omega))
  apply hK;clear hK K;refine awp_rseq [0,1,4,5,6,7,8] (by rfl) fun K hK=>?_;simp+decide only[qh,qi,qj,qo,ev,qZ,qW,putD,Vz,VA,VB,Ka,VC,VD,Kb,and_true,↓qY,qR,↓Xn,QS,XF,Xt,↓Qn,Qd,qfr,↓Qv,QN,Qf qrI,qN,ne_eq,not_false_eq_true,qM wz eb_p,qM wz eb_4q19,ne_4q19_p,ne_4q19_p.symm,qO,qJ,VE,setAt,VF,Kj,qC,VG,Kn,Jp,Nat.reduceAdd,qF,qG,qI,qf,qK,qa,qz,qd,qE,qc,qA,qg,qH,qy,allLive,J4,tokV,posV,faultV,hlv,hlo];repeat (with_reducible refine And.intro ?_ ?_;· first|trivial|omega|(intro hg;simp only[Ky,JH,Jh,VH,VI,VJ,decide_eq_true_eq,decide_eq_false_iff_not,qU]at hg;omega))
  refine QZ (cs:=[.str (Zp t.text).2]) (by kernel_rfl) fun k6q6 hk6q6=>?_;have hn_6q6:H5 k6q6=none:=by first|assumption|(simp only[V7]at hk6q6;simp only[hk6q6])
  have hf_6q6:B k6q6=none:=Bh hs_H5 hn_6q6;have ne_6q6_p:k6q6≠kp:=BF hn_6q6 eb_p;have ne_6q6_4q19:k6q6≠k4q19:=BF hn_6q6 eb_4q19;refine Uo (es:=1) (v:=ov) (p:=op) (xs:=O.map strC) (ys:=[strC (Zp t.text).2]) (i:=2) (by rfl) (by rfl) Tryd.underlying22 Tryd.underlying22 (fun k e=>by cases e) sz9 by9 ze9 (by rfl) (by decide) (by rfl) hP.open_ rfl (hS5.forget (V8 hn_6q6)) (by rfl) (V9 (Vf _ _ _) (fun x hx=>by rw[V4.1 hx];rfl) (by rfl) (by rfl) (.exact 1) (KL _)) (by rfl) (by simp) (by simp only[Jn,JF];omega) (by simp only[Jn,JF];omega) fun ov2 op2 h6 hov2 hG2 hS6=>?_;simp+decide only[qh,qi,qj,qo,ev,qZ,qW,putD,Vz,VA,VB,Ka,VC,VD,Kb,and_true,↓Xn,QS,XF,Xt,↓Qn,Qd,qfr,qN,ne_eq,not_false_eq_true,ne_6q6_p,ne_6q6_p.symm,ne_6q6_4q19,ne_6q6_4q19.symm,qM wz eb_p,qM wz eb_4q19,ne_4q19_p,ne_4q19_p.symm,qO,qJ,VE,setAt,VF,Kj,qC,VG,Kn,Jp,Nat.reduceAdd,qF,qG,qI,qf,qK,qa,qz,qd,qE,qc,qA,qg,qH,qy,allLive,J4,tokV,posV,faultV,hlv,hlo];repeat (with_reducible refine And.intro ?_ ?_;· first|trivial|omega|(intro hg;simp only[Ky,JH,Jh,VH,VI,VJ,decide_eq_true_eq,decide_eq_false_iff_not,qU]at hg;omega))
  refine QO (v:=ov2) (by rfl) (by rfl) (hS6.at_ (i:=1) rfl) qth hov2.live (by rw[hov2.cells];rfl) (by simp only[hov2.cells,KX,JD];omega) (Jq _) (by rw[hov2.cells];simp[XN,hov2.scal]) ?_;simp only[hov2.cells,setAt,VF,Kj,Jp,Nat.reduceAdd];simp+decide only[qh,qi,qj,qo,ev,qZ,qW,putD,Vz,VA,VB,Ka,VC,VD,Kb,and_true,qN,ne_eq,not_false_eq_true,ne_6q6_p,ne_6q6_p.symm,ne_6q6_4q19,ne_6q6_4q19.symm,qM wz eb_p,qM wz eb_4q19,ne_4q19_p,ne_4q19_p.symm,qO,qJ,VE,setAt,VF,Kj,qC,VG,Kn,Jp,Nat.reduceAdd,qF,qG,qI,qf,qK,qa,qz,qd,qE,qc,qA,qg,qH,qy,allLive,J4,tokV,posV,faultV,hlv,hlo];repeat (with_reducible refine And.intro ?_ ?_;· first|trivial|omega|(intro hg;simp only[Ky,JH,Jh,VH,VI,VJ,decide_eq_true_eq,decide_eq_false_iff_not,qU]at hg;omega))
  apply hK;clear hK K;obtain⟨H7,hH7⟩:∃H7,H7=h6.set kp (parB3 v i ov2):=⟨_,rfl⟩
  refine BI (h':=H7) (by rw[hH7];exact Vg _) ?_;have hS7:=hS6.put (i:=1) rfl (parB3 v i ov2);rw[<-hH7]at hS7;simp only[VF,Kj]at hS7;have eb_p:H7 kp=some _:=hS7.at_ (i:=1) rfl;have hs_H7:Sub B H7:=hS7.in_ (i:=0) rfl;have hwi:IntKind.i64.wrap ((i:Int)+1)=((i+1:Nat):Int):=by rw[wrap_i64 (by omega) (by omega)];omega
  refine awp_rseq [0,1,4,5,6,7,8] (by rfl) fun K hK=>?_;simp+decide only[qh,qi,qj,qo,ev,qZ,qW,putD,Vz,VA,VB,Ka,VC,VD,Kb,and_true,↓qY,qR,↓Xn,QS,XF,Xt,↓Qn,Qd,YR,↓Qv,QN,Qf ag3,↓Qh,Qa,Qm,cond_false,Qg,XM,qN,ne_eq,not_false_eq_true,qM wz eb_p,qO,qJ,VE,setAt,VF,Kj,qC,VG,Kn,Jp,Nat.reduceAdd,qF,qG,qI,qf,qK,qa,qz,qd,qE,qc,qA,qg,qH,qy,allLive,J4,tokV,posV,faultV,hlv,hlo,hwi];try simp(disch:=omega)only[wrap_i64,wrap_u8]
  repeat (with_reducible refine And.intro ?_ ?_;· first|trivial|omega|(intro hg;simp only[Ky,JH,Jh,VH,VI,VJ,decide_eq_true_eq,decide_eq_false_iff_not,qU]at hg;omega))
  refine QO (by rfl) (by rfl) zqA sz3 (by rfl) (by rfl) zqD (Jq _) (by rfl) ?_;simp only[Bi,setAt,VE,VF,Kj,Jp,Nat.reduceAdd];simp+decide only[qh,qi,qj,qo,ev,qZ,qW,putD,Vz,VA,VB,Ka,VC,VD,Kb,and_true,qN,ne_eq,not_false_eq_true,qM wz eb_p,qO,qJ,VE,setAt,VF,Kj,qC,VG,Kn,Jp,Nat.reduceAdd,qF,qG,qI,qf,qK,qa,qz,qd,qE,qc,qA,qg,qH,qy,allLive,J4,tokV,posV,faultV,hlv,hlo,hwi];repeat (with_reducible refine And.intro ?_ ?_;· first|trivial|omega|(intro hg;simp only[Ky,JH,Jh,VH,VI,VJ,decide_eq_true_eq,decide_eq_false_iff_not,qU]at hg;omega))
  apply hK;clear hK K;have hS8:=(hS7.put (i:=1) rfl (parB3 v (i+1) ov2)).emp.emp.emp.pick [0,1,2,5,4,6,7,8,3] (by decide) (by simp);refine JP [0,1,4,5,6,7,8] ?_;have:=hrest hd32 (H7.set kp (parB3 v (i+1) ov2)) B kp k4q19 k0q0 v ov2 (.slice (.own k4q17) 0 1 (.exact 1)) .nilSlice op2 (one k4q17 ⟨[.str [], .nilSlice],0⟩) emp emp emp O i ⟨?_,?_,?_,?_⟩ hF hO hvi
  ·rw[<-ht]at this
   exact this
  ·rw[hcur]
   exact hS8
  ·refine⟨hv,?_,hG2,by omega⟩
   rw[<-ht,VZ];exact hov2
  ·rw[hcur]
   exact⟨⟨[],[],[], .nilSlice,rfl,GrowV.new (xs:=[[AVal.str [], .nilSlice]]) rfl (.inl rfl) (fun x hx=>by rw[V4.1 hx];rfl) (by rfl) rfl, .nil,fun q hq=>by cases hq⟩,⟨[],rfl, .nil,fun b hb=>by cases hb⟩⟩
  ·rw[hcur]
   exact⟨by simp only[JF];omega,fun p hp=>by rw[V4.1 hp];exact Jq _,Jq _⟩
theorem qmr{wz:World}{d:Nat}{c:Cur}{pv bv:AVal}{pp tp bp E H:AHeap}(hc:CurS wz d c pv bv pp tp bp E)(h1:Sub pp H)(h2:Sub tp H)(h3:Sub E H):PhV wz H pv c.phrases:=by
 obtain⟨qs,w,ts,tv,p1,p2,p3,p4⟩:=hc.ph;refine⟨qs++[(⟨w,ts⟩,tv)],by rw[p1,VZ];rfl,by rw[VZ];exact p2.isL h1,fun q hq=>?_⟩;rcases JS.1 hq with z|z
 ·exact(p4 q z).mono h3
 ·rw[V4.1 z];exact p3.isL h2
theorem qms{wz:World}{d:Nat}{c:Cur}{pv bv:AVal}{pp tp bp E H:AHeap}(hc:CurS wz d c pv bv pp tp bp E)(h1:Sub bp H)(h3:Sub E H):BdV wz (StsV wz d H) H bv c.bodies:=by
 obtain⟨bs,p1,p2,p3⟩:=hc.bd;exact⟨bs,p1,p2.isL h1,fun b hb=>⟨(p3 b hb).1.mono h3,(p3 b hb).2.mono h3⟩⟩
theorem qlu{wz:World}{d:Nat}{c:Cur}{pv bv:AVal}{pp tp bp E:AHeap}{j:Nat}(hc:CurS wz d c pv bv pp tp bp E)(hf:Few c j)(hj:j<=1000000):qmA c.phrases:=by
 obtain⟨qs,w,ts,tv,p1,p2,p3,p4⟩:=hc.ph;exact⟨by rw[p1];simp,Vb hf.1 hj,fun p hp=>Vb (hf.2.1 p hp) hj⟩
theorem qrl{l:List TokC}{c c':Cur}{ph:Str}{j j':Nat}(hf:Few c j)(hne:c.phrases≠[])(hb:c.bodies=[])(h:qbs l c ph j= .ok c' j'):Few c' j'/\j<j':=by
 obtain⟨f1,f2,f3⟩:=hf;rw[qds hb]at h;have hp:=V5.2 hne;split at h
 ·cases h
  refine⟨⟨?_,fun p hp=>?_,by simp only;omega⟩,by omega⟩
  ·simp only[qnz,Jb,List.length_dropLast,JF];omega
  ·simp only[qnz]at hp
   rcases JS.1 hp with z|z
   ·have:=f2 p (List.dropLast_subset _ z);omega
   ·rw[V4.1 z]
    have:=f2 (c.phrases.getLastD ⟨[],[]⟩) (by
     rw[BM,List.getLast?_eq_some_getLast hne];exact List.getLast_mem hne)
    simp only[Jb,JF];omega
 ·rename_i hz
  split at h
  ·cases h
   refine⟨⟨?_,fun p hp=>?_,by simp only;omega⟩,by omega⟩
   ·simp only[Jb,JF];omega
   ·simp only at hp
    rcases JS.1 hp with z|z
    ·have:=f2 p z;omega
    ·rw[V4.1 z];exact Jq _
  ·cases h
   exact⟨⟨by omega,fun p hp=>by have:=f2 p hp;omega,by omega⟩,by omega⟩
theorem qnO{l:List TokC}{c:Cur}{ph:Str}{j:Nat}(hb:c.bodies=[]):∃c' j',qbs l c ph j= .ok c' j':=by
 rw[qds hb];split
 ·exact⟨_,_,rfl⟩
 ·split<;>exact⟨_,_,rfl⟩
theorem qse{l:List TokC}{c c':Cur}{ph:Str}{j j':Nat}(hb:c.bodies=[])(hj:j<l.length)(h:qbs l c ph j= .ok c' j'):j'<=l.length:=by
 rw[qds hb]at h;have:=qdU l j ph (BP hj);split at h
 ·cases h;omega
 ·split at h<;>cases h<;>exact this
theorem Few.up{c:Cur}{j j':Nat}(h:Few c j)(hj:j<=j'):Few c j':=⟨Vb h.1 hj,fun p hp=>Vb (h.2.1 p hp) hj,Vb h.2.2 hj⟩
theorem qkh{c c':Cur}{j j':Nat}(h:Few c j)(hp:c'.phrases=c.phrases)(hb:c'.bodies.length=c.bodies.length+1)(hj:j<j'):Few c' j':=⟨by rw[hp];exact Vb h.1 (BP hj),fun p hpm=>by rw[hp]at hpm;exact Vb (h.2.1 p hpm) (BP hj),by rw[hb];have:=h.2.2;omega⟩
theorem qrg(m:Option Str):impV m= .tuple [.str (m.getD []), .bool m.isSome]:=by cases m<;>rfl
structure LoG where
 c:Cur
 j:Nat
 ov:AVal
 pv:AVal
 bv:AVal
 op:AHeap
 pp:AHeap
 tp:AHeap
 bp:AHeap
 E:AHeap
 H:AHeap
theorem qsD{l:List TokC}{j:Nat}(h:j<l.length):isE l j=decide ((l.getD j noT).kind=6):=by unfold isE;rw[if_pos h]
theorem qmk{l:List TokC}{j:Nat}(h:¬j<l.length):isE l j=true:=by unfold isE;rw[if_neg h]
set_option maxHeartbeats 16000000 in
theorem qsz(wz:World)(hm:MaxL wz)(ha:Asp wz)(l:List TokC)(hl:l.length<=65537)(hsh:Short l)(dd:Nat)(hdd:dd<=32)(hd0:0<dd)(hbk:qte wz l dd)(B:AHeap)(kp ks k4:Nat)(b4:Blk)(v:AVal)(O O0:List Str)(ph bd:Str)(i:Nat)(Q:AVal->AHeap->Prop)(QP:FaultC->Prop)
 (hF:Fair O) (hO:O.length=dd) (hbd:O.getLastD []=bd) (hph1:ph.length<=1000000) (hph2:asciiB ph=true) (hbad0:∀f,LoopRO l dd O ph (qdh l i) (i+1) (.bad f)->QP f)
 (ov pv bv:AVal) (op pp tp bp E H:AHeap) (hI:StI wz l B kp ks k4 b4 v ov pv bv op pp tp bp E O (32-dd) (qdh l i) (i+1) H)
 (hrest:∀(H:AHeap) (ov pv bv:AVal) (op pp tp bp E:AHeap) (c:Cur) (cl:Bool) (j:Nat),StI wz l B kp ks k4 b4 v ov pv bv op pp tp bp E O (32-dd) c j H->i<j->LoopRO l dd O ph (qdh l i) (i+1) (.ok (c,cl) j)->
   Awp Tryd.prog wz ⟨201,[],GP wz 201 [] [] (qhI B QP)⟩ (WK 9 (qgk (WK 1 (qbT Tryd.f38)))) (qcC (qcb Tryd.prog wz [.cell 4 48] (Q))) [(0, .ptr (.own kp) 0),(4, .ptr (.own k4) 0),(5, .int .i64 i),(6, .ptr (.own ks) 0),(9, .bool cl)] (H)):
 Awp Tryd.prog wz ⟨201,[],GP wz 201 [] [] (qhI B QP)⟩ (WK 6 (qgk (WK 1 (qbT Tryd.f38)))) (qcC (qcb Tryd.prog wz [.cell 4 48] (Q))) [(0, .ptr (.own kp) 0),(1, .int .i64 dd),(4, .ptr (.own k4) 0),(5, .int .i64 i),(6, .ptr (.own ks) 0),(7, .str ph),(8, .str bd)] (H):=by
 change Awp _ _ _ (Code.seq _ _) _ _ _;refine awp_rseq [0,1,4,5,6,7,8,9] (by rfl) fun K hK=>?_;simp+decide only[qh,qi,qj,qo,ev,qZ,qW,putD,Vz,VA,VB,Ka,VC,VD,Kb,and_true,↓qV,qP,qN,ne_eq,not_false_eq_true,qO,qJ,VE,setAt,VF,Kj,qC,VG,Kn,Jp,Nat.reduceAdd,qF,qG,qI,qf,qK,qa,qz,qd,qE,qc,qA,qg,qH,qy,allLive,J4,tokV,posV,faultV];repeat (with_reducible refine And.intro ?_ ?_;· first|trivial|omega|(intro hg;simp only[Ky,JH,Jh,VH,VI,VJ,decide_eq_true_eq,decide_eq_false_iff_not,qU]at hg;omega))
 apply hK;clear hK K;refine Qr ?_;refine qnv ?_;change Awp _ _ _ _ _ _ _;refine Qr ?_;refine QK ?_;refine XL [0,1,4,5,6,7,8,9] (fun g:LoG=>[(0, .ptr (.own kp) 0),(1, .int .i64 dd),(4, .ptr (.own k4) 0),(5, .int .i64 i),(6, .ptr (.own ks) 0),(7, .str ph),(8, .str bd),(9, .bool false)]) (fun g:LoG=>g.H) (fun g:LoG=>StI wz l B kp ks k4 b4 v g.ov g.pv g.bv g.op g.pp g.tp g.bp g.E O (32-dd) g.c g.j g.H/\i<g.j/\∀r,LoopRO l dd O ph g.c g.j r->LoopRO l dd O ph (qdh l i) (i+1) r) (fun g:LoG=>l.length-g.j) ⟨qdh l i,i+1,ov,pv,bv,op,pp,tp,bp,E,H⟩ (by rfl) (Vg _) ⟨hI,Nat.lt_succ_self _,fun r hr=>hr⟩ ?_;rintro⟨c,j,ov,pv,bv,op,pp,tp,bp,E,H⟩ ⟨⟨hS,hP,hC,hfew⟩,hij,hgo⟩;simp only at hS hP hC hfew hij hgo|-
 have eb_p:H kp=some _:=hS.at_ (i:=1) rfl;have eb_s:H ks=some _:=hS.at_ (i:=3) rfl;have ne_p_s:kp≠ks:=hS.ne (i:=1) (j:=3) rfl rfl (by decide);have hs_H:Sub B H:=hS.in_ (i:=0) rfl;have hv:=hP.toks;have hlv:=hv.live;have nv:=YU hv;have hjl:=hP.at_;have hlo:=hP.open_.live;obtain⟨hpl,hps,hpc⟩:=hC.pv_ok;obtain⟨hbl,hbs,hbc,nb⟩:=hC.bv_len;refine Qr ?_;have mcase:(∃(lc:AM.Loc) (o:Nat) (cc:Cap),v= .slice lc o l.length cc/\j<l.length/\decide ((j:Int)<(l.length:Int))=true/\rd wz H lc (o+j*5)= .int .u8 (l.getD j noT).kind.toNat/\decide (((l.getD j noT).kind.toNat:Int)=6)=decide ((l.getD j noT).kind=6)/\(!isE l j)= !decide ((l.getD j noT).kind=6))\/
  (∃(lc:AM.Loc) (o:Nat) (cc:Cap),v=v/\¬j<l.length/\decide ((j:Int)<(l.length:Int))=false/\True/\True/\(!isE l j)=false):=by
  by_cases hlt:j<l.length
  ·obtain⟨lc,o,cc,hve⟩:=Yr hv (by omega)
   have hv2:=hv.mono hs_H;rw[hve]at hv2;exact .inl ⟨lc,o,cc,hve,hlt,by simpa using hlt,(Ut hv2 hlt).1,Wi _ 6,by rw[qsD hlt]⟩
  ·exact .inr ⟨.base 0,0, .exact 0,rfl,hlt,by simpa using hlt,trivial,trivial,by rw[qmk hlt];rfl⟩
 refine qbl [0,1,4,5,6,7,8,9,92] mixed (by kernel_rfl) (by rfl) (by rfl) fun K hK=>?_;suffices hM:∀b:Bool,b= !isE l j->K [(0, .ptr (.own kp) 0),(1, .int .i64 dd),(4, .ptr (.own k4) 0),(5, .int .i64 i),(6, .ptr (.own ks) 0),(7, .str ph),(8, .str bd),(9, .bool false),(92, .bool b)] (H) by
  rcases mcase with⟨lc,o,cc,hve,hkl,hkd,e0,hk6,hfin⟩|⟨lc,o,cc,hve,hkl,hkd,e0,hk6,hfin⟩<;>(
   simp+decide only[qh,qi,qj,qo,ev,qZ,qW,putD,Vz,VA,VB,Ka,VC,VD,Kb,and_true,↓qY,qR,↓Xn,QS,XF,Xt,↓Qn,Qd,YR,↓Qv,QN,Qf ag3,qbC,Qf qbV,↓XG,Xf,Qz Tryd.underlying31,QR Tryd.underlying31,↓Qh,Qa,QB,cond_false,Qg,Zv,↓Zy,agP,XH,gv,Qw,QJ,QI,QC,Qk,Qi,ZC,implies_true,VK,decide_true,decide_false,VL,VM,Qc,Qb,forall_const,false_implies,Qj,Qe,J4,VN,VO,VP,VQ,VS,VT,VU,Xp,Xr,Xo,↓qdm,qfv,qfw,↓Zk,XU,XV,↓ZK,Zz,WM,Ya,ZZ,ZY,ZW,ZV,ZU,ZR,ZT,↓Yn,UM,UL,UK,UJ,UI,UH,UC,UB,UG,UF,UE,UD,Ql Tryd.underlying31 Ye,YY,YW,Wd,YZ,Uv,Qf qgi,↓XY,Qm,Zh,Zg,Zj,Zi,qby,↓XR,Xw,Xb,QM,QL,QG,XC,XB,XA,Xz,Xl,Xy,qN,ne_eq,not_false_eq_true,qM wz eb_p,qM wz eb_s,qO,qJ,VE,setAt,VF,Kj,qC,VG,Kn,Jp,Nat.reduceAdd,qF,qG,qI,qf,qK,qa,qz,qd,qE,qc,qA,qg,qH,qy,allLive,J4,tokV,posV,faultV,hlv,nv,hve,hkd,e0,hk6,VX,K6,qal,Qb,Qc,VP,VO];repeat (with_reducible refine And.intro ?_ ?_;· first|trivial|omega|(intro hg;simp only[Ky,JH,Jh,VH,VI,VJ,decide_eq_true_eq,decide_eq_false_iff_not,qU]at hg;omega))
   exact hM _ hfin.symm)
 intro b hb_9;apply hK;clear hK K;refine Qu (b:=_) rfl (fun hb1=>?_) (fun hb1=>?_)
 ·try simp only[decide_eq_true_eq,decide_eq_false_iff_not,Jh,VJ,Ky,VH,JH,VI,VV,VW,reduceCtorEq]at hb1
  have hE0:isE l j=false:=by
   have z:(!isE l j)=true:=by rw[<-hb_9];exact hb1
   simpa using z
  have hjlt:j<l.length:=by
   by_cases z:j<l.length
   ·exact z
   ·rw[qmk z]at hE0;cases hE0
  obtain⟨lc,o,cc,hve⟩:=Yr hv (by omega);have hv2:=hv.mono hs_H;rw[hve]at hv2;obtain⟨e0,e1,e2,e3,e4⟩:=Ut hv2 hjlt;obtain⟨t,ht⟩:∃t,t=l.getD j noT:=⟨_,rfl⟩
  rw[<-ht]at e0 e1 e2 e3 e4;have htx:t.text.length<=1000000:=by rw[ht];exact hsh.at hjlt
  have hEV:qbG l j=qcE t:=by unfold qbG;rw[ht]
  have hVV:isV l j=Ul t:=by unfold isV;rw[if_pos hjlt,ht]
  refine QE ?_;change Awp _ _ _ _ _ _ _;refine QK ?_;refine qaE 11 [] [0,1,4,5,6,7,8,9,10] mixed (by kernel_rfl) (by rfl) fun K hK=>?_;simp only[Ki,Bj,Ba,Vk,BG,BH];simp+decide only[qh,qi,qj,qo,ev,qZ,qW,putD,Vz,VA,VB,Ka,VC,VD,Kb,and_true,↓qaN,qR,↓UW,QS,XF,Xt,↓Wl,Qd,qbC,↓qaO,Yb,Qf qbV,YR,Qf ag3,↓WJ,Ql Tryd.underlying31 Ye,ZF,Xm qhU Ye,qN,ne_eq,not_false_eq_true,qM wz eb_p,qM wz eb_s,qO,qJ,VE,setAt,VF,Kj,qC,VG,Kn,Jp,Nat.reduceAdd,qF,qG,qI,qf,qK,qa,qz,qd,qE,qc,qA,qg,qH,qy,allLive,J4,tokV,posV,faultV,hlv,hve,e0,e1,e2,e3,e4,VX,K6];repeat (with_reducible refine And.intro ?_ ?_;· first|trivial|omega|(intro hg;simp only[Ky,JH,Jh,VH,VI,VJ,decide_eq_true_eq,decide_eq_false_iff_not,qU]at hg;omega))
  refine qao (by rfl) ?_;refine XP qjy (cs:=[.int .u8 0, .str [], .int .i64 0, .int .i64 0, .bool false]) (by rfl) fun k10q10 hk10q10=>?_;have hn_10q10:H k10q10=none:=by first|assumption|(simp only[V7]at hk10q10;simp only[hk10q10])
  have hf_10q10:B k10q10=none:=Bh hs_H hn_10q10;have ne_10q10_p:k10q10≠kp:=BF hn_10q10 eb_p;have ne_10q10_s:k10q10≠ks:=BF hn_10q10 eb_s;rw[qh];repeat (with_reducible refine And.intro ?_ ?_;· first|trivial|omega|(intro hg;simp only[Ky,JH,Jh,VH,VI,VJ,decide_eq_true_eq,decide_eq_false_iff_not,qU]at hg;omega))
  try simp only[qi,qj]
  refine QO (by rfl) (by rfl) zqA Ye (by rfl) (by rfl) zqD (Jq _) (by rfl) ?_;simp only[Bi,setAt,VE,VF,Kj,Jp,Nat.reduceAdd];simp+decide only[qh,qi,qj,qo,ev,qZ,qW,putD,Vz,VA,VB,Ka,VC,VD,Kb,and_true,qN,ne_eq,not_false_eq_true,ne_10q10_p,ne_10q10_p.symm,ne_10q10_s,ne_10q10_s.symm,qM wz eb_p,qM wz eb_s,qO,qJ,VE,setAt,VF,Kj,qC,VG,Kn,Jp,Nat.reduceAdd,qF,qG,qI,qf,qK,qa,qz,qd,qE,qc,qA,qg,qH,qy,allLive,J4,tokV,posV,faultV,hlv,hve,e0,e1,e2,e3,e4,VX,K6];repeat (with_reducible refine And.intro ?_ ?_;· first|trivial|omega|(intro hg;simp only[Ky,JH,Jh,VH,VI,VJ,decide_eq_true_eq,decide_eq_false_iff_not,qU]at hg;omega))
  apply hK;clear hK K;refine Qr ?_;obtain⟨H11,hH11⟩:∃H11,H11=H.set k10q10 ⟨[.int .u8 t.kind.toNat, .str t.text, .int .i64 t.line, .int .i64 t.col, .bool t.left],0⟩:=⟨_,rfl⟩
  refine BI (h':=H11) (by rw[hH11];exact Vg _) ?_;have hS1:=hS.lay hn_10q10 ⟨[.int .u8 t.kind.toNat, .str t.text, .int .i64 t.line, .int .i64 t.col, .bool t.left],0⟩;rw[<-hH11]at hS1;simp only[Kh,Jd]at hS1;have eb_p:H11 kp=some _:=hS1.at_ (i:=1) rfl;have eb_s:H11 ks=some _:=hS1.at_ (i:=3) rfl;have eb_10q10:H11 k10q10=some _:=hS1.at_ (i:=9) rfl;have hs_H11:Sub B H11:=hS1.in_ (i:=0) rfl;obtain⟨hbd1,hbd2⟩:=qfp hF;rw[hbd]at hbd1 hbd2;obtain⟨S,hSS⟩:∃S,S=Xv l j bd:=⟨_,rfl⟩
  have hSle:=qdU l j bd hjl;rw[<-hSS]at hSle;have hSO:Xv l j (O.getLastD [])=S:=by rw[hbd,hSS]
  have hwj:IntKind.i64.wrap ((j:Int)+1)=((j+1:Nat):Int):=by rw[wrap_i64 (by omega) (by omega)];omega
  refine awp_rseq [0,1,4,5,6,7,8,9,10,11] (by rfl) fun K hK=>?_;simp+decide only[qh,qi,qj,qo,ev,qZ,qW,putD,Vz,VA,VB,Ka,VC,VD,Kb,and_true,↓Qv,QN,Xm qhU Ye,qN,ne_eq,not_false_eq_true,qM wz eb_p,qM wz eb_s,qM wz eb_10q10,ne_10q10_p,ne_10q10_p.symm,ne_10q10_s,ne_10q10_s.symm,qO,qJ,VE,setAt,VF,Kj,qC,VG,Kn,Jp,Nat.reduceAdd,qF,qG,qI,qf,qK,qa,qz,qd,qE,qc,qA,qg,qH,qy,allLive,J4,tokV,posV,faultV];repeat (with_reducible refine And.intro ?_ ?_;· first|trivial|omega|(intro hg;simp only[Ky,JH,Jh,VH,VI,VJ,decide_eq_true_eq,decide_eq_false_iff_not,qU]at hg;omega))
  refine Xk (V:= .str (qcE t)) (by rfl) (by rfl) (qmw wz hm _ t htx) ?_;simp+decide only[qh,qi,qj,qo,ev,qZ,qW,putD,Vz,VA,VB,Ka,VC,VD,Kb,and_true,↓qV,qP,qN,ne_eq,not_false_eq_true,qM wz eb_p,qM wz eb_s,qM wz eb_10q10,ne_10q10_p,ne_10q10_p.symm,ne_10q10_s,ne_10q10_s.symm,qO,qJ,VE,setAt,VF,Kj,qC,VG,Kn,Jp,Nat.reduceAdd,qF,qG,qI,qf,qK,qa,qz,qd,qE,qc,qA,qg,qH,qy,allLive,J4,tokV,posV,faultV];repeat (with_reducible refine And.intro ?_ ?_;· first|trivial|omega|(intro hg;simp only[Ky,JH,Jh,VH,VI,VJ,decide_eq_true_eq,decide_eq_false_iff_not,qU]at hg;omega))
  apply hK;clear hK K;refine awp_rseq [0,1,4,5,6,7,8,9,10,11,106] (by rfl) fun K hK=>?_;simp+decide only[qh,qi,qj,qo,ev,qZ,qW,putD,Vz,VA,VB,Ka,VC,VD,Kb,and_true,↓qY,qR,↓Qh,Qa,XE,cond_false,Xu,qbw,qN,ne_eq,not_false_eq_true,qM wz eb_p,qM wz eb_s,qM wz eb_10q10,ne_10q10_p,ne_10q10_p.symm,ne_10q10_s,ne_10q10_s.symm,qO,qJ,VE,setAt,VF,Kj,qC,VG,Kn,Jp,Nat.reduceAdd,qF,qG,qI,qf,qK,qa,qz,qd,qE,qc,qA,qg,qH,qy,allLive,J4,tokV,posV,faultV];repeat (with_reducible refine And.intro ?_ ?_;· first|trivial|omega|(intro hg;simp only[Ky,JH,Jh,VH,VI,VJ,decide_eq_true_eq,decide_eq_false_iff_not,qU]at hg;omega))
  apply hK;clear hK K;refine Qu (b:=_) rfl (fun hb2=>?_) (fun hb2=>?_)
  ·try simp only[decide_eq_true_eq,decide_eq_false_iff_not,Jh,VJ,Ky,VH,JH,VI,VV,VW,reduceCtorEq]at hb2
   refine Qr ?_;refine awp_rseq [0,4,5,6,9,110] (by rfl) fun K hK=>?_;simp+decide only[qh,qi,qj,qo,ev,qZ,qW,putD,Vz,VA,VB,Ka,VC,VD,Kb,and_true,↓qY,qR,↓Qn,Qd,qfs,↓Qv,QN,Qf ag9,↓Qh,Qa,QB,cond_false,Xu,Wo,qN,ne_eq,not_false_eq_true,qM wz eb_p,qM wz eb_s,qM wz eb_10q10,ne_10q10_p,ne_10q10_p.symm,ne_10q10_s,ne_10q10_s.symm,qO,qJ,VE,setAt,VF,Kj,qC,VG,Kn,Jp,Nat.reduceAdd,qF,qG,qI,qf,qK,qa,qz,qd,qE,qc,qA,qg,qH,qy,allLive,J4,tokV,posV,faultV];repeat (with_reducible refine And.intro ?_ ?_;· first|trivial|omega|(intro hg;simp only[Ky,JH,Jh,VH,VI,VJ,decide_eq_true_eq,decide_eq_false_iff_not,qU]at hg;omega))
   apply hK;clear hK K;refine Qu (b:=_) rfl (fun hb3=>?_) (fun hb3=>?_)
   ·try simp only[decide_eq_true_eq,decide_eq_false_iff_not,Jh,VJ,Ky,VH,JH,VI,VV,VW,reduceCtorEq]at hb3
    have hZ1:StI wz l B kp ks k4 b4 v ov pv bv op pp tp bp E O (32-dd) c (j+1) (H11.set kp (parB3 v (j+1) ov)):=⟨(hS1.put (i:=1) rfl (parB3 v (j+1) ov)).pick [0,1,2,3,4,5,6,7,8] (by decide) (by simp),⟨hv,hP.open_,hP.isG,by omega⟩,hC,hfew.up (Nat.le_succ _)⟩
    have hZ2:=hgo _ (LoopR.endS hE0 (hEV.trans hb3) (by rw[hEV];exact hb2));have hZ3:i<j+1:=by omega
    refine awp_rseq [0,4,5,6,9] (by rfl) fun K hK=>?_;simp+decide only[qh,qi,qj,qo,ev,qZ,qW,putD,Vz,VA,VB,Ka,VC,VD,Kb,and_true,↓qV,qP,qN,ne_eq,not_false_eq_true,qM wz eb_p,qM wz eb_s,qM wz eb_10q10,ne_10q10_p,ne_10q10_p.symm,ne_10q10_s,ne_10q10_s.symm,qO,qJ,VE,setAt,VF,Kj,qC,VG,Kn,Jp,Nat.reduceAdd,qF,qG,qI,qf,qK,qa,qz,qd,qE,qc,qA,qg,qH,qy,allLive,J4,tokV,posV,faultV];repeat (with_reducible refine And.intro ?_ ?_;· first|trivial|omega|(intro hg;simp only[Ky,JH,Jh,VH,VI,VJ,decide_eq_true_eq,decide_eq_false_iff_not,qU]at hg;omega))
    apply hK;clear hK K;refine Zf [0,4,5,6,9] (by rfl) ?_;simp+decide only[qh,qi,qj,qo,ev,qZ,qW,putD,Vz,VA,VB,Ka,VC,VD,Kb,and_true,↓qY,qR,↓Xn,QS,XF,Xt,↓Qn,Qd,YR,↓Qv,QN,Qf ag3,↓Qh,Qa,Qm,cond_false,Qg,XM,qN,ne_eq,not_false_eq_true,qM wz eb_p,qM wz eb_s,qM wz eb_10q10,ne_10q10_p,ne_10q10_p.symm,ne_10q10_s,ne_10q10_s.symm,qO,qJ,VE,setAt,VF,Kj,qC,VG,Kn,Jp,Nat.reduceAdd,qF,qG,qI,qf,qK,qa,qz,qd,qE,qc,qA,qg,qH,qy,allLive,J4,tokV,posV,faultV,hwj];try simp(disch:=omega)only[wrap_i64,wrap_u8]
    repeat (with_reducible refine And.intro ?_ ?_;· first|trivial|omega|(intro hg;simp only[Ky,JH,Jh,VH,VI,VJ,decide_eq_true_eq,decide_eq_false_iff_not,qU]at hg;omega))
    refine QO (by rfl) (by rfl) zqA sz3 (by rfl) (by rfl) zqD (Jq _) (by rfl) ?_;simp only[Bi,setAt,VE,VF,Kj,Jp,Nat.reduceAdd];simp+decide only[qh,qi,qj,qo,ev,qZ,qW,putD,Vz,VA,VB,Ka,VC,VD,Kb,and_true,qN,ne_eq,not_false_eq_true,qM wz eb_p,qM wz eb_s,qM wz eb_10q10,ne_10q10_p,ne_10q10_p.symm,ne_10q10_s,ne_10q10_s.symm,qO,qJ,VE,setAt,VF,Kj,qC,VG,Kn,Jp,Nat.reduceAdd,qF,qG,qI,qf,qK,qa,qz,qd,qE,qc,qA,qg,qH,qy,allLive,J4,tokV,posV,faultV,hwj];repeat (with_reducible refine And.intro ?_ ?_;· first|trivial|omega|(intro hg;simp only[Ky,JH,Jh,VH,VI,VJ,decide_eq_true_eq,decide_eq_false_iff_not,qU]at hg;omega))
    change Awp _ _ _ _ _ _ _;refine XJ ?_;change Awp _ _ _ _ _ _ _;refine JP [0,4,5,6,9] ?_;exact hrest _ _ _ _ _ _ _ _ _ _ _ _ hZ1 hZ3 hZ2
   ·try simp only[decide_eq_true_eq,decide_eq_false_iff_not,Jh,VJ,Ky,VH,JH,VI,VV,VW,reduceCtorEq]at hb3
    have hZ1:StI wz l B kp ks k4 b4 v ov pv bv op pp tp bp E O (32-dd) c j H11:=⟨hS1.pick [0,1,2,3,4,5,6,7,8] (by decide) (by simp),hP,hC,hfew⟩
    have hZ2:=hgo _ (LoopR.endO hE0 (fun z=>hb3 (hEV.symm.trans z)) (by rw[hEV];exact hb2));have hZ3:=hij;refine QE ?_;change Awp _ _ _ _ _ _ _;refine XJ ?_;change Awp _ _ _ _ _ _ _;refine JP [0,4,5,6,9] ?_;exact hrest _ _ _ _ _ _ _ _ _ _ _ _ hZ1 hZ3 hZ2
  ·try simp only[decide_eq_true_eq,decide_eq_false_iff_not,Jh,VJ,Ky,VH,JH,VI,VV,VW,reduceCtorEq]at hb2
   have hEn:qbG l j=[]:=by rw[hEV];exact hb2
   refine QE ?_;change Awp _ _ _ _ _ _ _;refine Qr ?_;refine awp_rseq [0,1,4,5,6,7,8,9,10,12,13] (by rfl) fun K hK=>?_;simp+decide only[qh,qi,qj,qo,ev,qZ,qW,putD,Vz,VA,VB,Ka,VC,VD,Kb,and_true,↓qY,qR,qN,ne_eq,not_false_eq_true,qM wz eb_p,qM wz eb_s,qM wz eb_10q10,ne_10q10_p,ne_10q10_p.symm,ne_10q10_s,ne_10q10_s.symm,qO,qJ,VE,setAt,VF,Kj,qC,VG,Kn,Jp,Nat.reduceAdd,qF,qG,qI,qf,qK,qa,qz,qd,qE,qc,qA,qg,qH,qy,allLive,J4,tokV,posV,faultV,hlv,hlo,hpl,hbl];repeat (with_reducible refine And.intro ?_ ?_;· first|trivial|omega|(intro hg;simp only[Ky,JH,Jh,VH,VI,VJ,decide_eq_true_eq,decide_eq_false_iff_not,qU]at hg;omega))
   refine Xk (V:= .tuple [.str S.1, .int .i64 S.2]) (by rfl) (by rfl) (by rw[hSS];exact qdi wz ha _ (.own kp) 0 v l j bd (qM wz eb_p 0) (qM wz eb_p 1) (hv.mono zqB) (by omega) hjl hbd1 hbd2) ?_;simp+decide only[qh,qi,qj,qo,ev,qZ,qW,putD,Vz,VA,VB,Ka,VC,VD,Kb,and_true,↓qY,qR,↓XW,XK,Zd,KX,JD,VG,Kn,↓qV,qP,qN,ne_eq,not_false_eq_true,qM wz eb_p,qM wz eb_s,qM wz eb_10q10,ne_10q10_p,ne_10q10_p.symm,ne_10q10_s,ne_10q10_s.symm,qO,qJ,VE,setAt,VF,Kj,qC,VG,Kn,Jp,Nat.reduceAdd,qF,qG,qI,qf,qK,qa,qz,qd,qE,qc,qA,qg,qH,qy,allLive,J4,tokV,posV,faultV,hlv,hlo,hpl,hbl];repeat (with_reducible refine And.intro ?_ ?_;· first|trivial|omega|(intro hg;simp only[Ky,JH,Jh,VH,VI,VJ,decide_eq_true_eq,decide_eq_false_iff_not,qU]at hg;omega))
   apply hK;clear hK K;refine awp_rseq [0,1,4,5,6,7,8,9,10,12,13,125] (by rfl) fun K hK=>?_;simp+decide only[qh,qi,qj,qo,ev,qZ,qW,putD,Vz,VA,VB,Ka,VC,VD,Kb,and_true,↓qY,qR,↓Qh,Qa,Qm,cond_false,Qg,Uu,qN,ne_eq,not_false_eq_true,qM wz eb_p,qM wz eb_s,qM wz eb_10q10,ne_10q10_p,ne_10q10_p.symm,ne_10q10_s,ne_10q10_s.symm,qO,qJ,VE,setAt,VF,Kj,qC,VG,Kn,Jp,Nat.reduceAdd,qF,qG,qI,qf,qK,qa,qz,qd,qE,qc,qA,qg,qH,qy,allLive,J4,tokV,posV,faultV];repeat (with_reducible refine And.intro ?_ ?_;· first|trivial|omega|(intro hg;simp only[Ky,JH,Jh,VH,VI,VJ,decide_eq_true_eq,decide_eq_false_iff_not,qU]at hg;omega))
   apply hK;clear hK K;refine Qu (b:=_) rfl (fun hb4=>?_) (fun hb4=>?_)
   ·try simp only[decide_eq_true_eq,decide_eq_false_iff_not,Jh,VJ,Ky,VH,JH,VI,VV,VW,reduceCtorEq]at hb4
    have hdj:[B,one k4 b4].Pairwise disj:=(hS1.pick [0,8] (by decide) (by simp)).2;have hcall:=hbk H11 (qaa [B,one k4 b4]) kp ks v ov bv pv op pp tp bp E O c (S.1) S.2 j (BJ (ps:=[B,one k4 b4]) (hS1.pick [0,8,1,2,3,4,5,6,7] (by decide) (by simp))) ⟨hv.mono (ZE hdj B (by simp)),hP.open_,hP.isG,hjl⟩ hC hF hO (by omega) (.inl (by omega)) hfew;by_cases hbad:∃f,BodyRO l dd O c (S.1) S.2 j (.bad f)
    ·skip
     refine Qr ?_;refine YD 4 (by rfl) (by rfl) ?_;simp only[Ki,Bj];simp+decide only[qh,qi,qj,qo,ev,qZ,qW,putD,Vz,VA,VB,Ka,VC,VD,Kb,and_true,↓qY,qR,qN,ne_eq,not_false_eq_true,qM wz eb_p,qM wz eb_s,qM wz eb_10q10,ne_10q10_p,ne_10q10_p.symm,ne_10q10_s,ne_10q10_s.symm,qO,qJ,VE,setAt,VF,Kj,qC,VG,Kn,Jp,Nat.reduceAdd,qF,qG,qI,qf,qK,qa,qz,qd,qE,qc,qA,qg,qH,qy,allLive,J4,tokV,posV,faultV];repeat (with_reducible refine And.intro ?_ ?_;· first|trivial|omega|(intro hg;simp only[Ky,JH,Jh,VH,VI,VJ,decide_eq_true_eq,decide_eq_false_iff_not,qU]at hg;omega))
     refine⟨⟨_,_,by rfl,?_⟩,by intro i;first|trivial|exact .inr trivial|exact .inr rfl⟩;obtain⟨f,hf⟩:=hbad;refine(hcall.bad fun x h' ⟨_,c',j',_,_,_,_,_,y,_⟩=>by cases y.one hf).mono (fun _ _ q=>q) fun x h' ⟨f',q1,q2,q3⟩=>⟨f',hbad0 _ (hgo _ (LoopR.bodyBad hE0 hEn (by rw[hSO];omega) (by rw[hSO];exact q1))),q2,(ZE hdj B (by simp)).trans q3⟩
    refine awp_rseq [0,1,4,5,6,7,8,9] (by rfl) fun K hK=>?_;simp+decide only[qh,qi,qj,qo,ev,qZ,qW,putD,Vz,VA,VB,Ka,VC,VD,Kb,and_true,↓qY,qR,qN,ne_eq,not_false_eq_true,qM wz eb_p,qM wz eb_s,qM wz eb_10q10,ne_10q10_p,ne_10q10_p.symm,ne_10q10_s,ne_10q10_s.symm,qO,qJ,VE,setAt,VF,Kj,qC,VG,Kn,Jp,Nat.reduceAdd,qF,qG,qI,qf,qK,qa,qz,qd,qE,qc,qA,qg,qH,qy,allLive,J4,tokV,posV,faultV];repeat (with_reducible refine And.intro ?_ ?_;· first|trivial|omega|(intro hg;simp only[Ky,JH,Jh,VH,VI,VJ,decide_eq_true_eq,decide_eq_false_iff_not,qU]at hg;omega))
    refine QT (by rfl) (by rfl) (hcall.ok fun x h' ⟨f,q,_⟩=>hbad ⟨f,q⟩) fun x18q4 h18q4 hx18q4=>?_;obtain⟨rfl,c',j',ov',op',bv',bp',E',hR,hjj,hp1,hp2,hp3,hp4,hbn,hC',hP',hS'⟩:=hx18q4;have hS':=(hS'.unfold hdj).pick [0,2,3,4,5,6,7,8,1] (by decide) (by simp);have hLoop:∃(c2:Cur) (j2:Nat) (ov2 pv2 bv2:AVal) (op2 pp2 tp2 bp2 E2:AHeap),StI wz l B kp ks k4 b4 v ov2 pv2 bv2 op2 pp2 tp2 bp2 E2 O (32-dd) c2 j2 h18q4/\j<j2/\∀r,LoopRO l dd O ph c2 j2 r->LoopRO l dd O ph (qdh l i) (i+1) r:=⟨c',j',ov',pv,bv',op',pp,tp,bp',E',⟨hS',⟨hv,hP'.open_,hP'.isG,hP'.at_⟩,hC',qkh hfew hp1 hbn hjj⟩,hjj,fun r hr=>hgo r (LoopR.body hE0 hEn (by rw[hSO];omega) (by rw[hSO];exact hR) hr)⟩
    simp+decide only[qh,qi,qj,qo,ev,qZ,qW,putD,Vz,VA,VB,Ka,VC,VD,Kb,and_true,qN,ne_eq,not_false_eq_true,qM wz eb_p,qM wz eb_s,qM wz eb_10q10,ne_10q10_p,ne_10q10_p.symm,ne_10q10_s,ne_10q10_s.symm,qO,qJ,VE,setAt,VF,Kj,qC,VG,Kn,Jp,Nat.reduceAdd,qF,qG,qI,qf,qK,qa,qz,qd,qE,qc,qA,qg,qH,qy,allLive,J4,tokV,posV,faultV];repeat (with_reducible refine And.intro ?_ ?_;· first|trivial|omega|(intro hg;simp only[Ky,JH,Jh,VH,VI,VJ,decide_eq_true_eq,decide_eq_false_iff_not,qU]at hg;omega))
    apply hK;clear hK K;refine XJ ?_;try simp only[QH,Qt,qaj]
    obtain⟨c2,j2,ov2,pv2,bv2,op2,pp2,tp2,bp2,E2,g1,g2,g3⟩:=hLoop;exact⟨⟨c2,j2,ov2,pv2,bv2,op2,pp2,tp2,bp2,E2,_⟩,rfl,Vg _,⟨g1,by simp only;omega,g3⟩,by have:=g1.par.at_;simp only;omega⟩
   ·try simp only[decide_eq_true_eq,decide_eq_false_iff_not,Jh,VJ,Ky,VH,JH,VI,VV,VW,reduceCtorEq]at hb4
    have hS0:(Xv l j (O.getLastD [])).2=0:=by rw[hSO];omega
    refine QE ?_;change Awp _ _ _ _ _ _ _;refine Qr ?_;refine awp_rseq [0,1,4,5,6,7,8,9,10,14,15] (by rfl) fun K hK=>?_;simp+decide only[qh,qi,qj,qo,ev,qZ,qW,putD,Vz,VA,VB,Ka,VC,VD,Kb,and_true,↓Qv,QN,Xm qhv Uw,qN,ne_eq,not_false_eq_true,qM wz eb_p,qM wz eb_s,qM wz eb_10q10,ne_10q10_p,ne_10q10_p.symm,ne_10q10_s,ne_10q10_s.symm,qO,qJ,VE,setAt,VF,Kj,qC,VG,Kn,Jp,Nat.reduceAdd,qF,qG,qI,qf,qK,qa,qz,qd,qE,qc,qA,qg,qH,qy,allLive,J4,tokV,posV,faultV,hpl,hbl,VO];repeat (with_reducible refine And.intro ?_ ?_;· first|trivial|omega|(intro hg;simp only[Ky,JH,Jh,VH,VI,VJ,decide_eq_true_eq,decide_eq_false_iff_not,qU]at hg;omega))
    refine QT (by rfl) (by rfl) (qlF wz ha _ c pv bv (32-dd) (qmr hC (hS1.in_ (i:=4) rfl) (hS1.in_ (i:=5) rfl) (hS1.in_ (i:=7) rfl)) (qms hC (hS1.in_ (i:=6) rfl) (hS1.in_ (i:=7) rfl)) (by have:=hfew.2.2;omega) (qlu hC hfew (by omega))) fun x19q1 h19q1 hx19q1=>?_;obtain⟨rfl,hs19⟩:=hx19q1;rw[qrg];obtain⟨m,hmm⟩:∃m,m=YM Xa c:=⟨_,rfl⟩
    rw[<-hmm];have hS19:=hS1.forget hs19;have hs_h19q1:Sub B h19q1:=Bq zqC hs19;have hr_h19q1:Sub H11 h19q1:=Bq zqC hs19;have eb_p:=hs19 kp _ zqA;have eb_s:=hs19 ks _ zqA;have eb_10q10:=hs19 k10q10 _ zqA;simp+decide only[qh,qi,qj,qo,ev,qZ,qW,putD,Vz,VA,VB,Ka,VC,VD,Kb,and_true,↓qY,qR,↓XW,XK,Zd,KX,JD,VG,Kn,↓qV,qP,qN,ne_eq,not_false_eq_true,qM wz eb_p,qM wz eb_s,qM wz eb_10q10,ne_10q10_p,ne_10q10_p.symm,ne_10q10_s,ne_10q10_s.symm,qO,qJ,VE,setAt,VF,Kj,qC,VG,Kn,Jp,Nat.reduceAdd,qF,qG,qI,qf,qK,qa,qz,qd,qE,qc,qA,qg,qH,qy,allLive,J4,tokV,posV,faultV,hpl,hbl,VO];repeat (with_reducible refine And.intro ?_ ?_;· first|trivial|omega|(intro hg;simp only[Ky,JH,Jh,VH,VI,VJ,decide_eq_true_eq,decide_eq_false_iff_not,qU]at hg;omega))
    apply hK;clear hK K;refine awp_rseq [0,1,4,5,6,7,8,9,10,14,140] (by rfl) fun K hK=>?_;simp+decide only[qh,qi,qj,qo,ev,qZ,qW,putD,Vz,VA,VB,Ka,VC,VD,Kb,and_true,↓qY,qR,↓ZK,QN,Zz,WM,Ya,ZZ,ZY,ZW,ZV,ZU,agP,XH,gv,Qw,QJ,QI,QC,Qk,Qi,ZC,implies_true,VK,decide_true,decide_false,VL,VM,Qc,Qb,forall_const,false_implies,Qj,Qe,J4,VN,VO,VP,VQ,VS,VT,VU,Xm qhU Ye,ZR,ZT,Xp,Xr,Xo,qN,ne_eq,not_false_eq_true,qM wz eb_p,qM wz eb_s,qM wz eb_10q10,ne_10q10_p,ne_10q10_p.symm,ne_10q10_s,ne_10q10_s.symm,qO,qJ,VE,setAt,VF,Kj,qC,VG,Kn,Jp,Nat.reduceAdd,qF,qG,qI,qf,qK,qa,qz,qd,qE,qc,qA,qg,qH,qy,allLive,J4,tokV,posV,faultV];repeat (with_reducible refine And.intro ?_ ?_;· first|trivial|omega|(intro hg;simp only[Ky,JH,Jh,VH,VI,VJ,decide_eq_true_eq,decide_eq_false_iff_not,qU]at hg;omega))
    first
    |(refine Yc (by rfl) ?_;refine Xk (V:= .bool (Ul t)) (by rfl) (by rfl) (qdk wz hm _ t htx) ?_)
    |(refine qbm (by rfl) (by rfl) ?_)
    |(refine WN (V:= .bool (Ul t)) (f:=_) (cap:=_) (xs:=_) (by first|rfl|(simp+decide only[gv,Qw,VA,Ka,QI,QJ])) (fun hg=>⟨rfl,?_⟩) (fun hg=>qdk wz hm _ t htx) ?_;· (simp+decide only[gv,Qw,putD,Vz,VA,Ka,Qk,Qi,QC,VK]at hg;simp+decide only[evs,ev,putD,Vz,VA,Ka,hg,Qc,JE,Ke,Vh,qZ,qW]<;>try rfl))
    simp+decide only[qh,qi,qj,qo,ev,qZ,qW,putD,Vz,VA,VB,Ka,VC,VD,Kb,and_true,gv,Qw,Qk,Qi,QC,↓XR,Xw,Xb,QM,QL,QG,XC,XB,XA,Xz,Xl,Xy,qN,ne_eq,not_false_eq_true,qM wz eb_p,qM wz eb_s,qM wz eb_10q10,ne_10q10_p,ne_10q10_p.symm,ne_10q10_s,ne_10q10_s.symm,qO,qJ,VE,setAt,VF,Kj,qC,VG,Kn,Jp,Nat.reduceAdd,qF,qG,qI,qf,qK,qa,qz,qd,qE,qc,qA,qg,qH,qy,allLive,J4,tokV,posV,faultV];repeat (with_reducible refine And.intro ?_ ?_;· first|trivial|omega|(intro hg;simp only[Ky,JH,Jh,VH,VI,VJ,decide_eq_true_eq,decide_eq_false_iff_not,qU]at hg;omega))
    apply hK;clear hK K;refine Qu (b:=_) rfl (fun hb5=>?_) (fun hb5=>?_)
    ·try simp only[decide_eq_true_eq,decide_eq_false_iff_not,Jh,VJ,Ky,VH,JH,VI,VV,VW,reduceCtorEq]at hb5
     have hVb:isV l j=true:=by rw[hVV];exact hb5.2
     obtain⟨w',hw'⟩:=Option.isSome_iff_exists.1 hb5.1;have hwg:m.getD []=w':=by rw[hw'];rfl
     have himp:YM Xa c=some (m.getD []):=by rw[hwg,<-hw',hmm]
     have hdj:[B,one k4 b4].Pairwise disj:=(hS19.pick [0,8] (by decide) (by simp)).2;have hcall:=hbk h19q1 (qaa [B,one k4 b4]) kp ks v ov bv pv op pp tp bp E O c (m.getD []) 0 j (BJ (ps:=[B,one k4 b4]) (hS19.pick [0,8,1,2,3,4,5,6,7] (by decide) (by simp))) ⟨hv.mono (ZE hdj B (by simp)),hP.open_,hP.isG,hjl⟩ hC hF hO (by omega) (.inr hVb) hfew;by_cases hbad:∃f,BodyRO l dd O c (m.getD []) 0 j (.bad f)
     ·skip
      refine Qr ?_;refine YD 3 (by rfl) (by rfl) ?_;simp only[Ki,Bj];simp+decide only[qh,qi,qj,qo,ev,qZ,qW,putD,Vz,VA,VB,Ka,VC,VD,Kb,and_true,↓qY,qR,qN,ne_eq,not_false_eq_true,qM wz eb_p,qM wz eb_s,qM wz eb_10q10,ne_10q10_p,ne_10q10_p.symm,ne_10q10_s,ne_10q10_s.symm,qO,qJ,VE,setAt,VF,Kj,qC,VG,Kn,Jp,Nat.reduceAdd,qF,qG,qI,qf,qK,qa,qz,qd,qE,qc,qA,qg,qH,qy,allLive,J4,tokV,posV,faultV];repeat (with_reducible refine And.intro ?_ ?_;· first|trivial|omega|(intro hg;simp only[Ky,JH,Jh,VH,VI,VJ,decide_eq_true_eq,decide_eq_false_iff_not,qU]at hg;omega))
      refine⟨⟨_,_,by rfl,?_⟩,by intro i;first|trivial|exact .inr trivial|exact .inr rfl⟩;obtain⟨f,hf⟩:=hbad;refine(hcall.bad fun x h' ⟨_,c',j',_,_,_,_,_,y,_⟩=>by cases y.one hf).mono (fun _ _ q=>q) fun x h' ⟨f',q1,q2,q3⟩=>⟨f',hbad0 _ (hgo _ (LoopR.implBad hE0 hEn hS0 hVb himp q1)),q2,(ZE hdj B (by simp)).trans q3⟩
     refine awp_rseq [0,1,4,5,6,7,8,9] (by rfl) fun K hK=>?_;simp+decide only[qh,qi,qj,qo,ev,qZ,qW,putD,Vz,VA,VB,Ka,VC,VD,Kb,and_true,↓qY,qR,qN,ne_eq,not_false_eq_true,qM wz eb_p,qM wz eb_s,qM wz eb_10q10,ne_10q10_p,ne_10q10_p.symm,ne_10q10_s,ne_10q10_s.symm,qO,qJ,VE,setAt,VF,Kj,qC,VG,Kn,Jp,Nat.reduceAdd,qF,qG,qI,qf,qK,qa,qz,qd,qE,qc,qA,qg,qH,qy,allLive,J4,tokV,posV,faultV];repeat (with_reducible refine And.intro ?_ ?_;· first|trivial|omega|(intro hg;simp only[Ky,JH,Jh,VH,VI,VJ,decide_eq_true_eq,decide_eq_false_iff_not,qU]at hg;omega))
     refine QT (by rfl) (by rfl) (hcall.ok fun x h' ⟨f,q,_⟩=>hbad ⟨f,q⟩) fun x21q3 h21q3 hx21q3=>?_;obtain⟨rfl,c',j',ov',op',bv',bp',E',hR,hjj,hp1,hp2,hp3,hp4,hbn,hC',hP',hS'⟩:=hx21q3;have hS':=(hS'.unfold hdj).pick [0,2,3,4,5,6,7,8,1] (by decide) (by simp);have hLoop:∃(c2:Cur) (j2:Nat) (ov2 pv2 bv2:AVal) (op2 pp2 tp2 bp2 E2:AHeap),StI wz l B kp ks k4 b4 v ov2 pv2 bv2 op2 pp2 tp2 bp2 E2 O (32-dd) c2 j2 h21q3/\j<j2/\∀r,LoopRO l dd O ph c2 j2 r->LoopRO l dd O ph (qdh l i) (i+1) r:=⟨c',j',ov',pv,bv',op',pp,tp,bp',E',⟨hS',⟨hv,hP'.open_,hP'.isG,hP'.at_⟩,hC',qkh hfew hp1 hbn hjj⟩,hjj,fun r hr=>hgo r (LoopR.impl hE0 hEn hS0 hVb himp hR hr)⟩
     simp+decide only[qh,qi,qj,qo,ev,qZ,qW,putD,Vz,VA,VB,Ka,VC,VD,Kb,and_true,qN,ne_eq,not_false_eq_true,qM wz eb_p,qM wz eb_s,qM wz eb_10q10,ne_10q10_p,ne_10q10_p.symm,ne_10q10_s,ne_10q10_s.symm,qO,qJ,VE,setAt,VF,Kj,qC,VG,Kn,Jp,Nat.reduceAdd,qF,qG,qI,qf,qK,qa,qz,qd,qE,qc,qA,qg,qH,qy,allLive,J4,tokV,posV,faultV];repeat (with_reducible refine And.intro ?_ ?_;· first|trivial|omega|(intro hg;simp only[Ky,JH,Jh,VH,VI,VJ,decide_eq_true_eq,decide_eq_false_iff_not,qU]at hg;omega))
     apply hK;clear hK K;refine XJ ?_;try simp only[QH,Qt,qaj]
     obtain⟨c2,j2,ov2,pv2,bv2,op2,pp2,tp2,bp2,E2,g1,g2,g3⟩:=hLoop;exact⟨⟨c2,j2,ov2,pv2,bv2,op2,pp2,tp2,bp2,E2,_⟩,rfl,Vg _,⟨g1,by simp only;omega,g3⟩,by have:=g1.par.at_;simp only;omega⟩
    ·try simp only[decide_eq_true_eq,decide_eq_false_iff_not,Jh,VJ,Ky,VH,JH,VI,VV,VW,reduceCtorEq]at hb5
     have hnI:isV l j=true->YM Xa c=none:=fun z=>by
      rw[<-hmm];cases hm0:m with
      |none=>rfl
      |some w'=>
       exfalso;rw[hVV]at z;rcases hb5 with y|y
       ·rw[hm0]at y;cases y
       ·rw[z]at y;cases y
     refine QE ?_;change Awp _ _ _ _ _ _ _;refine Qr ?_;refine awp_rseq [0,1,4,5,6,7,8,9,150] (by rfl) fun K hK=>?_;simp+decide only[qh,qi,qj,qo,ev,qZ,qW,putD,Vz,VA,VB,Ka,VC,VD,Kb,and_true,↓Qv,QN,Xm qhU Ye,qN,ne_eq,not_false_eq_true,qM wz eb_p,qM wz eb_s,qM wz eb_10q10,ne_10q10_p,ne_10q10_p.symm,ne_10q10_s,ne_10q10_s.symm,qO,qJ,VE,setAt,VF,Kj,qC,VG,Kn,Jp,Nat.reduceAdd,qF,qG,qI,qf,qK,qa,qz,qd,qE,qc,qA,qg,qH,qy,allLive,J4,tokV,posV,faultV];repeat (with_reducible refine And.intro ?_ ?_;· first|trivial|omega|(intro hg;simp only[Ky,JH,Jh,VH,VI,VJ,decide_eq_true_eq,decide_eq_false_iff_not,qU]at hg;omega))
     refine Xk (V:= .bool (Ul t)) (by rfl) (by rfl) (qdk wz hm _ t htx) ?_;simp+decide only[qh,qi,qj,qo,ev,qZ,qW,putD,Vz,VA,VB,Ka,VC,VD,Kb,and_true,↓qY,qR,↓Zy,agP,XH,gv,Qw,QJ,QI,QC,Qk,Qi,ZC,implies_true,VK,decide_true,decide_false,VL,VM,Qc,Qb,forall_const,false_implies,Qj,Qe,J4,VN,VO,VP,VQ,VS,VT,VU,Xp,Xr,Xo,qN,ne_eq,not_false_eq_true,qM wz eb_p,qM wz eb_s,qM wz eb_10q10,ne_10q10_p,ne_10q10_p.symm,ne_10q10_s,ne_10q10_s.symm,qO,qJ,VE,setAt,VF,Kj,qC,VG,Kn,Jp,Nat.reduceAdd,qF,qG,qI,qf,qK,qa,qz,qd,qE,qc,qA,qg,qH,qy,allLive,J4,tokV,posV,faultV];repeat (with_reducible refine And.intro ?_ ?_;· first|trivial|omega|(intro hg;simp only[Ky,JH,Jh,VH,VI,VJ,decide_eq_true_eq,decide_eq_false_iff_not,qU]at hg;omega))
     first
     |(refine Yc (by rfl) ?_;refine Xk (V:= .bool (qcA l O j)) (by rfl) (by rfl) (qmt wz ha _ kp v ov l j O eb_p (hv.mono zqB) (hP.open_.isL (hS19.in_ (i:=2) rfl)) hF (by omega) (by omega) (by omega) hjl) ?_)
     |(refine qbm (by rfl) (by rfl) ?_)
     |(refine WN (V:= .bool (qcA l O j)) (f:=_) (cap:=_) (xs:=_) (by first|rfl|(simp+decide only[gv,Qw,VA,Ka,QI,QJ])) (fun hg=>⟨rfl,?_⟩) (fun hg=>qmt wz ha _ kp v ov l j O eb_p (hv.mono zqB) (hP.open_.isL (hS19.in_ (i:=2) rfl)) hF (by omega) (by omega) (by omega) hjl) ?_;· (simp+decide only[gv,Qw,putD,Vz,VA,Ka,Qk,Qi,QC,VK]at hg;simp+decide only[evs,ev,putD,Vz,VA,Ka,hg,Qc,JE,Ke,Vh,qZ,qW]<;>try rfl))
     simp+decide only[qh,qi,qj,qo,ev,qZ,qW,putD,Vz,VA,VB,Ka,VC,VD,Kb,and_true,gv,Qw,Qk,Qi,QC,↓XR,Xw,Xb,QM,QL,QG,XC,XB,XA,Xz,Xl,Xy,qN,ne_eq,not_false_eq_true,qM wz eb_p,qM wz eb_s,qM wz eb_10q10,ne_10q10_p,ne_10q10_p.symm,ne_10q10_s,ne_10q10_s.symm,qO,qJ,VE,setAt,VF,Kj,qC,VG,Kn,Jp,Nat.reduceAdd,qF,qG,qI,qf,qK,qa,qz,qd,qE,qc,qA,qg,qH,qy,allLive,J4,tokV,posV,faultV];repeat (with_reducible refine And.intro ?_ ?_;· first|trivial|omega|(intro hg;simp only[Ky,JH,Jh,VH,VI,VJ,decide_eq_true_eq,decide_eq_false_iff_not,qU]at hg;omega))
     apply hK;clear hK K;refine Qu (b:=_) rfl (fun hb6=>?_) (fun hb6=>?_)
     ·try simp only[decide_eq_true_eq,decide_eq_false_iff_not,Jh,VJ,Ky,VH,JH,VI,VV,VW,reduceCtorEq]at hb6
      have hZ1:StI wz l B kp ks k4 b4 v ov pv bv op pp tp bp E O (32-dd) c j h19q1:=⟨hS19.pick [0,1,2,3,4,5,6,7,8] (by decide) (by simp),hP,hC,hfew⟩
      have hZ2:=hgo _ (LoopR.leave hE0 hEn hS0 hnI (by rw[hVV];exact hb6));have hZ3:=hij;refine XJ ?_;change Awp _ _ _ _ _ _ _;refine JP [0,4,5,6,9] ?_;exact hrest _ _ _ _ _ _ _ _ _ _ _ _ hZ1 hZ3 hZ2
     ·try simp only[decide_eq_true_eq,decide_eq_false_iff_not,Jh,VJ,Ky,VH,JH,VI,VV,VW,reduceCtorEq]at hb6
      have hnV:isV l j=false:=by rw[hVV];exact hb6.1
      have hdj:[B,one k4 b4].Pairwise disj:=(hS19.pick [0,8] (by decide) (by simp)).2;have hu:=ZE hdj;have hS20:=BJ (ps:=[B,one k4 b4]) (hS19.pick [0,8,1,2,3,4,5,6,7] (by decide) (by simp));refine QE ?_;change Awp _ _ _ _ _ _ _;by_cases hbb:c.bodies≠[]
      ·skip
       refine YD 2 (by rfl) (by rfl) ?_;simp only[Ki,Bj];simp+decide only[qh,qi,qj,qo,ev,qZ,qW,putD,Vz,VA,VB,Ka,VC,VD,Kb,and_true,↓qY,qR,qN,ne_eq,not_false_eq_true,qM wz eb_p,qM wz eb_s,qM wz eb_10q10,ne_10q10_p,ne_10q10_p.symm,ne_10q10_s,ne_10q10_s.symm,qO,qJ,VE,setAt,VF,Kj,qC,VG,Kn,Jp,Nat.reduceAdd,qF,qG,qI,qf,qK,qa,qz,qd,qE,qc,qA,qg,qH,qy,allLive,J4,tokV,posV,faultV];repeat (with_reducible refine And.intro ?_ ?_;· first|trivial|omega|(intro hg;simp only[Ky,JH,Jh,VH,VI,VJ,decide_eq_true_eq,decide_eq_false_iff_not,qU]at hg;omega))
       refine⟨⟨_,_,by rfl,?_⟩,by intro i;first|trivial|exact .inr trivial|exact .inr rfl⟩;refine(qoP wz _ (qaa [B,one k4 b4]) kp ks v ov bv pv op pp tp bp E c (32-dd) j l ph hS20 (hv.mono (hu B (by simp))) hC (by omega) hjl hbb).mono (fun _ _ q=>q) fun x h' ⟨q1,q2⟩=>⟨_,hbad0 _ (hgo _ (LoopR.tokBad hE0 hEn hS0 hnV hb6.2 (by unfold qbs;rw[if_pos hbb]))),q1,Bq (hS19.in_ (i:=0) rfl) q2⟩
      refine Zf [0,1,4,5,6,7,8,9] (by rfl) ?_;simp+decide only[qh,qi,qj,qo,ev,qZ,qW,putD,Vz,VA,VB,Ka,VC,VD,Kb,and_true,↓qY,qR,qN,ne_eq,not_false_eq_true,qM wz eb_p,qM wz eb_s,qM wz eb_10q10,ne_10q10_p,ne_10q10_p.symm,ne_10q10_s,ne_10q10_s.symm,qO,qJ,VE,setAt,VF,Kj,qC,VG,Kn,Jp,Nat.reduceAdd,qF,qG,qI,qf,qK,qa,qz,qd,qE,qc,qA,qg,qH,qy,allLive,J4,tokV,posV,faultV];repeat (with_reducible refine And.intro ?_ ?_;· first|trivial|omega|(intro hg;simp only[Ky,JH,Jh,VH,VI,VJ,decide_eq_true_eq,decide_eq_false_iff_not,qU]at hg;omega))
      refine QT (by rfl) (by rfl) (qro wz ha _ (qaa [B,one k4 b4]) kp ks v ov bv pv op pp tp bp E c _ (32-dd) j _ l ph hS20 (hv.mono (hu B (by simp))) hC (by omega) hjlt (Decidable.not_not.1 hbb) hph1 hph2 (qnO (Decidable.not_not.1 hbb)).choose_spec.choose_spec hfew hlo) fun x23q2 h23q2 hx23q2=>?_;obtain⟨rfl,pv',pp',tp',E',hC',hS'⟩:=hx23q2;have hS':=(hS'.unfold hdj).pick [0,2,3,4,5,6,7,8,1] (by decide) (by simp);have hok:=(qnO (l:=l) (ph:=ph) (j:=j) (Decidable.not_not.1 hbb)).choose_spec.choose_spec;obtain⟨hfw,hjj⟩:=qrl hfew (qlu hC hfew (by omega)).1 (Decidable.not_not.1 hbb) hok;have hLoop:∃(c2:Cur) (j2:Nat) (ov2 pv2 bv2:AVal) (op2 pp2 tp2 bp2 E2:AHeap),StI wz l B kp ks k4 b4 v ov2 pv2 bv2 op2 pp2 tp2 bp2 E2 O (32-dd) c2 j2 h23q2/\j<j2/\∀r,LoopRO l dd O ph c2 j2 r->LoopRO l dd O ph (qdh l i) (i+1) r:=⟨_,_,ov,pv',bv,op,pp',tp',bp,E',⟨hS',⟨hv,hP.open_,hP.isG,qse (Decidable.not_not.1 hbb) hjlt hok⟩,hC',hfw⟩,hjj,fun r hr=>hgo r (LoopR.tok hE0 hEn hS0 hnV hb6.2 hok hr)⟩
      simp+decide only[qh,qi,qj,qo,ev,qZ,qW,putD,Vz,VA,VB,Ka,VC,VD,Kb,and_true,qN,ne_eq,not_false_eq_true,qM wz eb_p,qM wz eb_s,qM wz eb_10q10,ne_10q10_p,ne_10q10_p.symm,ne_10q10_s,ne_10q10_s.symm,qO,qJ,VE,setAt,VF,Kj,qC,VG,Kn,Jp,Nat.reduceAdd,qF,qG,qI,qf,qK,qa,qz,qd,qE,qc,qA,qg,qH,qy,allLive,J4,tokV,posV,faultV];repeat (with_reducible refine And.intro ?_ ?_;· first|trivial|omega|(intro hg;simp only[Ky,JH,Jh,VH,VI,VJ,decide_eq_true_eq,decide_eq_false_iff_not,qU]at hg;omega))
      try simp only[QH,Qt,qaj]
      obtain⟨c2,j2,ov2,pv2,bv2,op2,pp2,tp2,bp2,E2,g1,g2,g3⟩:=hLoop;exact⟨⟨c2,j2,ov2,pv2,bv2,op2,pp2,tp2,bp2,E2,_⟩,rfl,Vg _,⟨g1,by simp only;omega,g3⟩,by have:=g1.par.at_;simp only;omega⟩
 ·try simp only[decide_eq_true_eq,decide_eq_false_iff_not,Jh,VJ,Ky,VH,JH,VI,VV,VW,reduceCtorEq]at hb1
  have hE0:isE l j=true:=by
   have z:(!isE l j)=false:=by rw[<-hb_9];exact hb1
   simpa using z
  have hZ1:StI wz l B kp ks k4 b4 v ov pv bv op pp tp bp E O (32-dd) c j H:=⟨hS,hP,hC,hfew⟩
  have hZ2:=hgo _ (LoopR.stop hE0);have hZ3:=hij;refine XJ ?_;change Awp _ _ _ _ _ _ _;refine JP [0,4,5,6,9] ?_;exact hrest _ _ _ _ _ _ _ _ _ _ _ _ hZ1 hZ3 hZ2
end Go.Proofs.YtgiadjbiimkbiaaDoor
