/-
  Texts of this proof, joined: SrC, SpF, SrD, SrI, SrJ, SrK, LwR, LwS, LwK, LwX, LwI.
  Conditions: none.
-/
import Derived.Test.YtgiadjbiimkbiaaDoorEf
import Derived.Test.YtgiadjbiimkbiaaDoorEe
import Derived.Test.YtgiadjbiimkbiaaDoorEc
import Derived.Test.YtgiadjbiimkbiaaDoorProg
import Derived.Test.YtgiadjbiimkbiaaDoorEb
import Derived.WalkKit
import Derived.ProofKit
import Derived.OpenShut
import Derived.ShutString
import Derived.ChangeOld
import Derived.Below
import Derived.Deep.Strs
import Derived.Handed
import Derived.HandedShaped
import Derived.Shelf.Vars
import Derived.Test.YtgiadjbiimkbiaaDoorRows
import Derived.Lib.LaidTab
import Derived.MakeChecks
set_option linter.unusedSimpArgs false
set_option linter.unnecessarySimpa false
set_option linter.unusedVariables false
open Nat renaming le_of_ble_eq_true->Vy,zero_add->Jp,le_refl->KL,le_trans->Vb,zero_le->Jq,le_of_succ_le_succ->EE,mul_one->V6,add_sub_cancel->Eh
open Go.AM.Slots renaming put->Vz,get->VA,keep->VB
open List renaming contains_cons->VC,contains_nil->VD,set_cons_zero->VF,set_cons_succ->Kj,getD_cons_zero->VG,getD_cons_succ->Kn,eq_nil_of_length_eq_zero->Kg,mem_singleton->V4,map_cons->Ke,map_nil->Vh,length_map->Jn,length_singleton->JF,map_append->VZ,length_cons->KX,length_nil->JD,nil_append->Jd,cons_append->Kh,sum_cons->EF,sum_nil->EG,foldl_cons->Ep,foldl_nil->EH,append_nil->JE,length_append->Jb,flatten_cons->Vm,mem_cons_self->Je,mem_cons_of_mem->Jf,mem_map->JI,mem_append->JS,take_of_length_le->JX,take_append_of_le_length->EM
open Go.AM.AVal renaming cells->VE
open Bool renaming and_true->J4,and_eq_true->Ky,or_eq_true->JH,not_eq_true'->Jh,and_eq_false_iff->VH,or_eq_false_iff->VI,not_eq_false'->VJ,not_not->VK,not_false->VL,not_true->VM,and_false->VN,true_and->VO,false_and->VP,or_true->VQ,or_false->VS,true_or->VT,false_or->VU,true_eq->VV,false_eq->VW
open Int renaming natCast_eq_zero->ED,tmod->EJ,tmod_eq_emod_of_nonneg->EK,natCast_emod->EL,toNat_natCast->VX
open Go.AM.Sub renaming refl->Vg,set->V8,trans->Bq,none->Bh
open Go.AM.AHeap renaming set_none->V7,set_same->Vf,set_set->Bi,ne_some->BG
open Go.AM.IsL renaming own->V9
open Go.Stm.StC renaming bodies->Ej,phrases->Ei,verb->El
open Go.Stm.ParseR renaming one->EI
namespace Go.Stm
open Go.Col (Str FaultC)
open Go.Tok
def ZB(d:Nat)(l:List StC):List TokC:=
 if l=[]then[]else if YU 32 l=true then[]else if 65536<(ZC d [] l++[qaA]).length then[]else ZC d [] l++[qaA]
def qjc(d:Nat)(l:List StC)(e:Int):Prop:=
 (0<l.length/\ZB d l=[]/\e=3)\/
 (¬(0<l.length/\ZB d l=[])/\((∃f,ParseR QY (ZB d l) Xi (.bad f)/\e=if f.e=0 then(if qdp 32 [] l=true then 0 else 4)else 4)\/∃L j,ParseR QY (ZB d l) Xi (.ok L j)/\e=if qdp 32 L l=true then 0 else 4))
end Go.Stm
namespace Go.Proofs.YtgiadjbiimkbiaaDoor
open Go.AM
open Go.Proofs
open Go.Col (Str FaultC okF)
open Go.Tok (TokC)
open Go.Stm
open Go.RowKit (Below)
set_option maxRecDepth 100000
structure StsOk(w0:World)(d:Nat)(h:AHeap)(v:AVal)(l:List StC):Prop where
 mem:StsV w0 d h v l
 small:SmallS d l
 tx:TxS d l
 asc:qoe d l
theorem StsOk.mono{w0:World}{d:Nat}{h h':AHeap}{v:AVal}{l:List StC}(hs:StsOk w0 d h v l)(hh:AM.Sub h h'):StsOk w0 d h' v l:=⟨hs.mem.mono hh,hs.small,hs.tx,hs.asc⟩
set_option maxHeartbeats 8000000 in
theorem qjR(w0:World)(hm:MaxL w0)(ha:Asp w0)(d:Nat)(h:AHeap)(v:AVal)(l:List StC)(hs:StsOk w0 d h v l)(hT:(ZC d [] l).length<=1000000000):
 ACall Tryd.prog w0 14 [v] h (fun r h'=>IsL w0 h' 5 r ((ZB d l).map Zh)/\AM.Sub h h'):=by
 have hlv:=hs.mem.shape.1;have nL:=qau hs.mem;obtain⟨R,hRR⟩:∃R,R=ZB d l:=⟨_,rfl⟩
 have hR:=hRR;unfold ZB at hR;rw[<-hRR];refine Xf (n:=21) (rs:=[.tmp 2]) Tryd.func14 rfl rfl rfl rfl (Vy rfl) ?_;simp only[Xe];refine awp_rseq [0] (by rfl) fun K hK=>?_;simp+decide only[qh,qi,qj,qo,ev,qZ,qY,putD,Vz,VA,VB,Ka,VC,VD,Kb,and_true,↓qV,qP,qM,ne_eq,not_false_eq_true,qN,qJ,VE,setAt,VF,Kj,qC,VG,Kn,Jp,Nat.reduceAdd,qF,qG,qI,qf,qK,qa,qz,qd,qE,qc,qA,qg,qH,qy,allLive,J4,tokV,posV,faultV,nL,hlv];repeat (with_reducible refine And.intro ?_ ?_;· first|trivial|omega|(intro hg;simp only[Ky,JH,Jh,VH,VI,VJ,decide_eq_true_eq,decide_eq_false_iff_not,qR]at hg;omega))
 apply hK;clear hK K;refine Qp ?_;have y0:(l.length=0/\∀z:Bool,(z && true)=z)\/(¬l.length=0/\YU 32 l=true)\/(¬l.length=0/\YU 32 l=false):=by
  by_cases y1:l.length=0
  ·exact .inl ⟨y1,J4⟩
  ·cases y2:YU 32 l with
   |true=>exact .inr (.inl ⟨y1,rfl⟩)
   |false=>exact .inr (.inr ⟨y1,rfl⟩)
 rcases y0 with⟨y1,y2⟩|⟨y1,y2⟩|⟨y1,y2⟩
 all_goals
  refine awp_rseq [0,10] (by rfl) fun K hK=>?_;simp+decide only[qh,qi,qj,qo,ev,qZ,qY,putD,Vz,VA,VB,Ka,VC,VD,Kb,and_true,↓qW,qU,↓XG,Xh,QE Tryd.underlying23,QT Tryd.underlying23,↓Qj,Qa,Qm,cond_false,Qh,ZE,↓Zj,agP,Xw,gv,QB,QD,QC,Qs,Qg,Qe,Zk,implies_true,VK,decide_true,decide_false,VL,VM,Qc,Qb,forall_const,false_implies,Qk,Qf,J4,VN,VO,VP,VQ,VS,VT,VU,Xb,Xc,Xa,qM,ne_eq,not_false_eq_true,qN,qJ,VE,setAt,VF,Kj,qC,VG,Kn,Jp,Nat.reduceAdd,qF,qG,qI,qf,qK,qa,qz,qd,qE,qc,qA,qg,qH,qy,allLive,J4,tokV,posV,faultV,nL,hlv,y1,y2,ED];repeat (with_reducible refine And.intro ?_ ?_;· first|trivial|omega|(intro hg;simp only[Ky,JH,Jh,VH,VI,VJ,decide_eq_true_eq,decide_eq_false_iff_not,qR]at hg;omega))
  first
  |(refine WI (by rfl) (by rfl) ?_)
  |(refine Zf (by rfl) ?_
    refine QN (by rfl) (by rfl) (qiF w0 32 d _ v l (by decide) hs.mem hs.small) fun x1q5 h1q5 hx1q5=>?_;obtain⟨rfl,hs1⟩:=hx1q5)
  simp+decide only[qh,qi,qj,qo,ev,qZ,qY,putD,Vz,VA,VB,Ka,VC,VD,Kb,and_true,gv,QB,Qg,Qe,Qs,↓XH,Xj,QO,QH,QG,QA,Xo,Xn,Xm,Xl,QZ,Xk,qM,ne_eq,not_false_eq_true,qN,qJ,VE,setAt,VF,Kj,qC,VG,Kn,Jp,Nat.reduceAdd,qF,qG,qI,qf,qK,qa,qz,qd,qE,qc,qA,qg,qH,qy,allLive,J4,tokV,posV,faultV,nL,hlv,y1,y2,ED];repeat (with_reducible refine And.intro ?_ ?_;· first|trivial|omega|(intro hg;simp only[Ky,JH,Jh,VH,VI,VJ,decide_eq_true_eq,decide_eq_false_iff_not,qR]at hg;omega))
  apply hK;clear hK K;refine Qw (b:=_) rfl (fun hb1=>?_) (fun hb1=>?_)
  ·try (cases hb1;done)
   all_goals clear hb1
   all_goals
    have hN:R=[]:=by
     rw[hR];first
      |(rw[if_pos (Kg y1)];done)
      |(rw[if_neg (fun e=>y1 (by rw[e];rfl)),if_pos y2];done)
   all_goals
    try simp only[decide_eq_true_eq,decide_eq_false_iff_not,Jh,VJ,Ky,VH,JH,VI,VV,VW,reduceCtorEq]at hb1
    refine awp_rseq [2] (by rfl) fun K hK=>?_;simp+decide only[qh,qi,qj,qo,ev,qZ,qY,putD,Vz,VA,VB,Ka,VC,VD,Kb,and_true,↓qV,qP,qM,ne_eq,not_false_eq_true,qN,qJ,VE,setAt,VF,Kj,qC,VG,Kn,Jp,Nat.reduceAdd,qF,qG,qI,qf,qK,qa,qz,qd,qE,qc,qA,qg,qH,qy,allLive,J4,tokV,posV,faultV,nL,hlv];repeat (with_reducible refine And.intro ?_ ?_;· first|trivial|omega|(intro hg;simp only[Ky,JH,Jh,VH,VI,VJ,decide_eq_true_eq,decide_eq_false_iff_not,qR]at hg;omega))
    apply hK;clear hK K;refine Xd ?_;try simp only[QF,Qn]
    refine Xu (Qr (Qv)) ?_;simp+decide only[qh,qi,qj,qo,ev,qZ,qY,putD,Vz,VA,VB,Ka,VC,VD,Kb,and_true,QU,qM,ne_eq,not_false_eq_true,qN,qJ,VE,setAt,VF,Kj,qC,VG,Kn,Jp,Nat.reduceAdd,qF,qG,qI,qf,qK,qa,qz,qd,qE,qc,qA,qg,qH,qy,allLive,J4,tokV,posV,faultV,nL,hlv];rw[hN];exact⟨h,by first|exact Vg _|exact hs1, .nil,Vg _⟩
  ·try (cases hb1;done)
   all_goals clear hb1
   all_goals (rw[if_neg (fun e=>y1 (by rw[e];rfl)),if_neg (by rw[y2];decide)]at hR)
   all_goals have hS0:AM.Sep [h1q5,emp] h1q5:=Sep.emp (ps:=[h1q5]) ⟨fun p hp=>by rw[V4.1 hp];exact Vg _,by simp⟩
   all_goals
    try simp only[decide_eq_true_eq,decide_eq_false_iff_not,Jh,VJ,Ky,VH,JH,VI,VV,VW,reduceCtorEq]at hb1
    refine QJ ?_;change Awp _ _ _ _ _ _ _;refine awp_rseq [3] (by rfl) fun K hK=>?_;simp+decide only[qh,qi,qj,qo,ev,qZ,qY,putD,Vz,VA,VB,Ka,VC,VD,Kb,and_true,↓qW,qU,qM,ne_eq,not_false_eq_true,qN,qJ,VE,setAt,VF,Kj,qC,VG,Kn,Jp,Nat.reduceAdd,qF,qG,qI,qf,qK,qa,qz,qd,qE,qc,qA,qg,qH,qy,allLive,J4,tokV,posV,faultV,nL,hlv];repeat (with_reducible refine And.intro ?_ ?_;· first|trivial|omega|(intro hg;simp only[Ky,JH,Jh,VH,VI,VJ,decide_eq_true_eq,decide_eq_false_iff_not,qR]at hg;omega))
    refine QN (by rfl) (by rfl) (qoK w0 hm ha d h1q5 v .nilSlice emp h1q5 [] l (hs.mem.mono hs1) hs.small hs.tx hs.asc .nil rfl hS0 hT) fun x3q1 h3q1 hx3q1=>?_;obtain⟨p3,hrow3,hG3,hS3⟩:=hx3q1;have hrl3:=hrow3.live;simp+decide only[qh,qi,qj,qo,ev,qZ,qY,putD,Vz,VA,VB,Ka,VC,VD,Kb,and_true,↓Wm,ZU,↓Zz,qgY,evP,Ke,Vh,Ym,Zr,ZV,Ue,ZA,Wt,ZW,qM,ne_eq,not_false_eq_true,qN,qJ,VE,setAt,VF,Kj,qC,VG,Kn,Jp,Nat.reduceAdd,qF,qG,qI,qf,qK,qa,qz,qd,qE,qc,qA,qg,qH,qy,allLive,J4,tokV,posV,faultV,nL,hlv,hrl3];repeat (with_reducible refine And.intro ?_ ?_;· first|trivial|omega|(intro hg;simp only[Ky,JH,Jh,VH,VI,VJ,decide_eq_true_eq,decide_eq_false_iff_not,qR]at hg;omega))
    refine QS (cs:=Zh qaA) (by kernel_rfl) fun k3q3 hk3q3=>?_;try have hf_3q3:h k3q3=none:=by first|assumption|(simp only[V7]at hk3q3;simp only[hk3q3])
    refine Ya (es:=5) (v:=x3q1) (p:=p3) (xs:=(ZC d [] l).map Zh) (ys:=[Zh qaA]) (i:=1) (by rfl) (by rfl) Tryd.underlying31 Tryd.underlying31 (fun k e=>by cases e) Yv qgg qdT (by rfl) (by decide) (by rfl) hrow3 hG3 rfl (hS3.forget (V8 hk3q3)) (by rfl) (V9 (Vf _ _ _) (fun x hx=>by rw[V4.1 hx];rfl) (by rfl) (by rfl) (.exact 1) (KL _)) (by rfl) (by simp only[Jn,JF];omega) (by simp only[Jn,JF];omega) fun rv4 rp4 h4 hrow4 hG4 hS4=>?_;have hrow4:GrowV 5 rv4 rp4 ((ZC d [] l++[qaA]).map Zh):=by rw[VZ];exact hrow4
    have hrl4:=hrow4.live;have n4:=Yl (hrow4.isL (w0:=w0) (hS4.in_ (i:=1) rfl));have hs4:AM.Sub h h4:=hs1.trans (hS4.in_ (i:=0) rfl);simp+decide only[qh,qi,qj,qo,ev,qZ,qY,putD,Vz,VA,VB,Ka,VC,VD,Kb,and_true,↓qV,qP,qM,ne_eq,not_false_eq_true,qN,qJ,VE,setAt,VF,Kj,qC,VG,Kn,Jp,Nat.reduceAdd,qF,qG,qI,qf,qK,qa,qz,qd,qE,qc,qA,qg,qH,qy,allLive,J4,tokV,posV,faultV,nL,hlv,hrl3];repeat (with_reducible refine And.intro ?_ ?_;· first|trivial|omega|(intro hg;simp only[Ky,JH,Jh,VH,VI,VJ,decide_eq_true_eq,decide_eq_false_iff_not,qR]at hg;omega))
    apply hK;clear hK K;refine Qp ?_;refine awp_rseq [3,18] (by rfl) fun K hK=>?_;simp+decide only[qh,qi,qj,qo,ev,qZ,qY,putD,Vz,VA,VB,Ka,VC,VD,Kb,and_true,↓qW,qU,↓XG,Xh,QE Tryd.underlying31,QT Tryd.underlying31,↓Qj,Qa,Qm,cond_false,Qh,UE,qM,ne_eq,not_false_eq_true,qN,qJ,VE,setAt,VF,Kj,qC,VG,Kn,Jp,Nat.reduceAdd,qF,qG,qI,qf,qK,qa,qz,qd,qE,qc,qA,qg,qH,qy,allLive,J4,tokV,posV,faultV,hrl4,n4];repeat (with_reducible refine And.intro ?_ ?_;· first|trivial|omega|(intro hg;simp only[Ky,JH,Jh,VH,VI,VJ,decide_eq_true_eq,decide_eq_false_iff_not,qR]at hg;omega))
    apply hK;clear hK K;refine Qw (b:=_) rfl (fun hb2=>?_) (fun hb2=>?_)
    ·try simp only[decide_eq_true_eq,decide_eq_false_iff_not,Jh,VJ,Ky,VH,JH,VI,VV,VW,reduceCtorEq]at hb2
     refine awp_rseq [2] (by rfl) fun K hK=>?_;simp+decide only[qh,qi,qj,qo,ev,qZ,qY,putD,Vz,VA,VB,Ka,VC,VD,Kb,and_true,↓qV,qP,qM,ne_eq,not_false_eq_true,qN,qJ,VE,setAt,VF,Kj,qC,VG,Kn,Jp,Nat.reduceAdd,qF,qG,qI,qf,qK,qa,qz,qd,qE,qc,qA,qg,qH,qy,allLive,J4,tokV,posV,faultV,hrl4,n4];repeat (with_reducible refine And.intro ?_ ?_;· first|trivial|omega|(intro hg;simp only[Ky,JH,Jh,VH,VI,VJ,decide_eq_true_eq,decide_eq_false_iff_not,qR]at hg;omega))
     apply hK;clear hK K;refine Xd ?_;try simp only[QF,Qn]
     refine Xu (Qr (Qv)) ?_;simp+decide only[qh,qi,qj,qo,ev,qZ,qY,putD,Vz,VA,VB,Ka,VC,VD,Kb,and_true,QU,qM,ne_eq,not_false_eq_true,qN,qJ,VE,setAt,VF,Kj,qC,VG,Kn,Jp,Nat.reduceAdd,qF,qG,qI,qf,qK,qa,qz,qd,qE,qc,qA,qg,qH,qy,allLive,J4,tokV,posV,faultV,hrl4,n4];rw[hR,if_pos (by omega)];exact⟨h4,Vg _, .nil,hs4⟩
    ·try simp only[decide_eq_true_eq,decide_eq_false_iff_not,Jh,VJ,Ky,VH,JH,VI,VV,VW,reduceCtorEq]at hb2
     rw[if_neg (by omega)]at hR;refine QJ ?_;change Awp _ _ _ _ _ _ _;refine awp_rseq [2] (by rfl) fun K hK=>?_;simp+decide only[qh,qi,qj,qo,ev,qZ,qY,putD,Vz,VA,VB,Ka,VC,VD,Kb,and_true,↓qW,qU,qM,ne_eq,not_false_eq_true,qN,qJ,VE,setAt,VF,Kj,qC,VG,Kn,Jp,Nat.reduceAdd,qF,qG,qI,qf,qK,qa,qz,qd,qE,qc,qA,qg,qH,qy,allLive,J4,tokV,posV,faultV,hrl4,n4];repeat (with_reducible refine And.intro ?_ ?_;· first|trivial|omega|(intro hg;simp only[Ky,JH,Jh,VH,VI,VJ,decide_eq_true_eq,decide_eq_false_iff_not,qR]at hg;omega))
     refine XD (V:=Yd rv4) (by rfl) (by rfl) (qgf w0 _ rv4 _ (hrow4.isL (hS4.in_ (i:=1) rfl))) ?_;simp+decide only[qh,qi,qj,qo,ev,qZ,qY,putD,Vz,VA,VB,Ka,VC,VD,Kb,and_true,↓qV,qP,qM,ne_eq,not_false_eq_true,qN,qJ,VE,setAt,VF,Kj,qC,VG,Kn,Jp,Nat.reduceAdd,qF,qG,qI,qf,qK,qa,qz,qd,qE,qc,qA,qg,qH,qy,allLive,J4,tokV,posV,faultV,hrl4,n4];repeat (with_reducible refine And.intro ?_ ?_;· first|trivial|omega|(intro hg;simp only[Ky,JH,Jh,VH,VI,VJ,decide_eq_true_eq,decide_eq_false_iff_not,qR]at hg;omega))
     apply hK;clear hK K;refine Xd ?_;try simp only[QF,Qn]
     refine Xu (Qr (Qv)) ?_;simp+decide only[qh,qi,qj,qo,ev,qZ,qY,putD,Vz,VA,VB,Ka,VC,VD,Kb,and_true,QU,qM,ne_eq,not_false_eq_true,qN,qJ,VE,setAt,VF,Kj,qC,VG,Kn,Jp,Nat.reduceAdd,qF,qG,qI,qf,qK,qa,qz,qd,qE,qc,qA,qg,qH,qy,allLive,J4,tokV,posV,faultV,hrl4,n4];rw[hR];exact⟨h4,Vg _,(hrow4.isL (hS4.in_ (i:=1) rfl)).clip,hs4⟩
theorem qle(d:Nat)(l:List StC):(ZB d l).length<=65536:=by
 unfold ZB;repeat' split
 all_goals first|(simp;done)|omega
set_option maxHeartbeats 8000000 in
theorem qoS(w0:World)(hm:MaxL w0)(ha:Asp w0)(d:Nat)(h:AHeap)(v:AVal)(l:List StC)(hs:StsOk w0 d h v l)(hT:(ZC d [] l).length<=1000000000)(hsh:Short (ZB d l))(hL:∀L j,ParseR QY (ZB d l) Xi (.ok L j)->SmallS 32 L):
 ACall Tryd.prog w0 13 [v] h (fun r h'=>(∃e,r= .int .i64 e/\qjc d l e)/\AM.Sub h h'):=by
 have hlv:=hs.mem.shape.1;have nL:=qau hs.mem;refine Xf (n:=30) (rs:=[.tmp 2]) Tryd.func13 rfl rfl rfl rfl (Vy rfl) ?_;simp only[Xe];refine awp_rseq [0] (by rfl) fun K hK=>?_;simp+decide only[qh,qi,qj,qo,ev,qZ,qY,putD,Vz,VA,VB,Ka,VC,VD,Kb,and_true,↓qV,qP,qM,ne_eq,not_false_eq_true,qN,qJ,VE,setAt,VF,Kj,qC,VG,Kn,Jp,Nat.reduceAdd,qF,qG,qI,qf,qK,qa,qz,qd,qE,qc,qA,qg,qH,qy,allLive,J4,tokV,posV,faultV,nL,hlv];repeat (with_reducible refine And.intro ?_ ?_;· first|trivial|omega|(intro hg;simp only[Ky,JH,Jh,VH,VI,VJ,decide_eq_true_eq,decide_eq_false_iff_not,qR]at hg;omega))
 apply hK;clear hK K;refine awp_rseq [0,3] (by rfl) fun K hK=>?_;simp+decide only[qh,qi,qj,qo,ev,qZ,qY,putD,Vz,VA,VB,Ka,VC,VD,Kb,and_true,↓qW,qU,qM,ne_eq,not_false_eq_true,qN,qJ,VE,setAt,VF,Kj,qC,VG,Kn,Jp,Nat.reduceAdd,qF,qG,qI,qf,qK,qa,qz,qd,qE,qc,qA,qg,qH,qy,allLive,J4,tokV,posV,faultV,nL,hlv];repeat (with_reducible refine And.intro ?_ ?_;· first|trivial|omega|(intro hg;simp only[Ky,JH,Jh,VH,VI,VJ,decide_eq_true_eq,decide_eq_false_iff_not,qR]at hg;omega))
 refine QN (by rfl) (by rfl) (qjR w0 hm ha d _ v l hs hT) fun x1q1 h1q1 hx1q1=>?_;obtain⟨ht1,hs1⟩:=hx1q1;have nT:=Yl ht1;have htl:=ht1.live;have hs_h1q1:Sub h h1q1:=Bq zqC hs1;have hr_h1q1:=hs_h1q1;simp+decide only[qh,qi,qj,qo,ev,qZ,qY,putD,Vz,VA,VB,Ka,VC,VD,Kb,and_true,↓qV,qP,qM,ne_eq,not_false_eq_true,qN,qJ,VE,setAt,VF,Kj,qC,VG,Kn,Jp,Nat.reduceAdd,qF,qG,qI,qf,qK,qa,qz,qd,qE,qc,qA,qg,qH,qy,allLive,J4,tokV,posV,faultV,nL,hlv];repeat (with_reducible refine And.intro ?_ ?_;· first|trivial|omega|(intro hg;simp only[Ky,JH,Jh,VH,VI,VJ,decide_eq_true_eq,decide_eq_false_iff_not,qR]at hg;omega))
 apply hK;clear hK K;refine Qp ?_;refine awp_rseq [0,3,15] (by rfl) fun K hK=>?_;simp+decide only[qh,qi,qj,qo,ev,qZ,qY,putD,Vz,VA,VB,Ka,VC,VD,Kb,and_true,↓qW,qU,↓XG,Xh,QE Tryd.underlying23,QT Tryd.underlying23,↓Qj,Qa,Qm,cond_false,Qh,UE,↓Zj,agP,Xw,gv,QB,QD,QC,Qs,Qg,Qe,Zk,implies_true,VK,decide_true,decide_false,VL,VM,Qc,Qb,forall_const,false_implies,Qk,Qf,J4,VN,VO,VP,VQ,VS,VT,VU,Xb,Xc,Xa,↓qet,QE Tryd.underlying31,QT Tryd.underlying31,qej,qel,↓XT,Zb,Za,Zd,Zc,ZE,↓XH,Xj,QO,QH,QG,QA,Xo,Xn,Xm,Xl,QZ,Xk,qM,ne_eq,not_false_eq_true,qN,qJ,VE,setAt,VF,Kj,qC,VG,Kn,Jp,Nat.reduceAdd,qF,qG,qI,qf,qK,qa,qz,qd,qE,qc,qA,qg,qH,qy,allLive,J4,tokV,posV,faultV,nL,hlv,nT,htl];repeat (with_reducible refine And.intro ?_ ?_;· first|trivial|omega|(intro hg;simp only[Ky,JH,Jh,VH,VI,VJ,decide_eq_true_eq,decide_eq_false_iff_not,qR]at hg;omega))
 apply hK;clear hK K;refine Qw (b:=_) rfl (fun hb1=>?_) (fun hb1=>?_)
 ·try simp only[decide_eq_true_eq,decide_eq_false_iff_not,Jh,VJ,Ky,VH,JH,VI,VV,VW,reduceCtorEq]at hb1
  refine awp_rseq [2] (by rfl) fun K hK=>?_;simp+decide only[qh,qi,qj,qo,ev,qZ,qY,putD,Vz,VA,VB,Ka,VC,VD,Kb,and_true,↓qV,qP,qM,ne_eq,not_false_eq_true,qN,qJ,VE,setAt,VF,Kj,qC,VG,Kn,Jp,Nat.reduceAdd,qF,qG,qI,qf,qK,qa,qz,qd,qE,qc,qA,qg,qH,qy,allLive,J4,tokV,posV,faultV,nL,hlv,nT,htl];repeat (with_reducible refine And.intro ?_ ?_;· first|trivial|omega|(intro hg;simp only[Ky,JH,Jh,VH,VI,VJ,decide_eq_true_eq,decide_eq_false_iff_not,qR]at hg;omega))
  apply hK;clear hK K;refine Xd ?_;try simp only[QF,Qn]
  refine Xu (Qr (Qv)) ?_;simp+decide only[qh,qi,qj,qo,ev,qZ,qY,putD,Vz,VA,VB,Ka,VC,VD,Kb,and_true,QU,qM,ne_eq,not_false_eq_true,qN,qJ,VE,setAt,VF,Kj,qC,VG,Kn,Jp,Nat.reduceAdd,qF,qG,qI,qf,qK,qa,qz,qd,qE,qc,qA,qg,qH,qy,allLive,J4,tokV,posV,faultV,nL,hlv,nT,htl];refine⟨h1q1,Vg _,⟨3,rfl, .inl ⟨by omega,Kg (by omega),rfl⟩⟩,hs1⟩
 ·try simp only[decide_eq_true_eq,decide_eq_false_iff_not,Jh,VJ,Ky,VH,JH,VI,VV,VW,reduceCtorEq]at hb1
  have hneg:¬(0<l.length/\ZB d l=[]):=fun z=>by
   have z2:=z.2;have z3:(ZB d l).length=0:=by rw[z2];rfl
   have:=z.1;omega
  refine QJ ?_;change Awp _ _ _ _ _ _ _;refine Qp ?_;refine awp_rseq [0,4,5] (by rfl) fun K hK=>?_;simp+decide only[qh,qi,qj,qo,ev,qZ,qY,putD,Vz,VA,VB,Ka,VC,VD,Kb,and_true,↓qW,qU,qM,ne_eq,not_false_eq_true,qN,qJ,VE,setAt,VF,Kj,qC,VG,Kn,Jp,Nat.reduceAdd,qF,qG,qI,qf,qK,qa,qz,qd,qE,qc,qA,qg,qH,qy,allLive,J4,tokV,posV,faultV,nL,hlv,nT,htl];repeat (with_reducible refine And.intro ?_ ?_;· first|trivial|omega|(intro hg;simp only[Ky,JH,Jh,VH,VI,VJ,decide_eq_true_eq,decide_eq_false_iff_not,qR]at hg;omega))
  refine QN (by rfl) (by rfl) (qcF w0 hm ha (ZB d l) (Vb (qle d l) (by decide)) hsh _ x1q1 ht1) fun x4q1 h4q1 hx4q1=>?_;obtain⟨hs4,ho⟩:=hx4q1;obtain⟨f,L,rv,rfl,hv4,hsL,hcase⟩:∃f L rv,x4q1= .tuple [rv,faultV f]/\StsV w0 32 h4q1 rv L/\SmallS 32 L/\((ParseR QY (ZB d l) Xi (.bad f)/\L=[])\/(∃j,ParseR QY (ZB d l) Xi (.ok L j)/\f=okF)):=by
   rcases ho with⟨f,q,e⟩|⟨L,j,rv,q,e,hv⟩
   ·exact⟨f,[], .nilSlice,e,⟨[],rfl, .nil,fun q hq=>by cases hq⟩,⟨Jq _,fun s hs=>by cases hs⟩, .inl ⟨q,rfl⟩⟩
   ·exact⟨okF,L,rv,e,hv,hL L j q, .inr ⟨j,q,rfl⟩⟩
  have hrl:=hv4.shape.1;have hs_h4q1:Sub h h4q1:=Bq zqC hs4;have hr_h4q1:Sub h1q1 h4q1:=Bq zqC hs4;simp+decide only[qh,qi,qj,qo,ev,qZ,qY,putD,Vz,VA,VB,Ka,VC,VD,Kb,and_true,↓qW,qU,↓Zl,XY,Zp,KX,JD,VG,Kn,qM,ne_eq,not_false_eq_true,qN,qJ,VE,setAt,VF,Kj,qC,VG,Kn,Jp,Nat.reduceAdd,qF,qG,qI,qf,qK,qa,qz,qd,qE,qc,qA,qg,qH,qy,allLive,J4,tokV,posV,faultV,nL,hlv,nT,htl,hrl];repeat (with_reducible refine And.intro ?_ ?_;· first|trivial|omega|(intro hg;simp only[Ky,JH,Jh,VH,VI,VJ,decide_eq_true_eq,decide_eq_false_iff_not,qR]at hg;omega))
  refine XL qje (cs:=[.int .i64 0, .int .i64 0, .int .i64 0]) (by rfl) fun k4q5 hk4q5=>?_;have hn_4q5:h4q1 k4q5=none:=by first|assumption|(simp only[V7]at hk4q5;simp only[hk4q5])
  have hf_4q5:h k4q5=none:=Bh hs_h4q1 hn_4q5;simp+decide only[qh,qi,qj,qo,ev,qZ,qY,putD,Vz,VA,VB,Ka,VC,VD,Kb,and_true,↓qV,qP,qM,ne_eq,not_false_eq_true,qN,qJ,VE,setAt,VF,Kj,qC,VG,Kn,Jp,Nat.reduceAdd,qF,qG,qI,qf,qK,qa,qz,qd,qE,qc,qA,qg,qH,qy,allLive,J4,tokV,posV,faultV,nL,hlv,nT,htl,hrl];repeat (with_reducible refine And.intro ?_ ?_;· first|trivial|omega|(intro hg;simp only[Ky,JH,Jh,VH,VI,VJ,decide_eq_true_eq,decide_eq_false_iff_not,qR]at hg;omega))
  refine QR (by rfl) (by rfl) zqA qdt (by rfl) (by rfl) zqD (Jq _) (by rfl) ?_;simp only[Bi,setAt,VE,VF,Kj,Jp,Nat.reduceAdd];simp+decide only[qh,qi,qj,qo,ev,qZ,qY,putD,Vz,VA,VB,Ka,VC,VD,Kb,and_true,qM,ne_eq,not_false_eq_true,qN,qJ,VE,setAt,VF,Kj,qC,VG,Kn,Jp,Nat.reduceAdd,qF,qG,qI,qf,qK,qa,qz,qd,qE,qc,qA,qg,qH,qy,allLive,J4,tokV,posV,faultV,nL,hlv,nT,htl,hrl];repeat (with_reducible refine And.intro ?_ ?_;· first|trivial|omega|(intro hg;simp only[Ky,JH,Jh,VH,VI,VJ,decide_eq_true_eq,decide_eq_false_iff_not,qR]at hg;omega))
  apply hK;clear hK K;have y0:f.e=0\/¬f.e=0:=Classical.em _;rcases y0 with y1|y1;all_goals
   refine awp_rseq [29] (by rfl) fun K hK=>?_;simp+decide only[qh,qi,qj,qo,ev,qZ,qY,putD,Vz,VA,VB,Ka,VC,VD,Kb,and_true,↓Qo,Qd,qnv,↓Qu,QM,Qi ag24,↓Qj,Qa,Qm,cond_false,Qh,qai,↓qW,qU,↓Zj,agP,Xw,gv,QB,QD,QC,Qs,Qg,Qe,Zk,implies_true,VK,decide_true,decide_false,VL,VM,Qc,Qb,forall_const,false_implies,Qk,Qf,J4,VN,VO,VP,VQ,VS,VT,VU,Xb,Xc,Xa,qM,ne_eq,not_false_eq_true,qN,qJ,VE,setAt,VF,Kj,qC,VG,Kn,Jp,Nat.reduceAdd,qF,qG,qI,qf,qK,qa,qz,qd,qE,qc,qA,qg,qH,qy,allLive,J4,tokV,posV,faultV,nL,hlv,nT,htl,y1,hlv,hrl];repeat (with_reducible refine And.intro ?_ ?_;· first|trivial|omega|(intro hg;simp only[Ky,JH,Jh,VH,VI,VJ,decide_eq_true_eq,decide_eq_false_iff_not,qR]at hg;omega))
   first
   |(refine WI (by rfl) (by rfl) ?_)
   |(refine Zf (by rfl) ?_
     refine QN (by rfl) (by rfl) (qnI w0 32 d _ rv v L l (hv4.mono zqB) (hs.mem.mono zqB) hsL hs.small) fun x5q6 h5q6 hx5q6=>?_;obtain⟨rfl,hs5⟩:=hx5q6;have hs5':AM.Sub h h5q6:=Bq zqB hs5)
   simp+decide only[qh,qi,qj,qo,ev,qZ,qY,putD,Vz,VA,VB,Ka,VC,VD,Kb,and_true,gv,QB,Qg,Qe,Qs,↓qbP,YB,agP,Xw,QD,QC,Zk,implies_true,VK,decide_true,decide_false,VL,VM,Qc,Qb,forall_const,false_implies,Qk,Qf,J4,VN,VO,VP,VQ,VS,VT,VU,UD,qei,qek,Xb,Xc,Xa,↓XH,Xj,QO,QH,QG,QA,Xo,Xn,Xm,Xl,QZ,Xk,qM,ne_eq,not_false_eq_true,qN,qJ,VE,setAt,VF,Kj,qC,VG,Kn,Jp,Nat.reduceAdd,qF,qG,qI,qf,qK,qa,qz,qd,qE,qc,qA,qg,qH,qy,allLive,J4,tokV,posV,faultV,nL,hlv,nT,htl,y1,hlv,hrl];try simp(disch:=omega)only[wrap_i64,wrap_u8]
   repeat (with_reducible refine And.intro ?_ ?_;· first|trivial|omega|(intro hg;simp only[Ky,JH,Jh,VH,VI,VJ,decide_eq_true_eq,decide_eq_false_iff_not,qR]at hg;omega))
   apply hK;clear hK K;refine Qw (b:=_) rfl (fun hb2=>?_) (fun hb2=>?_)
   ·have hcr:qjc d l 4:=by
     refine .inr ⟨hneg,?_⟩;rcases hcase with⟨q,rfl⟩|⟨j,q,rfl⟩
     ·refine .inl ⟨f,q,?_⟩
      by_cases z:f.e=0
      ·have zs:qdp 32 [] l=false:=by first|exact absurd z y1|simpa using hb2
       rw[if_pos z,zs];rfl
      ·rw[if_neg z]
     ·have zs:qdp 32 L l=false:=by first|exact absurd rfl y1|simpa using hb2
      exact .inr ⟨L,j,q,by rw[zs];rfl⟩
    all_goals
     try simp only[decide_eq_true_eq,decide_eq_false_iff_not,Jh,VJ,Ky,VH,JH,VI,VV,VW,reduceCtorEq]at hb2
     refine awp_rseq [2] (by rfl) fun K hK=>?_;simp+decide only[qh,qi,qj,qo,ev,qZ,qY,putD,Vz,VA,VB,Ka,VC,VD,Kb,and_true,↓qV,qP,qM,ne_eq,not_false_eq_true,qN,qJ,VE,setAt,VF,Kj,qC,VG,Kn,Jp,Nat.reduceAdd,qF,qG,qI,qf,qK,qa,qz,qd,qE,qc,qA,qg,qH,qy,allLive,J4,tokV,posV,faultV,nL,hlv,nT,htl];repeat (with_reducible refine And.intro ?_ ?_;· first|trivial|omega|(intro hg;simp only[Ky,JH,Jh,VH,VI,VJ,decide_eq_true_eq,decide_eq_false_iff_not,qR]at hg;omega))
     apply hK;clear hK K;refine Xd ?_;try simp only[QF,Qn]
     refine Xu (Qr (Qv)) ?_;simp+decide only[qh,qi,qj,qo,ev,qZ,qY,putD,Vz,VA,VB,Ka,VC,VD,Kb,and_true,QU,qM,ne_eq,not_false_eq_true,qN,qJ,VE,setAt,VF,Kj,qC,VG,Kn,Jp,Nat.reduceAdd,qF,qG,qI,qf,qK,qa,qz,qd,qE,qc,qA,qg,qH,qy,allLive,J4,tokV,posV,faultV,nL,hlv,nT,htl];exact⟨h,by first|exact hs5'|exact zqB,⟨4,rfl,hcr⟩,Vg _⟩
   ·try (cases hb2;done)
    all_goals
     have hcr:qjc d l 0:=by
      refine .inr ⟨hneg,?_⟩;have zs:qdp 32 L l=true:=by simpa using hb2
      rcases hcase with⟨q,rfl⟩|⟨j,q,rfl⟩
      ·exact .inl ⟨f,q,by rw[if_pos y1,zs];rfl⟩
      ·exact .inr ⟨L,j,q,by rw[zs];rfl⟩
    all_goals
     try simp only[decide_eq_true_eq,decide_eq_false_iff_not,Jh,VJ,Ky,VH,JH,VI,VV,VW,reduceCtorEq]at hb2
     refine QJ ?_;change Awp _ _ _ _ _ _ _;refine awp_rseq [2] (by rfl) fun K hK=>?_;simp+decide only[qh,qi,qj,qo,ev,qZ,qY,putD,Vz,VA,VB,Ka,VC,VD,Kb,and_true,↓qV,qP,qM,ne_eq,not_false_eq_true,qN,qJ,VE,setAt,VF,Kj,qC,VG,Kn,Jp,Nat.reduceAdd,qF,qG,qI,qf,qK,qa,qz,qd,qE,qc,qA,qg,qH,qy,allLive,J4,tokV,posV,faultV,nL,hlv,nT,htl];repeat (with_reducible refine And.intro ?_ ?_;· first|trivial|omega|(intro hg;simp only[Ky,JH,Jh,VH,VI,VJ,decide_eq_true_eq,decide_eq_false_iff_not,qR]at hg;omega))
     apply hK;clear hK K;refine Xd ?_;try simp only[QF,Qn]
     refine Xu (Qr (Qv)) ?_;simp+decide only[qh,qi,qj,qo,ev,qZ,qY,putD,Vz,VA,VB,Ka,VC,VD,Kb,and_true,QU,qM,ne_eq,not_false_eq_true,qN,qJ,VE,setAt,VF,Kj,qC,VG,Kn,Jp,Nat.reduceAdd,qF,qG,qI,qf,qK,qa,qz,qd,qE,qc,qA,qg,qH,qy,allLive,J4,tokV,posV,faultV,nL,hlv,nT,htl];exact⟨h,hs5',⟨0,rfl,hcr⟩,Vg _⟩
end Go.Proofs.YtgiadjbiimkbiaaDoor
namespace Go.Stm
open Go.Col (Str FaultC okF)
open Go.Tok
end Go.Stm
namespace Go.Stm
open Go.Col (Str FaultC okF)
open Go.Tok
set_option maxRecDepth 100000
theorem qpF(i j:Nat)(w:Str):qat (Uw i w)=qat (Uw j w):=by
 rw[Uw,Uw];by_cases a:w.getD 0 0=34
 ·rw[if_pos a,if_pos a];rfl
 ·rw[if_neg a,if_neg a]
  by_cases b:48<=w.getD 0 0/\w.getD 0 0<=57
  ·rw[if_pos b,if_pos b];rfl
  ·rw[if_neg b,if_neg b]
   by_cases c:w=[46]
   ·rw[if_pos c,if_pos c];rfl
   ·rw[if_neg c,if_neg c]
    split<;>rfl
theorem qjL(a b:Str):Lib.fields (a++32::b)=Lib.fields a++Lib.fields b:=by
 have go:∀(a cur:Str),Lib.fieldsGo cur (a++32::b)=Lib.fieldsGo cur a++Lib.fieldsGo [] b:=by
  intro a;induction a with
  |nil=>
   intro cur;have h32:Lib.isSp 32=true:=by decide
   simp only[Jd,Lib.fieldsGo,h32,if_true];split<;>simp
  |cons c a ih=>
   intro cur;simp only[Kh,Lib.fieldsGo];split
   ·split
    ·exact ih []
    ·rw[ih []];simp
   ·exact ih _
 exact go a []
end Go.Stm
namespace Go.Stm
open Go.Col (Str FaultC okF)
open Go.Tok
open Go.Proofs.YtgiadjbiimkbiaaDoor (asciiB TxS qoe Short)
set_option maxRecDepth 100000
theorem qeD{k:Nat}{ks:List Nat}{s:StC}(h:Shp (k::ks) s):∃s' v ln cl ps w ts,Shp ks s'/\s= .mk v ln cl ps [(w,ts,[s'])]/\(v=YF\/v=YP\/v=IFv)/\(w=[]\/w=ZZ\/w=Wu)/\
 ps.length<=2/\ts.length<=1/\(∀p∈ps,(p.words=[]\/p.words=qaT)/\p.toks.length<=1/\∀t∈p.toks,t.text.length<=1)/\∀t∈ts,t.text.length<=1:=by
 have one:∀{u:TokC} {k:UInt8} {c:UInt8},kt u=(k,[c])->u.text.length<=1:=fun{u k c} h=>by
  have:=congrArg Prod.snd h;simp only[kt]at this;rw[this];exact KL _
 match k,h with
 |0,⟨s',ln,cl,u,a,b,e⟩=>exact⟨s',_,ln,cl,_,_,_,a,e, .inr (.inr rfl), .inr (.inr rfl),by simp,by simp,fun p hp=>by rw[V4.1 hp];exact⟨.inl rfl,by simp,fun t ht=>by rw[V4.1 ht];exact one b⟩,fun t ht=>by cases ht⟩
 |1,⟨s',ln,cl,u,a,b,e⟩=>
  refine⟨s',_,ln,cl,_,_,_,a,e, .inl rfl, .inl rfl,by simp,by simp,fun p hp=>?_,fun t ht=>by cases ht⟩;rcases List.mem_cons.1 hp with rfl|hp
  ·exact⟨.inl rfl,by simp,fun t ht=>by cases ht⟩
  ·rw[V4.1 hp]
   exact⟨.inr rfl,by simp,fun t ht=>by rw[V4.1 ht];exact one b⟩
 |2,⟨s',ln,cl,u,o,a,b,c,e⟩=>exact⟨s',_,ln,cl,_,_,_,a,e, .inr (.inl rfl), .inr (.inl rfl),by simp,by simp,fun p hp=>by rw[V4.1 hp];exact⟨.inl rfl,by simp,fun t ht=>by rw[V4.1 ht];exact one b⟩,fun t ht=>by rw[V4.1 ht];exact one c⟩
 |k+3,⟨s',ln,cl,u,a,b,e⟩=>exact⟨s',_,ln,cl,_,_,_,a,e, .inr (.inr rfl), .inr (.inr rfl),by simp,by simp,fun p hp=>by rw[V4.1 hp];exact⟨.inl rfl,by simp,fun t ht=>by rw[V4.1 ht];exact one b⟩,fun t ht=>by cases ht⟩
theorem qab:∀(m:Nat) (ks:List Nat) {s:StC},Shp ks s->YU m [s]=decide (m<=ks.length)
 |0,ks,s,h=>by simp[YU]
 |m+1,[],s,⟨ln,cl,e⟩=>by subst e;simp[YU,Ej]
 |m+1,k::ks,s,h=>by
  obtain⟨s',v,ln,cl,ps,w,ts,hs,rfl,-⟩:=qeD h;have:=qab m ks hs;simp only[YU,List.any_cons,List.any_nil,Ej,VS,this,KX,decide_eq_decide];omega
theorem qgw:∀(m:Nat) (ks:List Nat) {s:StC},Shp ks s->ks.length<=m->ZY m [s]=ks.length+1
 |0,[],s,h,_=>rfl
 |m+1,[],s,⟨ln,cl,e⟩,_=>by subst e;simp[ZY,Ej]
 |m+1,k::ks,s,h,hm=>by
  obtain⟨s',v,ln,cl,ps,w,ts,hs,rfl,-⟩:=qeD h;have:=qgw m ks hs (EE hm);simp only[ZY,Ke,Vh,Ej,EF,EG,this,KX,JD];omega
theorem qfB:∀(m:Nat) (ks:List Nat) {s:StC},Shp ks s->ZY m [s]<=ks.length+1
 |0,ks,s,h=>by simp[ZY]
 |m+1,[],s,⟨ln,cl,e⟩=>by subst e;simp[ZY,Ej]
 |m+1,k::ks,s,h=>by
  obtain⟨s',v,ln,cl,ps,w,ts,hs,rfl,-⟩:=qeD h;have:=qfB m ks hs;simp only[ZY,Ke,Vh,Ej,EF,EG,KX,JD];omega
theorem qeC:∀(m:Nat) (ks:List Nat) {s:StC},Shp ks s->SmallS m [s]/\TxS m [s]/\qoe m [s]
 |0,ks,s,h=>⟨by simp[SmallS],trivial,trivial⟩
 |m+1,[],s,⟨ln,cl,e⟩=>by
  subst e;refine⟨⟨by simp,fun s hs=>?_⟩,fun s hs=>?_,fun s hs=>?_⟩;all_goals rw[V4.1 hs]
  ·exact⟨by simp[Ej],by simp[Ei],fun p hp=>by rw[V4.1 hp];simp,fun b hb=>by cases hb⟩
  ·exact⟨by simp[El,qaU],fun p hp=>by rw[V4.1 hp];exact⟨by simp,fun t ht=>by cases ht⟩,fun b hb=>by cases hb⟩
  ·exact⟨⟨by show asciiB qaU=true;decide,by simp[El,qaU]⟩,fun p hp=>by rw[V4.1 hp];rfl,fun b hb=>by cases hb⟩
 |m+1,k::ks,s,h=>by
  obtain⟨s',v,ln,cl,ps,w,ts,hs,rfl,hv,hw,h1,h2,h3,h4⟩:=qeD h;obtain⟨i1,i2,i3⟩:=qeC m ks hs;refine⟨⟨by simp,fun s hs=>?_⟩,fun s hs=>?_,fun s hs=>?_⟩;all_goals rw[V4.1 hs]
  ·exact⟨by simp[Ej],by simp only[Ei];omega,fun p hp=>by have:=(h3 p hp).2.1;omega,fun b hb=>by rw[V4.1 hb];exact⟨by simp only;omega,i1⟩⟩
  ·refine⟨by rcases hv with rfl|rfl|rfl<;>(simp only[El];decide),fun p hp=>⟨by rcases(h3 p hp).1 with e|e<;>rw[e]<;>decide,fun t ht=>Vb ((h3 p hp).2.2 t ht) (by decide)⟩,fun b hb=>?_⟩
   rw[V4.1 hb];exact⟨by rcases hw with rfl|rfl|rfl<;>(simp only;decide),fun t ht=>Vb (h4 t ht) (by decide),i2⟩
  ·refine⟨by rcases hv with rfl|rfl|rfl<;>exact⟨by simp only[El];decide,by simp only[El];decide⟩,fun p hp=>by rcases(h3 p hp).1 with e|e<;>rw[e]<;>decide,fun b hb=>?_⟩
   rw[V4.1 hb];exact⟨by rcases hw with rfl|rfl|rfl<;>(simp only;decide),i3⟩
theorem qpg{a b:List TokC}(h:a.map kt=b.map kt):YR a b=true:=decide_eq_true h
theorem qce{u v:TokC}{x:UInt8×Str}(hu:kt u=x)(hv:kt v=x):YR [u] [v]=true:=qpg (by rw[Ke,Ke,hu,hv])
theorem qcT:∀(m:Nat) (ks:List Nat) {s t:StC},Shp ks s->Shp ks t->qay m [s] [t]=true
 |0,_,_,_,_,_=>rfl
 |m+1,[],_,_,⟨_,_,e⟩,⟨_,_,f⟩=>by subst e f;rfl
 |m+1,0::ks,_,_,⟨s',_,_,u,a,b,e⟩,⟨t',_,_,v,a',b',f⟩=>by
  subst e f;have h1:=qcT m ks a a';have h2:=qce b b';simp[qay,rowE,qcf,El,Ei,Ej,h1,h2,YR];have:=b.trans b'.symm;simpa[kt]using this
 |m+1,1::ks,_,_,⟨s',_,_,u,a,b,e⟩,⟨t',_,_,v,a',b',f⟩=>by
  subst e f;have h1:=qcT m ks a a';have h2:=qce b b';simp[qay,rowE,qcf,El,Ei,Ej,h1,h2,YR];have:=b.trans b'.symm;simpa[kt]using this
 |m+1,2::ks,_,_,⟨s',_,_,u,o,a,b,c,e⟩,⟨t',_,_,v,o',a',b',c',f⟩=>by
  subst e f;have h1:=qcT m ks a a';have h2:=qce b b';have h3:=qce c c';simp[qay,rowE,qcf,El,Ei,Ej,h1,h2,h3]
 |m+1,(k+3)::ks,_,_,⟨s',_,_,u,a,b,e⟩,⟨t',_,_,v,a',b',f⟩=>by
  subst e f;have h1:=qcT m ks a a';have h2:=qce b b';simp[qay,rowE,qcf,El,Ei,Ej,h1,h2,YR];have:=b.trans b'.symm;simpa[kt]using this
theorem end_IF:hasEnd IFv=true:=by kernel_rfl
theorem qsn:hasEnd qaU=false:=by kernel_rfl
theorem qjr:qdZ []=[]:=by kernel_rfl
theorem qmF:qdZ Wu=[⟨1,Wu,0,0,false⟩]:=by kernel_rfl
theorem qlh:qdZ (qmw++IFv)=[⟨1,qod,0,0,false⟩]:=by kernel_rfl
def YW(n:Nat):List Nat:=List.replicate n 3
theorem qeB:∀(m n:Nat) {s:StC} (out:List TokC),Shp (YW n) s->n<=m->out.length+5*(n+1)<=65536->∃ts,ZC (m+1) out [s]=out++ts/\ts.map kt=UR (YW n)/\ts.length=4*n+1
 |m,0,s,out,⟨ln,cl,e⟩,_,ho=>by
  subst e;refine⟨[qfa qaU],?_,rfl,rfl⟩;show Ws (ZC m) out [_]=_
  rw[Ws,if_neg (by omega),Ws,qhN];simp only[El,Ei,Ej,Ep,EH,qmC,qjr,JE,qgr];rw[if_neg (by rw[qsn];decide)]
 |0,n+1,s,out,h,hm,_=>by omega
 |m+1,n+1,s,out,⟨s',ln,cl,u,hs,hu,e⟩,hm,ho=>by
  subst e;obtain⟨ts,t1,t2,t3⟩:=qeB m n (out++[qfa IFv]++[u]++[⟨1,Wu,0,0,false⟩]) hs (EE hm) (by simp only[Jb,JF];omega);refine⟨[qfa IFv]++[u]++[⟨1,Wu,0,0,false⟩]++ts++[⟨1,qod,0,0,false⟩],?_,?_,?_⟩
  ·show Ws (ZC (m+1)) out [_]=_
   rw[Ws,if_neg (by omega),Ws,qhN];simp only[El,Ei,Ej,Ep,EH,qmC,qmD,qjr,qmF,JE,qgr];rw[if_pos end_IF,t1,qlh];simp
  ·show _=qaH 3++(UR (YW n)++[(1,qbC 3)])
   simp only[VZ,Ke,Vh,t2,hu];rfl
  ·simp only[Jb,JF,t3];omega
theorem qnC{d n:Nat}{s:StC}(hs:Shp (YW n) s)(hd:n+1<=d)(hn:n<=31){e:Int}(h:qjc d [s] e):e=0/\(ZC d [] [s]).length<=1000:=by
 obtain⟨m,rfl⟩:∃m,d=m+1:=⟨d-1,by omega⟩
 obtain⟨ts,t1,t2,t3⟩:=qeB m n [] hs (by omega) (by simp only[JD];omega);rw[Jd]at t1;have hT:ZB (m+1) [s]=ts++[qaA]:=by
  unfold ZB;rw[if_neg (by simp),if_neg (by rw[qab 32 _ hs];simp[YW];omega),t1,if_neg (by simp only[Jb,JF];omega)]
 obtain⟨s',hp,hs'⟩:=qfm (pt:=qaA) (ks:=YW n) rfl t2 rfl (by simp only[Jb,JF];omega) (by simp[YW];omega);rw[<-hT]at hp;have hne:ts++[qaA]≠[]:=by simp
 refine⟨?_,by rw[t1];omega⟩;rcases h with⟨-,q,-⟩|⟨-,⟨f,q,-⟩|⟨L,j,q,e'⟩⟩
 ·rw[hT]at q;exact absurd q hne
 ·cases EI hp q
 ·cases EI hp q
  rw[e',show qdp 32 [s'] [s]=true from ?_]
  ·rfl
  ·unfold qdp
   rw[qab 32 _ hs',qab 32 _ hs,qcT 32 _ hs' hs];simp[YW];omega
theorem qmG{d n:Nat}{s:StC}(hs:Shp (YW n) s)(hd:n+1<=d){L:List StC}{j:Nat}(h:ParseR QY (ZB d [s]) Xi (.ok L j)):SmallS 32 L:=by
 by_cases hn:n<=31
 ·obtain⟨m,rfl⟩:∃m,d=m+1:=⟨d-1,by omega⟩
  obtain⟨ts,t1,t2,t3⟩:=qeB m n [] hs (by omega) (by simp only[JD];omega);rw[Jd]at t1;have hT:ZB (m+1) [s]=ts++[qaA]:=by
   unfold ZB;rw[if_neg (by simp),if_neg (by rw[qab 32 _ hs];simp[YW];omega),t1,if_neg (by simp only[Jb,JF];omega)]
  obtain⟨s',hp,hs'⟩:=qfm (pt:=qaA) (ks:=YW n) rfl t2 rfl (by simp only[Jb,JF];omega) (by simp[YW];omega);rw[<-hT]at hp;cases EI hp h;exact(qeC 32 _ hs').1
 ·have hT:ZB d [s]=[]:=by
   unfold ZB;rw[if_neg (by simp),if_pos (by rw[qab 32 _ hs];simp[YW];omega)]
  rw[hT]at h;have hp:ParseR QY [] Xi (.ok [] 0):=ParseR.sent (by simp) (SentR.stop (by simp));cases EI hp h;exact⟨Jq _,fun s hs=>by cases hs⟩
end Go.Stm
namespace Go.Stm
open Go.Col (Str FaultC okF)
open Go.Tok
open Go.Proofs.YtgiadjbiimkbiaaDoor (asciiB)
set_option maxRecDepth 100000
def qbp:Nat->Str
 |0=>[32,73,70,32,65]
 |1=>[32,80,69,82,70,79,82,77,32,85,78,84,73,76,32,66]
 |_=>[32,69,86,65,76,85,65,84,69,32,65,32,87,72,69,78,32,49]
def clS:Nat->Str
 |0=>[32,69,78,68,45,73,70]
 |1=>[32,69,78,68,45,80,69,82,70,79,82,77]
 |_=>[32,69,78,68,45,69,86,65,76,85,65,84,69]
def qlY:Str:=[32,67,79,78,84,73,78,85,69]
def qbo(ks:List Nat):Str:=(ks.map qbp).flatten
def qcr(ks:List Nat):Str:=(ks.reverse.map clS).flatten
def Ug(ks:List Nat):Str:=qbo ks++qlY++qcr ks++[32,46]
theorem qmU(ks:List Nat)(k:Nat):qbo (ks++[k])=qbo ks++qbp k:=by simp[qbo]
theorem qlZ(ks:List Nat)(k:Nat):qcr (ks++[k])=clS k++qcr ks:=by simp[qcr]
theorem qrO(k:Nat):∃Y,qbp k=32::Y:=by match k with|0=>exact⟨_,rfl⟩|1=>exact⟨_,rfl⟩|k+2=>exact⟨_,rfl⟩
theorem clS_sp(k:Nat):∃Y,clS k=32::Y:=by match k with|0=>exact⟨_,rfl⟩|1=>exact⟨_,rfl⟩|k+2=>exact⟨_,rfl⟩
theorem qik(k:Nat):asciiB (qbp k)=true/\(qbp k).length<=20:=by match k with|0=>decide|1=>decide|k+2=>exact⟨(by decide:asciiB (qbp 2)=true),(by decide:(qbp 2).length<=20)⟩
theorem qnB(k:Nat):asciiB (clS k)=true/\(clS k).length<=20:=by match k with|0=>decide|1=>decide|k+2=>exact⟨(by decide:asciiB (clS 2)=true),(by decide:(clS 2).length<=20)⟩
theorem ascii_flat{l:List Str}(h:∀x∈l,asciiB x=true):asciiB l.flatten=true:=by
 induction l with
 |nil=>rfl
 |cons x l ih=>rw[Vm];exact ascii_appN (h x Je) (ih fun y hy=>h y (Jf _ hy))
where
 ascii_appN {a b:Str} (ha:asciiB a=true) (hb:asciiB b=true):asciiB (a++b)=true:=by
  unfold asciiB at*
  rw[List.all_append,ha,hb];rfl
theorem qlP{l:List Str}{m:Nat}(h:∀x∈l,x.length<=m):l.flatten.length<=m*l.length:=by
 induction l with
 |nil=>simp
 |cons x l ih=>
  have h1:=h x Je;have h2:=ih fun y hy=>h y (Jf _ hy);rw[Vm,Jb,KX,Nat.mul_succ];omega
theorem qfL(ks:List Nat):asciiB (qbo ks)=true/\(qbo ks).length<=20*ks.length:=by
 refine⟨ascii_flat fun x hx=>?_,?_⟩
 ·obtain⟨k,_,rfl⟩:=JI.1 hx;exact(qik k).1
 ·have:=qlP (l:=ks.map qbp) (m:=20) fun x hx=>by obtain⟨k,_,rfl⟩:=JI.1 hx;exact(qik k).2
  rwa [Jn]at this
theorem qgV(ks:List Nat):asciiB (qcr ks)=true/\(qcr ks).length<=20*ks.length:=by
 refine⟨ascii_flat fun x hx=>?_,?_⟩
 ·obtain⟨k,_,rfl⟩:=JI.1 hx;exact(qnB k).1
 ·have:=qlP (l:=ks.reverse.map clS) (m:=20) fun x hx=>by obtain⟨k,_,rfl⟩:=JI.1 hx;exact(qnB k).2
  rwa [Jn,List.length_reverse]at this
theorem qnc(ks:List Nat):asciiB (Ug ks)=true/\(Ug ks).length<=40*ks.length+20:=by
 refine⟨ascii_flat.ascii_appN (ascii_flat.ascii_appN (ascii_flat.ascii_appN (qfL ks).1 (by decide)) (qgV ks).1) (by decide),?_⟩;have:=(qfL ks).2;have:=(qgV ks).2;unfold Ug qlY;simp only[Jb,KX,JD];omega
theorem qbL(a:Str){b:Str}(hb:b=[]\/∃Y,b=32::Y):Lib.fields (a++b)=Lib.fields a++Lib.fields b:=by
 rcases hb with rfl|⟨Y,rfl⟩
 ·rw[JE,show Lib.fields []=[]from rfl,JE]
 ·rw[qjL]
  have:Lib.fields (32::Y)=Lib.fields Y:=by have:=qjL [] Y;rw[Jd]at this;rw[this];rfl
  rw[this]
theorem qoD{l:List Str}(h:∀x∈l,∃Y,x=32::Y):l.flatten=[]\/∃Y,l.flatten=32::Y:=by
 cases l with
 |nil=>exact .inl rfl
 |cons x l=>
  obtain⟨Y,e⟩:=h x Je;exact .inr ⟨Y++l.flatten,by rw[Vm,e];rfl⟩
theorem qeh:∀{l:List Str},(∀x∈l,∃Y,x=32::Y)->Lib.fields l.flatten=(l.map Lib.fields).flatten
 |[],_=>rfl
 |x::l,h=>by
  have hl:∀y∈l,∃Y,y=32::Y:=fun y hy=>h y (Jf _ hy);rw[Vm,qbL x (qoD hl),qeh hl,Ke,Vm]
def ktW(w:Str):UInt8×Str:=kt (Uw 0 w)
theorem qpa{a b c:UInt8}(h:a+b=a+c):b=c:=by
 have:=congrArg (fun x=>x-a) h;simpa using this
theorem lawT_kt(i:Nat)(w:Str):kt (Uw i w)=ktW w:=by
 have:=qpF i 0 w;unfold ktW;simp only[qat,List.cons.injEq]at this;simp only[kt,Prod.mk.injEq];exact⟨qpa this.1,this.2⟩
theorem qlH:∀(ws:List Str) (p:Nat),(qaI p ws).map kt=ws.map ktW
 |[],_=>rfl
 |w::ws,p=>by rw[qaI,Ke,Ke,lawT_kt,qlH ws]
theorem qrP{k:Nat}(hk:k<3):(Lib.fields (qbp k)).map ktW=qaH k:=by
 have:k=0\/k=1\/k=2:=by omega
 rcases this with rfl|rfl|rfl<;>(show _=_;kernel_rfl)
theorem clS_kt{k:Nat}(hk:k<3):(Lib.fields (clS k)).map ktW=[(1,qbC k)]:=by
 have:k=0\/k=1\/k=2:=by omega
 rcases this with rfl|rfl|rfl<;>(show _=_;kernel_rfl)
theorem qst:(Lib.fields qlY).map ktW=[(1,qaU)]:=by kernel_rfl
theorem qtp:(Lib.fields [32,46]).map ktW=[(6,[46])]:=by kernel_rfl
theorem qij:∀ks:List Nat,UR ks=(ks.map qaH).flatten++([(1,qaU)]++(ks.reverse.map fun k=>((1:UInt8),qbC k)))
 |[]=>rfl
 |k::ks=>by
  rw[UR,qij ks];simp
theorem qlE{ks:List Nat}{f:Nat->Str}{g:Nat->List (UInt8×Str)}(h:∀k∈ks,(Lib.fields (f k)).map ktW=g k):(((ks.map f).map Lib.fields).flatten).map ktW=(ks.map g).flatten:=by
 induction ks with
 |nil=>rfl
 |cons k ks ih=>
  simp only[Ke,Vm,VZ];rw[h k Je,ih fun j hj=>h j (Jf _ hj)]
theorem qlA{ks:List Nat}(hk:∀k∈ks,k<3):(Lib.fields (qbo ks)).map ktW=(ks.map qaH).flatten:=by
 unfold qbo;rw[qeh (fun x hx=>by obtain⟨k,_,rfl⟩:=JI.1 hx;exact qrO k)];exact qlE fun k h=>qrP (hk k h)
theorem qkp{ks:List Nat}(hk:∀k∈ks,k<3):(Lib.fields (qbo ks)).length=UF ks:=by
 have:=congrArg List.length (qlA hk);rw[Jn]at this;rw[this,UF,List.length_flatten,List.map_map];rfl
theorem qnd{ks:List Nat}(hk:∀k∈ks,k<3):(Zg (Ug ks)).map kt=UR ks++[(6,[46])]:=by
 have hcl:∀x∈ks.reverse.map clS,∃Y,x=32::Y:=fun x hx=>by obtain⟨k,_,rfl⟩:=JI.1 hx;exact clS_sp k
 unfold Zg Ug;rw[qlH,qbL _ (.inr ⟨_,rfl⟩),qbL (qbo ks++qlY) (b:=qcr ks) (qoD hcl),qbL (qbo ks) (b:=qlY) (.inr ⟨_,rfl⟩)];simp only[VZ];rw[qlA hk,qst,qtp,qij,show qcr ks=(ks.reverse.map clS).flatten from rfl,qeh hcl,
  qlE (g:=fun k=>[((1:UInt8),qbC k)]) fun k h=>clS_kt (hk k (List.mem_reverse.1 h))]
 have:(ks.reverse.map fun k=>[((1:UInt8),qbC k)]).flatten=ks.reverse.map fun k=>((1:UInt8),qbC k):=by
  generalize ks.reverse=js;induction js with
  |nil=>rfl
  |cons j js ih=>rw[Ke,Vm,ih];rfl
 rw[this];simp
theorem qeH:∀ks:List Nat,(UR ks).length<=5*ks.length+1/\UF ks<(UR ks).length
 |[]=>⟨KL _,by decide⟩
 |k::ks=>by
  obtain⟨a,b⟩:=qeH ks;have hk:(qaH k).length<=4:=by match k with|0=>decide|1=>decide|2=>decide|k+3=>exact(by decide:3<=4)
  have e:UF (k::ks)=(qaH k).length+UF ks:=by simp[UF]
  rw[UR,Jb,Jb,JF,KX,e];omega
theorem qmV(ks:List Nat)(n:Nat):UF (ks.take n)<=UF ks:=by
 have e:UF (ks.take n++ks.drop n)=UF (ks.take n)+UF (ks.drop n):=by unfold UF;rw[VZ,List.sum_append]
 rw[List.take_append_drop]at e;omega
theorem qjh{ks:List Nat}(hk:∀k∈ks,k<3)(h39:ks.length<=39):∃toks pt,Zg (Ug ks)=toks++[pt]/\toks.map kt=UR ks/\pt.kind=6/\(Zg (Ug ks)).length<=65536/\UF (ks.take 32)<(Zg (Ug ks)).length:=by
 obtain⟨toks,tz,e1,e2,e3⟩:=List.map_eq_append_iff.1 (qnd hk);obtain⟨pt,rfl,h⟩:=map1 e3;obtain⟨a,b⟩:=qeH ks;have hl:(Zg (Ug ks)).length=(UR ks).length+1:=by rw[e1,Jb,JF,<-e2,Jn]
 have:=qmV ks 32;exact⟨toks,pt,e1,e2,congrArg Prod.fst h,by omega,by omega⟩
theorem qoz(i:Nat)(w:Str):(Uw i w).line=(i+1:Nat)/\(Uw i w).col=8:=by
 rw[Uw];by_cases a:w.getD 0 0=34
 ·rw[if_pos a];exact⟨rfl,rfl⟩
 ·rw[if_neg a]
  by_cases b:48<=w.getD 0 0/\w.getD 0 0<=57
  ·rw[if_pos b];exact⟨rfl,rfl⟩
  ·rw[if_neg b]
   by_cases c:w=[46]
   ·rw[if_pos c];exact⟨rfl,rfl⟩
   ·rw[if_neg c]
    split<;>exact⟨rfl,rfl⟩
theorem qlI:∀(ws:List Str) (p i:Nat),i<ws.length->(qaI p ws).getD i noT=Uw (p+i) (ws.getD i [])
 |[],_,_,h=>by cases h
 |w::ws,p,0,_=>rfl
 |w::ws,p,i+1,h=>by
  have:=qlI ws (p+1) i (Nat.lt_of_succ_lt_succ h);rw[show p+1+i=p+(i+1) by omega]at this;exact this
theorem qpC{s:Str}{i:Nat}(h:i<(Zg s).length):UI (Zg s) 3 i=⟨3,(i+1:Nat),8⟩:=by
 have hne:Zg s≠[]:=fun e=>by rw[e]at h;cases h
 have hm:min i ((Zg s).length-1)=i:=by omega
 unfold UI;rw[if_neg hne,hm];have:=qlI (Lib.fields s) 0 i (by rw[<-qhk];exact h);rw[Jp]at this;rw[show(Zg s).getD i noT=Uw i ((Lib.fields s).getD i [])from this,(qoz _ _).1,(qoz _ _).2]
theorem qna{ks:List Nat}(hk:∀k∈ks,k<3)(h39:ks.length<=39):
 (ks.length<=31->∃s j,ParseR QY (Zg (Ug ks)) Xi (.ok [s] j)/\Shp ks s)/\(32<=ks.length->ParseR QY (Zg (Ug ks)) Xi (.bad ⟨3,(UF (ks.take 32)+1:Nat),8⟩)):=by
 obtain⟨toks,pt,e1,e2,e3,e4,e5⟩:=qjh hk h39;refine⟨fun h=>?_,fun h=>?_⟩
 ·obtain⟨s,a,b⟩:=qfm e1 e2 e3 e4 h
  exact⟨s,_,a,b⟩
 ·have:=qnb e1 e2 e4 h
  rwa [qpC e5]at this
end Go.Stm
namespace Go.Stm
open Go.Col (Str FaultC okF)
open Go.Tok
open Go.Proofs.YtgiadjbiimkbiaaDoor (Short)
theorem qhh:∀(ks:List Nat),∀x∈UR ks,x.2.length<=20
 |[],x,hx=>by rw[V4.1 hx];decide
 |k::ks,x,hx=>by
  rw[UR]at hx;rcases JS.1 hx with h|h
  ·have:∀y∈qaH k,y.2.length<=20:=by match k with|0=>decide|1=>decide|2=>decide|k+3=>exact(by decide:∀y∈qaH 3,y.2.length<=20)
   exact this x h
  ·rcases JS.1 h with h|h
   ·exact qhh ks x h
   ·rw[V4.1 h]
    match k with|0=>decide|1=>decide|2=>decide|k+3=>exact(by decide:(qbC 3).length<=20)
theorem qmy{d n:Nat}{s:StC}(hs:Shp (YW n) s)(hd:n+1<=d)(hn:n<=100):(ZC d [] [s]).length<=1000/\Short (ZB d [s]):=by
 obtain⟨m,rfl⟩:∃m,d=m+1:=⟨d-1,by omega⟩
 obtain⟨ts,t1,t2,t3⟩:=qeB m n [] hs (by omega) (by simp only[JD];omega);rw[Jd]at t1;refine⟨by rw[t1];omega,fun t ht=>?_⟩;have hm:t∈ts++[qaA]:=by
  unfold ZB at ht;rw[t1]at ht;repeat' split at ht
  all_goals first|(cases ht;done)|exact ht
 rcases JS.1 hm with h|h
 ·have:=qhh (YW n) (kt t) (by rw[<-t2];exact List.mem_map_of_mem h)
  exact Vb this (by decide)
 ·rw[V4.1 h];decide
theorem qnD{d n:Nat}{s:StC}(hs:Shp (YW n) s)(hn:32<=n):ZB d [s]=[]/\∀e,qjc d [s] e->e=3:=by
 have hT:ZB d [s]=[]:=by
  unfold ZB;rw[if_neg (by simp),if_pos (by rw[qab 32 _ hs];simp[YW];omega)]
 refine⟨hT,fun e h=>?_⟩;rcases h with⟨-,-,q⟩|⟨q,-⟩
 ·exact q
 ·exact absurd ⟨Nat.zero_lt_one,hT⟩ q
theorem lawA:Zg [65]=[Uw 0 [65]]:=by kernel_rfl
theorem ktA:kt (Uw 0 [65])=(1,Aw):=by kernel_rfl
def shrN(N e:Nat):Nat:=N / 2^e%3
theorem qtl(N e:Nat):EJ (Int.fdiv (N:Int) (2^e)) 3=(shrN N e:Int):=by
 have h1:Int.fdiv (N:Int) (2^e)=((N / 2^e:Nat):Int):=by
  rw[Int.fdiv_eq_ediv_of_nonneg _ (by exact Int.pow_nonneg (by decide))];rw[Int.natCast_ediv];congr 1
 rw[h1,EK (Int.natCast_nonneg _)];exact(EL _ 3).symm
theorem qtm(N e:Nat):shrN N e<3:=Nat.mod_lt _ (by decide)
end Go.Stm
namespace Go.Proofs.YtgiadjbiimkbiaaDoor
open Go.AM
open Go.Proofs
open Go.Col (Str FaultC okF)
open Go.Tok (TokC)
open Go.Stm
open Go.RowKit (Below)
set_option maxRecDepth 100000
theorem qrF{w0:World}{H:AHeap}{k:Nat}{w:Str}{tv:AVal}{ts:List TokC}(hk:H k=some ⟨[.str w,tv],0⟩)(ht:IsL w0 H 5 tv (ts.map Zh)):PhV w0 H (.slice (.own k) 0 1 (.exact 1)) [⟨w,ts⟩]:=by
 have hl:AM.allLive [.str w,tv]=true:=by rw[AM.allLive,AM.allLive,ht.live];rfl
 refine⟨[(⟨w,ts⟩,tv)],rfl,?_,fun q hq=>by rw[V4.1 hq];exact ht⟩;exact V9 (xs:=[[AVal.str w,tv]]) hk (by simp) rfl hl (.exact 1) (KL _)
theorem bd_one{w0:World}{H:AHeap}{S:AVal->List StC->Prop}{k:Nat}{w:Str}{tv lv:AVal}{ts:List TokC}{L:List StC}(hk:H k=some ⟨[.str w,tv,lv],0⟩)(ht:IsL w0 H 5 tv (ts.map Zh))(hl:S lv L)(hll:lv.live=true):BdV w0 S H (.slice (.own k) 0 1 (.exact 1)) [(w,ts,L)]:=by
 have hl:AM.allLive [.str w,tv,lv]=true:=by rw[AM.allLive,AM.allLive,AM.allLive,ht.live,hll];rfl
 refine⟨[((w,ts,L),tv,lv)],rfl,?_,fun q hq=>by rw[V4.1 hq];exact⟨ht,‹S lv L›⟩⟩;exact V9 (xs:=[[AVal.str w,tv,lv]]) hk (by simp) rfl hl (.exact 1) (KL _)
theorem bd_none{w0:World}{H:AHeap}{S:AVal->List StC->Prop}:BdV w0 S H .nilSlice []:=⟨[],rfl, .nil,fun q hq=>by cases hq⟩
theorem qok{w0:World}{H:AHeap}{d k:Nat}{vb:Str}{ln cl:Int}{pv bv:AVal}{ps:List PhrC}{bs:List BodC}(hk:H k=some ⟨[.str vb, .int .i64 ln, .int .i64 cl,pv,bv],0⟩)(hp:PhV w0 H pv ps)(hb:BdV w0 (StsV w0 d H) H bv bs):StsV w0 (d+1) H (.slice (.own k) 0 1 (.exact 1)) [.mk vb ln cl ps bs]:=by
 have hl:AM.allLive [.str vb, .int .i64 ln, .int .i64 cl,pv,bv]=true:=by rw[AM.allLive,AM.allLive,AM.allLive,AM.allLive,AM.allLive,hp.live,hb.live];rfl
 refine⟨[(.mk vb ln cl ps bs,pv,bv)],rfl,?_,fun q hq=>by rw[V4.1 hq];exact⟨hp,hb⟩⟩;exact V9 (xs:=[[AVal.str vb, .int .i64 ln, .int .i64 cl,pv,bv]]) hk (by simp) rfl hl (.exact 1) (KL _)
structure NsG where
 i:Nat
 at_:Nat
 kI:Nat
 ks:List Nat
 t:StC
 H:AHeap
set_option maxHeartbeats 16000000 in
theorem l_StatementsNest(w0:World)(hm:MaxL w0)(ha:Asp w0)(h:AHeap)(dep:UInt8)(N:Nat)(hN:N<18446744073709551616):
 ACall Tryd.prog w0 5 [.int .u8 dep.toNat, .int .u64 N] h (fun x _=>x= .bool true):=by
 have hd8:dep.toNat<256:=dep.toNat_lt;obtain⟨n,hn⟩:∃n,n=1+dep.toNat%40:=⟨_,rfl⟩
 have hn40:1<=n/\n<=40:=by omega
 have hrem:EJ (dep.toNat:Int) 40=((dep.toNat%40:Nat):Int):=by rw[EK (by omega)];exact(EL dep.toNat 40).symm
 have hwu:IntKind.u8.wrap ((dep.toNat%40:Nat):Int)=((dep.toNat%40:Nat):Int):=wrap_u8 (by omega) (by omega);have hwd:IntKind.i64.wrap ((dep.toNat%40:Nat):Int)=((dep.toNat%40:Nat):Int):=wrap_i64 (by omega) (by omega);have hwn:IntKind.i64.wrap (1+((dep.toNat%40:Nat):Int))=(n:Int):=by rw[wrap_i64 (by omega) (by omega)];omega
 refine Xf (n:=135) (rs:=[.tmp 4]) Tryd.func5 rfl rfl rfl rfl (Vy rfl) ?_;simp only[Xe];refine awp_rseq [0,1] (by rfl) fun K hK=>?_;simp+decide only[qh,qi,qj,qo,ev,qZ,qY,putD,Vz,VA,VB,Ka,VC,VD,Kb,and_true,↓qV,qP,decide_true,decide_false,VL,VM,Qc,Qb,forall_const,false_implies,Qk,Qf,J4,VN,VO,VP,VQ,VS,VT,VU,QI,cond_true,cond_false,qM,ne_eq,not_false_eq_true,qN,qJ,VE,setAt,VF,Kj,qC,VG,Kn,Jp,Nat.reduceAdd,qF,qG,qI,qf,qK,qa,qz,qd,qE,qc,qA,qg,qH,qy,allLive,J4,tokV,posV,faultV];repeat (with_reducible refine And.intro ?_ ?_;· first|trivial|omega|(intro hg;simp only[Ky,JH,Jh,VH,VI,VJ,decide_eq_true_eq,decide_eq_false_iff_not,qR]at hg;omega))
 apply hK;clear hK K;refine awp_rseq [1,5] (by rfl) fun K hK=>?_;simp+decide only[qh,qi,qj,qo,ev,qZ,qY,putD,Vz,VA,VB,Ka,VC,VD,Kb,and_true,↓qW,qU,↓Qj,Qa,Qm,cond_false,Qh,qrJ,↓qfu _ _ _ (qnw Tryd.underlying5 Tryd.underlying3),qcz,qgD Tryd.underlying5 Tryd.underlying3,Qz,XM,↓qV,qP,decide_true,decide_false,VL,VM,Qc,Qb,forall_const,false_implies,Qk,Qf,J4,VN,VO,VP,VQ,VS,VT,VU,QI,cond_true,cond_false,qM,ne_eq,not_false_eq_true,qN,qJ,VE,setAt,VF,Kj,qC,VG,Kn,Jp,Nat.reduceAdd,qF,qG,qI,qf,qK,qa,qz,qd,qE,qc,qA,qg,qH,qy,allLive,J4,tokV,posV,faultV,hrem,hwu,hwd,hwn];try simp(disch:=omega)only[wrap_i64,wrap_u8]
 repeat (with_reducible refine And.intro ?_ ?_;· first|trivial|omega|(intro hg;simp only[Ky,JH,Jh,VH,VI,VJ,decide_eq_true_eq,decide_eq_false_iff_not,qR]at hg;omega))
 apply hK;clear hK K;refine awp_rseq [1,5,6] (by rfl) fun K hK=>?_;simp+decide only[qh,qi,qj,qo,ev,qZ,qY,putD,Vz,VA,VB,Ka,VC,VD,Kb,and_true,↓qV,qP,decide_true,decide_false,VL,VM,Qc,Qb,forall_const,false_implies,Qk,Qf,J4,VN,VO,VP,VQ,VS,VT,VU,QI,cond_true,cond_false,qM,ne_eq,not_false_eq_true,qN,qJ,VE,setAt,VF,Kj,qC,VG,Kn,Jp,Nat.reduceAdd,qF,qG,qI,qf,qK,qa,qz,qd,qE,qc,qA,qg,qH,qy,allLive,J4,tokV,posV,faultV];repeat (with_reducible refine And.intro ?_ ?_;· first|trivial|omega|(intro hg;simp only[Ky,JH,Jh,VH,VI,VJ,decide_eq_true_eq,decide_eq_false_iff_not,qR]at hg;omega))
 apply hK;clear hK K;refine awp_rseq [1,5,6,7] (by rfl) fun K hK=>?_;simp+decide only[qh,qi,qj,qo,ev,qZ,qY,putD,Vz,VA,VB,Ka,VC,VD,Kb,and_true,↓qV,qP,decide_true,decide_false,VL,VM,Qc,Qb,forall_const,false_implies,Qk,Qf,J4,VN,VO,VP,VQ,VS,VT,VU,QI,cond_true,cond_false,qM,ne_eq,not_false_eq_true,qN,qJ,VE,setAt,VF,Kj,qC,VG,Kn,Jp,Nat.reduceAdd,qF,qG,qI,qf,qK,qa,qz,qd,qE,qc,qA,qg,qH,qy,allLive,J4,tokV,posV,faultV];repeat (with_reducible refine And.intro ?_ ?_;· first|trivial|omega|(intro hg;simp only[Ky,JH,Jh,VH,VI,VJ,decide_eq_true_eq,decide_eq_false_iff_not,qR]at hg;omega))
 apply hK;clear hK K;refine awp_rseq [1,5,6,7,8] (by rfl) fun K hK=>?_;simp+decide only[qh,qi,qj,qo,ev,qZ,qY,putD,Vz,VA,VB,Ka,VC,VD,Kb,and_true,↓qV,qP,decide_true,decide_false,VL,VM,Qc,Qb,forall_const,false_implies,Qk,Qf,J4,VN,VO,VP,VQ,VS,VT,VU,QI,cond_true,cond_false,qM,ne_eq,not_false_eq_true,qN,qJ,VE,setAt,VF,Kj,qC,VG,Kn,Jp,Nat.reduceAdd,qF,qG,qI,qf,qK,qa,qz,qd,qE,qc,qA,qg,qH,qy,allLive,J4,tokV,posV,faultV];repeat (with_reducible refine And.intro ?_ ?_;· first|trivial|omega|(intro hg;simp only[Ky,JH,Jh,VH,VI,VJ,decide_eq_true_eq,decide_eq_false_iff_not,qR]at hg;omega))
 apply hK;clear hK K;refine awp_rseq [1,5,6,7,8,9] (by rfl) fun K hK=>?_;simp+decide only[qh,qi,qj,qo,ev,qZ,qY,putD,Vz,VA,VB,Ka,VC,VD,Kb,and_true,↓Wm,ZU,↓Zz,qsM,evP,Ke,Vh,Ym,Zr,ZV,Ue,ZA,Wt,ZW,decide_true,decide_false,VL,VM,Qc,Qb,forall_const,false_implies,Qk,Qf,J4,VN,VO,VP,VQ,VS,VT,VU,QI,cond_true,cond_false,qM,ne_eq,not_false_eq_true,qN,qJ,VE,setAt,VF,Kj,qC,VG,Kn,Jp,Nat.reduceAdd,qF,qG,qI,qf,qK,qa,qz,qd,qE,qc,qA,qg,qH,qy,allLive,J4,tokV,posV,faultV];repeat (with_reducible refine And.intro ?_ ?_;· first|trivial|omega|(intro hg;simp only[Ky,JH,Jh,VH,VI,VJ,decide_eq_true_eq,decide_eq_false_iff_not,qR]at hg;omega))
 refine QS (cs:=[.str [], .nilSlice]) (by kernel_rfl) fun k5q1 hk5q1=>?_;try have hf_5q1:h k5q1=none:=by first|assumption|(simp only[V7]at hk5q1;simp only[hk5q1])
 simp+decide only[qh,qi,qj,qo,ev,qZ,qY,putD,Vz,VA,VB,Ka,VC,VD,Kb,and_true,↓Wm,ZU,↓Zz,qpV,evP,Ke,Vh,Ym,Zr,ZV,Ue,ZA,Wt,ZW,decide_true,decide_false,VL,VM,Qc,Qb,forall_const,false_implies,Qk,Qf,J4,VN,VO,VP,VQ,VS,VT,VU,QI,cond_true,cond_false,qM,ne_eq,not_false_eq_true,qN,qJ,VE,setAt,VF,Kj,qC,VG,Kn,Jp,Nat.reduceAdd,qF,qG,qI,qf,qK,qa,qz,qd,qE,qc,qA,qg,qH,qy,allLive,J4,tokV,posV,faultV];repeat (with_reducible refine And.intro ?_ ?_;· first|trivial|omega|(intro hg;simp only[Ky,JH,Jh,VH,VI,VJ,decide_eq_true_eq,decide_eq_false_iff_not,qR]at hg;omega))
 refine QS (cs:=[.str [67,79,78,84,73,78,85,69], .int .i64 0, .int .i64 0, .slice (.own k5q1) 0 1 (.exact 1), .nilSlice]) (by kernel_rfl) fun k5q3 hk5q3=>?_;have ne_5q3_5q1:k5q3≠k5q1:=by simp only[V7]at hk5q3;simp only[hk5q3,ne_eq,not_false_eq_true]
 try have hf_5q3:h k5q3=none:=by first|assumption|(simp only[V7]at hk5q3;simp only[hk5q3])
 simp+decide only[qh,qi,qj,qo,ev,qZ,qY,putD,Vz,VA,VB,Ka,VC,VD,Kb,and_true,↓qV,qP,decide_true,decide_false,VL,VM,Qc,Qb,forall_const,false_implies,Qk,Qf,J4,VN,VO,VP,VQ,VS,VT,VU,QI,cond_true,cond_false,qM,ne_eq,not_false_eq_true,ne_5q3_5q1,ne_5q3_5q1.symm,qN,qJ,VE,setAt,VF,Kj,qC,VG,Kn,Jp,Nat.reduceAdd,qF,qG,qI,qf,qK,qa,qz,qd,qE,qc,qA,qg,qH,qy,allLive,J4,tokV,posV,faultV];repeat (with_reducible refine And.intro ?_ ?_;· first|trivial|omega|(intro hg;simp only[Ky,JH,Jh,VH,VI,VJ,decide_eq_true_eq,decide_eq_false_iff_not,qR]at hg;omega))
 apply hK;clear hK K;refine Qp ?_;refine awp_rseq [1,5,6,7,8,9,10] (by rfl) fun K hK=>?_;simp+decide only[qh,qi,qj,qo,ev,qZ,qY,putD,Vz,VA,VB,Ka,VC,VD,Kb,and_true,↓qV,qP,decide_true,decide_false,VL,VM,Qc,Qb,forall_const,false_implies,Qk,Qf,J4,VN,VO,VP,VQ,VS,VT,VU,QI,cond_true,cond_false,qM,ne_eq,not_false_eq_true,ne_5q3_5q1,ne_5q3_5q1.symm,qN,qJ,VE,setAt,VF,Kj,qC,VG,Kn,Jp,Nat.reduceAdd,qF,qG,qI,qf,qK,qa,qz,qd,qE,qc,qA,qg,qH,qy,allLive,J4,tokV,posV,faultV];repeat (with_reducible refine And.intro ?_ ?_;· first|trivial|omega|(intro hg;simp only[Ky,JH,Jh,VH,VI,VJ,decide_eq_true_eq,decide_eq_false_iff_not,qR]at hg;omega))
 apply hK;clear hK K;refine QL ?_;refine XI [1,5,6,7,8,9,10] (fun g:NsG=>[(1, .int .u64 N),(5, .int .i64 n),(6, .str (qbo g.ks)),(7, .int .i64 g.at_),(8, .str (qcr g.ks)),(9, .slice (.own g.kI) 0 1 (.exact 1)),(10, .int .i64 g.i)]) (fun g:NsG=>g.H) (fun g:NsG=>AM.Sub h g.H/\1<=g.i/\g.i<=n/\g.ks.length+1=g.i/\(∀k∈g.ks,k<3)/\(32<=g.ks.length->g.at_=UF (g.ks.take 32))/\StsV w0 g.i g.H (.slice (.own g.kI) 0 1 (.exact 1)) [g.t]/\Shp (YW (g.i-1)) g.t) (fun g:NsG=>n-g.i) ⟨1,0,k5q3,[], .mk qaU 0 0 [⟨[],[]⟩] [],_⟩ (by rfl) (Vg _) ⟨zqB,KL _,hn40.1,rfl,(fun k hk=>by cases hk),(fun hk=>by cases hk),qok (Vf _ _ _) (qrF zqA .nil) bd_none,⟨0,0,rfl⟩⟩ ?_;rintro⟨i,at_,kI,ks,t,H⟩ ⟨hs_H,hi1,hin,hkl,hk3,hat,hst,hsh⟩;simp only at hs_H hi1 hin hkl hk3 hat hst hsh|-
 have hol:=(qfL ks).2;have hcl:=(qgV ks).2;refine Qp ?_;refine awp_rseq [1,5,6,7,8,9,10,24] (by rfl) fun K hK=>?_;simp+decide only[qh,qi,qj,qo,ev,qZ,qY,putD,Vz,VA,VB,Ka,VC,VD,Kb,and_true,↓qW,qU,↓Qj,Qa,Qz,cond_false,Qh,Zo,decide_true,decide_false,VL,VM,Qc,Qb,forall_const,false_implies,Qk,Qf,J4,VN,VO,VP,VQ,VS,VT,VU,QI,cond_true,cond_false,qM,ne_eq,not_false_eq_true,qN,qJ,VE,setAt,VF,Kj,qC,VG,Kn,Jp,Nat.reduceAdd,qF,qG,qI,qf,qK,qa,qz,qd,qE,qc,qA,qg,qH,qy,allLive,J4,tokV,posV,faultV];repeat (with_reducible refine And.intro ?_ ?_;· first|trivial|omega|(intro hg;simp only[Ky,JH,Jh,VH,VI,VJ,decide_eq_true_eq,decide_eq_false_iff_not,qR]at hg;omega))
 apply hK;clear hK K;refine Qw (b:=_) rfl (fun hb1=>?_) (fun hb1=>?_)
 ·try simp only[decide_eq_true_eq,decide_eq_false_iff_not,Jh,VJ,Ky,VH,JH,VI,VV,VW,reduceCtorEq]at hb1
  have hi2:i<n:=by omega
  have h32:EJ (i:Int) 32=((i%32:Nat):Int):=by rw[EK (by omega)];exact(EL i 32).symm
  have hw32:IntKind.i64.wrap ((i%32:Nat):Int)=((i%32:Nat):Int):=wrap_i64 (by omega) (by omega);have hw64:IntKind.i64.wrap (((i%32:Nat):Int)*2)=((i%32*2:Nat):Int):=by rw[wrap_i64 (by omega) (by omega)];omega
  obtain⟨k,hk⟩:∃k,k=shrN N (min (i%32*2) IntKind.u64.bits):=⟨_,rfl⟩
  have hkk:k<3:=by rw[hk];exact qtm _ _
  have hwk:IntKind.i64.wrap (k:Int)=(k:Int):=wrap_i64 (by omega) (by omega);have hwk64:IntKind.u64.wrap (k:Int)=(k:Int):=by unfold IntKind.wrap;simp[IntKind.bits,IntKind.signed];omega
  have hwi:IntKind.i64.wrap ((i:Int)+1)=((i+1:Nat):Int):=by rw[wrap_i64 (by omega) (by omega)];omega
  have q3:k=0\/k=1\/k=2:=by omega
  have hc10:([AVal.str (qbp 0), .str (qbp 1), .str (qbp 2)]:List AVal).getD k .dead= .str (qbp k):=by rcases q3 with e|e|e<;>rw[e]<;>rfl
  have hc11:([AVal.str (clS 0), .str (clS 1), .str (clS 2)]:List AVal).getD k .dead= .str (clS k):=by rcases q3 with e|e|e<;>rw[e]<;>rfl
  have hkb:(0<=(k:Int)/\(k:Int)<3)=True:=eq_true ⟨by omega,by omega⟩;have hnl:=(qik k).2;have hcll:=(qnB k).2;refine QJ ?_;change Awp _ _ _ _ _ _ _;refine Qp ?_;refine QL ?_;refine awp_rseq [1,5,6,7,8,9,10,11] (by rfl) fun K hK=>?_;simp+decide only[qh,qi,qj,qo,ev,qZ,qY,putD,Vz,VA,VB,Ka,VC,VD,Kb,and_true,↓qW,qU,↓Qj,Qa,Qm,cond_false,Qh,qrJ,pI_mul,Qz,qpw,↓qfu _ _ _ (qnw Tryd.underlying42 Tryd.underlying3),qcz,qgD Tryd.underlying42 Tryd.underlying3,↓qV,qP,decide_true,decide_false,VL,VM,Qc,Qb,forall_const,false_implies,Qk,Qf,J4,VN,VO,VP,VQ,VS,VT,VU,QI,cond_true,cond_false,qM,ne_eq,not_false_eq_true,qN,qJ,VE,setAt,VF,Kj,qC,VG,Kn,Jp,Nat.reduceAdd,qF,qG,qI,qf,qK,qa,qz,qd,qE,qc,qA,qg,qH,qy,allLive,J4,tokV,posV,faultV,h32,hw32,hw64,qtl,VX,<-hk,hwk64,hwk];try simp(disch:=omega)only[wrap_i64,wrap_u8]
  repeat (with_reducible refine And.intro ?_ ?_;· first|trivial|omega|(intro hg;simp only[Ky,JH,Jh,VH,VI,VJ,decide_eq_true_eq,decide_eq_false_iff_not,qR]at hg;omega))
  apply hK;clear hK K;refine awp_rseq [1,5,6,7,8,9,10,11] (by rfl) fun K hK=>?_;simp+decide only[qh,qi,qj,qo,ev,qZ,qY,putD,Vz,VA,VB,Ka,VC,VD,Kb,and_true,↓qW,qU,decide_true,decide_false,VL,VM,Qc,Qb,forall_const,false_implies,Qk,Qf,J4,VN,VO,VP,VQ,VS,VT,VU,QI,cond_true,cond_false,qM,ne_eq,not_false_eq_true,qN,qJ,VE,setAt,VF,Kj,qC,VG,Kn,Jp,Nat.reduceAdd,qF,qG,qI,qf,qK,qa,qz,qd,qE,qc,qA,qg,qH,qy,allLive,J4,tokV,posV,faultV,hkb,hc10,VX,V6,Jp];repeat (with_reducible refine And.intro ?_ ?_;· first|trivial|omega|(intro hg;simp only[Ky,JH,Jh,VH,VI,VJ,decide_eq_true_eq,decide_eq_false_iff_not,qR]at hg;omega))
  refine QS (cs:=[.str (qbp 0), .str (qbp 1), .str (qbp 2)]) (by kernel_rfl) fun k10q1 hk10q1=>?_;have hn_10q1:H k10q1=none:=by first|assumption|(simp only[V7]at hk10q1;simp only[hk10q1])
  have hf_10q1:h k10q1=none:=Bh hs_H hn_10q1;simp+decide only[qh,qi,qj,qo,ev,qZ,qY,putD,Vz,VA,VB,Ka,VC,VD,Kb,and_true,↓qW,qU,↓QV,QM,Ql Tryd.underlying22 sz9,↓Qu,Qi ag9,↓Qj,Qa,Qz,cond_false,XC,qci,↓qV,qP,decide_true,decide_false,VL,VM,Qc,Qb,forall_const,false_implies,Qk,Qf,J4,VN,VO,VP,VQ,VS,VT,VU,QI,cond_true,cond_false,qM,ne_eq,not_false_eq_true,qN,qJ,VE,setAt,VF,Kj,qC,VG,Kn,Jp,Nat.reduceAdd,qF,qG,qI,qf,qK,qa,qz,qd,qE,qc,qA,qg,qH,qy,allLive,J4,tokV,posV,faultV,hkb,hc10,VX,V6,Jp];repeat (with_reducible refine And.intro ?_ ?_;· first|trivial|omega|(intro hg;simp only[Ky,JH,Jh,VH,VI,VJ,decide_eq_true_eq,decide_eq_false_iff_not,qR]at hg;omega))
  apply hK;clear hK K;refine awp_rseq [1,5,6,7,8,9,10] (by rfl) fun K hK=>?_;refine QS (cs:=[.str (clS 0), .str (clS 1), .str (clS 2)]) (by kernel_rfl) fun k11q0 hk11q0=>?_;have ne_11q0_10q1:k11q0≠k10q1:=by simp only[V7]at hk11q0;simp only[hk11q0,ne_eq,not_false_eq_true]
  have hn_11q0:H k11q0=none:=by first|assumption|(simp only[V7]at hk11q0;simp only[hk11q0])
  have hf_11q0:h k11q0=none:=Bh hs_H hn_11q0;simp+decide only[qh,qi,qj,qo,ev,qZ,qY,putD,Vz,VA,VB,Ka,VC,VD,Kb,and_true,↓qW,qU,↓QV,QM,Ql Tryd.underlying22 sz9,↓Qu,Qi ag9,↓Qj,Qa,Qz,cond_false,XC,qci,↓qV,qP,decide_true,decide_false,VL,VM,Qc,Qb,forall_const,false_implies,Qk,Qf,J4,VN,VO,VP,VQ,VS,VT,VU,QI,cond_true,cond_false,qM,ne_eq,not_false_eq_true,ne_11q0_10q1,ne_11q0_10q1.symm,qN,qJ,VE,setAt,VF,Kj,qC,VG,Kn,Jp,Nat.reduceAdd,qF,qG,qI,qf,qK,qa,qz,qd,qE,qc,qA,qg,qH,qy,allLive,J4,tokV,posV,faultV,hkb,hc11,VX,V6,Jp];repeat (with_reducible refine And.intro ?_ ?_;· first|trivial|omega|(intro hg;simp only[Ky,JH,Jh,VH,VI,VJ,decide_eq_true_eq,decide_eq_false_iff_not,qR]at hg;omega))
  apply hK;clear hK K;refine awp_rseq [1,5,6,7,8,9,10] (by rfl) fun K hK=>?_;refine QN (by rfl) (by rfl) (qmc w0 hm ha _ [65] (by decide) (by decide)) fun x12q0 h12q0 hx12q0=>?_;obtain⟨p12,hrow12,hG12,hS12⟩:=hx12q0;have hsA:=hS12.in_ (i:=0) rfl;have hsc:Sc x12q0=True:=by rcases hrow12 with⟨rfl,_⟩|⟨_,_,rfl,_⟩<;>exact eq_true trivial
  have hla:=hrow12.live;have hs_h12q0:Sub h h12q0:=Bq zqC hsA;have hr_h12q0:Sub H h12q0:=Bq zqC hsA;have eb_10q1:=hsA k10q1 _ zqA;have eb_11q0:=hsA k11q0 _ zqA;simp+decide only[qh,qi,qj,qo,ev,qZ,qY,putD,Vz,VA,VB,Ka,VC,VD,Kb,and_true,↓Wm,ZU,↓Zz,bld44_1,evP,Ke,Vh,Ym,Zr,ZV,Ue,ZA,Wt,ZW,decide_true,decide_false,VL,VM,Qc,Qb,forall_const,false_implies,Qk,Qf,J4,VN,VO,VP,VQ,VS,VT,VU,QI,cond_true,cond_false,qM,ne_eq,not_false_eq_true,qO w0 eb_10q1,qO w0 eb_11q0,ne_11q0_10q1,ne_11q0_10q1.symm,qN,qJ,VE,setAt,VF,Kj,qC,VG,Kn,Jp,Nat.reduceAdd,qF,qG,qI,qf,qK,qa,qz,qd,qE,qc,qA,qg,qH,qy,allLive,J4,tokV,posV,faultV,hsc,hla];repeat (with_reducible refine And.intro ?_ ?_;· first|trivial|omega|(intro hg;simp only[Ky,JH,Jh,VH,VI,VJ,decide_eq_true_eq,decide_eq_false_iff_not,qR]at hg;omega))
  refine QS (cs:=[.str [],x12q0]) (by kernel_rfl) fun k12q2 hk12q2=>?_;have hn_12q2:h12q0 k12q2=none:=by first|assumption|(simp only[V7]at hk12q2;simp only[hk12q2])
  have hf_12q2:h k12q2=none:=Bh hs_h12q0 hn_12q2;have ne_12q2_10q1:k12q2≠k10q1:=BG hn_12q2 eb_10q1;have ne_12q2_11q0:k12q2≠k11q0:=BG hn_12q2 eb_11q0;simp+decide only[qh,qi,qj,qo,ev,qZ,qY,putD,Vz,VA,VB,Ka,VC,VD,Kb,and_true,↓qW,qU,↓Wm,ZU,↓Zz,qpU,evP,Ke,Vh,Ym,Zr,ZV,Ue,ZA,Wt,ZW,decide_true,decide_false,VL,VM,Qc,Qb,forall_const,false_implies,Qk,Qf,J4,VN,VO,VP,VQ,VS,VT,VU,QI,cond_true,cond_false,qM,ne_eq,not_false_eq_true,ne_12q2_10q1,ne_12q2_10q1.symm,ne_12q2_11q0,ne_12q2_11q0.symm,qO w0 eb_10q1,qO w0 eb_11q0,ne_11q0_10q1,ne_11q0_10q1.symm,qN,qJ,VE,setAt,VF,Kj,qC,VG,Kn,Jp,Nat.reduceAdd,qF,qG,qI,qf,qK,qa,qz,qd,qE,qc,qA,qg,qH,qy,allLive,J4,tokV,posV,faultV,hsc,hla];repeat (with_reducible refine And.intro ?_ ?_;· first|trivial|omega|(intro hg;simp only[Ky,JH,Jh,VH,VI,VJ,decide_eq_true_eq,decide_eq_false_iff_not,qR]at hg;omega))
  refine QS (cs:=[.str [84,72,69,78], .nilSlice, .slice (.own kI) 0 1 (.exact 1)]) (by kernel_rfl) fun k12q5 hk12q5=>?_;have ne_12q5_12q2:k12q5≠k12q2:=by simp only[V7]at hk12q5;simp only[hk12q5,ne_eq,not_false_eq_true]
  have hn_12q5:h12q0 k12q5=none:=by first|assumption|(simp only[V7]at hk12q5;simp only[hk12q5])
  have hf_12q5:h k12q5=none:=Bh hs_h12q0 hn_12q5;have ne_12q5_10q1:k12q5≠k10q1:=BG hn_12q5 eb_10q1;have ne_12q5_11q0:k12q5≠k11q0:=BG hn_12q5 eb_11q0;simp+decide only[qh,qi,qj,qo,ev,qZ,qY,putD,Vz,VA,VB,Ka,VC,VD,Kb,and_true,↓Wm,ZU,↓Zz,qmi,evP,Ke,Vh,Ym,Zr,ZV,Ue,ZA,Wt,ZW,decide_true,decide_false,VL,VM,Qc,Qb,forall_const,false_implies,Qk,Qf,J4,VN,VO,VP,VQ,VS,VT,VU,QI,cond_true,cond_false,qM,ne_eq,not_false_eq_true,ne_12q2_10q1,ne_12q2_10q1.symm,ne_12q2_11q0,ne_12q2_11q0.symm,ne_12q5_12q2,ne_12q5_12q2.symm,ne_12q5_10q1,ne_12q5_10q1.symm,ne_12q5_11q0,ne_12q5_11q0.symm,qO w0 eb_10q1,qO w0 eb_11q0,ne_11q0_10q1,ne_11q0_10q1.symm,qN,qJ,VE,setAt,VF,Kj,qC,VG,Kn,Jp,Nat.reduceAdd,qF,qG,qI,qf,qK,qa,qz,qd,qE,qc,qA,qg,qH,qy,allLive,J4,tokV,posV,faultV,hsc,hla];repeat (with_reducible refine And.intro ?_ ?_;· first|trivial|omega|(intro hg;simp only[Ky,JH,Jh,VH,VI,VJ,decide_eq_true_eq,decide_eq_false_iff_not,qR]at hg;omega))
  refine QS (cs:=[.str [73,70], .int .i64 0, .int .i64 0, .slice (.own k12q2) 0 1 (.exact 1), .slice (.own k12q5) 0 1 (.exact 1)]) (by kernel_rfl) fun k12q7 hk12q7=>?_;have ne_12q7_12q2:k12q7≠k12q2:=by simp only[V7]at hk12q7;simp only[hk12q7,ne_eq,not_false_eq_true]
  have ne_12q7_12q5:k12q7≠k12q5:=by simp only[V7]at hk12q7;simp only[hk12q7,ne_eq,not_false_eq_true]
  have hn_12q7:h12q0 k12q7=none:=by first|assumption|(simp only[V7]at hk12q7;simp only[hk12q7])
  have hf_12q7:h k12q7=none:=Bh hs_h12q0 hn_12q7;have ne_12q7_10q1:k12q7≠k10q1:=BG hn_12q7 eb_10q1;have ne_12q7_11q0:k12q7≠k11q0:=BG hn_12q7 eb_11q0;simp+decide only[qh,qi,qj,qo,ev,qZ,qY,putD,Vz,VA,VB,Ka,VC,VD,Kb,and_true,↓qV,qP,decide_true,decide_false,VL,VM,Qc,Qb,forall_const,false_implies,Qk,Qf,J4,VN,VO,VP,VQ,VS,VT,VU,QI,cond_true,cond_false,qM,ne_eq,not_false_eq_true,ne_12q2_10q1,ne_12q2_10q1.symm,ne_12q2_11q0,ne_12q2_11q0.symm,ne_12q5_12q2,ne_12q5_12q2.symm,ne_12q5_10q1,ne_12q5_10q1.symm,ne_12q5_11q0,ne_12q5_11q0.symm,ne_12q7_12q2,ne_12q7_12q2.symm,ne_12q7_12q5,ne_12q7_12q5.symm,ne_12q7_10q1,ne_12q7_10q1.symm,ne_12q7_11q0,ne_12q7_11q0.symm,qO w0 eb_10q1,qO w0 eb_11q0,ne_11q0_10q1,ne_11q0_10q1.symm,qN,qJ,VE,setAt,VF,Kj,qC,VG,Kn,Jp,Nat.reduceAdd,qF,qG,qI,qf,qK,qa,qz,qd,qE,qc,qA,qg,qH,qy,allLive,J4,tokV,posV,faultV,hsc,hla];repeat (with_reducible refine And.intro ?_ ?_;· first|trivial|omega|(intro hg;simp only[Ky,JH,Jh,VH,VI,VJ,decide_eq_true_eq,decide_eq_false_iff_not,qR]at hg;omega))
  apply hK;clear hK K;have hs_p:AM.Sub p12 h12q0:=hS12.in_ (i:=1) rfl;have hs_n:AM.Sub h12q0 (((h12q0.set k12q2 ⟨[.str [],x12q0],0⟩).set k12q5 ⟨[.str [84,72,69,78], .nilSlice, .slice (.own kI) 0 1 (.exact 1)],0⟩).set k12q7 ⟨[.str [73,70], .int .i64 0, .int .i64 0, .slice (.own k12q2) 0 1 (.exact 1), .slice (.own k12q5) 0 1 (.exact 1)],0⟩):=zqB;obtain⟨H12,hH12⟩:∃H12,H12=(((h12q0.set k12q2 ⟨[.str [],x12q0],0⟩).set k12q5 ⟨[.str [84,72,69,78], .nilSlice, .slice (.own kI) 0 1 (.exact 1)],0⟩).set k12q7 ⟨[.str [73,70], .int .i64 0, .int .i64 0, .slice (.own k12q2) 0 1 (.exact 1), .slice (.own k12q5) 0 1 (.exact 1)],0⟩):=⟨_,rfl⟩
  have f2:H12 k12q2=some ⟨[.str [],x12q0],0⟩:=by rw[hH12];exact zqA
  have f5:H12 k12q5=some ⟨[.str [84,72,69,78], .nilSlice, .slice (.own kI) 0 1 (.exact 1)],0⟩:=by rw[hH12];exact zqA
  have f7:H12 k12q7=some ⟨[.str [73,70], .int .i64 0, .int .i64 0, .slice (.own k12q2) 0 1 (.exact 1), .slice (.own k12q5) 0 1 (.exact 1)],0⟩:=by rw[hH12];exact zqA
  rw[<-hH12]at hs_n|-
  have hs_12:AM.Sub H H12:=Bq (by repeat (first|exact Vg _|assumption|refine Bq ?_ (V8 (by assumption))|refine Bq ?_ (by assumption))) hs_n;have hs_H12:AM.Sub h H12:=hs_H.trans hs_12;have hst12:StsV w0 (i+1) H12 (.slice (.own k12q7) 0 1 (.exact 1)) [.mk IFv 0 0 [⟨[],Zg [65]⟩] [(Wu,[],[t])]]:=qok f7 (qrF f2 (hrow12.isL (hs_p.trans hs_n))) (bd_one f5 .nil (hst.mono hs_12) rfl);have hsh12:Shp (YW i) (.mk IFv 0 0 [⟨[],Zg [65]⟩] [(Wu,[],[t])]):=by
   obtain⟨j,rfl⟩:∃j,i=j+1:=⟨i-1,by omega⟩
   rw[Eh]at hsh;exact⟨t,0,0,Uw 0 [65],hsh,ktA,by rw[lawA]⟩
  have hk3':∀j∈ks++[k],j<3:=fun j hj=>by
   rcases JS.1 hj with z|z
   ·exact hk3 j z
   ·rw[V4.1 z];exact hkk
  have hos:qbo ks++qbp k=qbo (ks++[k]):=(qmU ks k).symm;have hcs:clS k++qcr ks=qcr (ks++[k]):=(qlZ ks k).symm;rw[hos,hcs];have hol2:=qfL (ks++[k]);rw[Jb,JF]at hol2;refine awp_rseq [1,5,6,7,8,9,10,55] (by rfl) fun K hK=>?_;simp+decide only[qh,qi,qj,qo,ev,qZ,qY,putD,Vz,VA,VB,Ka,VC,VD,Kb,and_true,↓qW,qU,↓Qj,Qa,Qm,cond_false,Qh,ZE,decide_true,decide_false,VL,VM,Qc,Qb,forall_const,false_implies,Qk,Qf,J4,VN,VO,VP,VQ,VS,VT,VU,QI,cond_true,cond_false,qM,ne_eq,not_false_eq_true,qN,qJ,VE,setAt,VF,Kj,qC,VG,Kn,Jp,Nat.reduceAdd,qF,qG,qI,qf,qK,qa,qz,qd,qE,qc,qA,qg,qH,qy,allLive,J4,tokV,posV,faultV];repeat (with_reducible refine And.intro ?_ ?_;· first|trivial|omega|(intro hg;simp only[Ky,JH,Jh,VH,VI,VJ,decide_eq_true_eq,decide_eq_false_iff_not,qR]at hg;omega))
  apply hK;clear hK K;refine Qw (b:=_) rfl (fun hb2=>?_) (fun hb2=>?_)
  ·try simp only[decide_eq_true_eq,decide_eq_false_iff_not,Jh,VJ,Ky,VH,JH,VI,VV,VW,reduceCtorEq]at hb2
   have hi32:i=32:=by omega
   refine XZ [1,5,6,7,8,9,10] (by rfl) ?_;simp+decide only[qh,qi,qj,qo,ev,qZ,qY,putD,Vz,VA,VB,Ka,VC,VD,Kb,and_true,↓qW,qU,decide_true,decide_false,VL,VM,Qc,Qb,forall_const,false_implies,Qk,Qf,J4,VN,VO,VP,VQ,VS,VT,VU,QI,cond_true,cond_false,qM,ne_eq,not_false_eq_true,qN,qJ,VE,setAt,VF,Kj,qC,VG,Kn,Jp,Nat.reduceAdd,qF,qG,qI,qf,qK,qa,qz,qd,qE,qc,qA,qg,qH,qy,allLive,J4,tokV,posV,faultV];repeat (with_reducible refine And.intro ?_ ?_;· first|trivial|omega|(intro hg;simp only[Ky,JH,Jh,VH,VI,VJ,decide_eq_true_eq,decide_eq_false_iff_not,qR]at hg;omega))
   refine QN (by rfl) (by rfl) (qdk w0 ha _ (qbo (ks++[k])) (by omega) hol2.1) fun x14q1 h14q1 hx14q1=>?_;obtain⟨kf,hkf,rfl,e14⟩:=hx14q1;have hs14:AM.Sub H12 h14q1:=by rw[e14];exact V8 hkf
   have n14:=qav (l:=Lib.fields (qbo (ks++[k]))) (qcv (w0:=w0) (show h14q1 kf=some ⟨(Lib.fields (qbo (ks++[k]))).map AVal.str,0⟩ by rw[e14];exact Vf _ _ _));rw[qkp hk3']at n14;have hs_h14q1:Sub h h14q1:=Bq zqC hs14;have hr_h14q1:Sub H12 h14q1:=Bq zqC hs14;simp+decide only[qh,qi,qj,qo,ev,qZ,qY,putD,Vz,VA,VB,Ka,VC,VD,Kb,and_true,↓XG,Xh,QE Tryd.underlying22,QT Tryd.underlying22,↓qV,qP,decide_true,decide_false,VL,VM,Qc,Qb,forall_const,false_implies,Qk,Qf,J4,VN,VO,VP,VQ,VS,VT,VU,QI,cond_true,cond_false,qM,ne_eq,not_false_eq_true,qN,qJ,VE,setAt,VF,Kj,qC,VG,Kn,Jp,Nat.reduceAdd,qF,qG,qI,qf,qK,qa,qz,qd,qE,qc,qA,qg,qH,qy,allLive,J4,tokV,posV,faultV,n14];repeat (with_reducible refine And.intro ?_ ?_;· first|trivial|omega|(intro hg;simp only[Ky,JH,Jh,VH,VI,VJ,decide_eq_true_eq,decide_eq_false_iff_not,qR]at hg;omega))
   change Awp _ _ _ _ _ _ _;refine XZ [1,5,6,7,8,9,10] (by rfl) ?_;simp+decide only[qh,qi,qj,qo,ev,qZ,qY,putD,Vz,VA,VB,Ka,VC,VD,Kb,and_true,↓qW,qU,↓Qj,Qa,Qm,cond_false,Qh,XM,↓qV,qP,decide_true,decide_false,VL,VM,Qc,Qb,forall_const,false_implies,Qk,Qf,J4,VN,VO,VP,VQ,VS,VT,VU,QI,cond_true,cond_false,qM,ne_eq,not_false_eq_true,qN,qJ,VE,setAt,VF,Kj,qC,VG,Kn,Jp,Nat.reduceAdd,qF,qG,qI,qf,qK,qa,qz,qd,qE,qc,qA,qg,qH,qy,allLive,J4,tokV,posV,faultV,hwi];try simp(disch:=omega)only[wrap_i64,wrap_u8]
   repeat (with_reducible refine And.intro ?_ ?_;· first|trivial|omega|(intro hg;simp only[Ky,JH,Jh,VH,VI,VJ,decide_eq_true_eq,decide_eq_false_iff_not,qR]at hg;omega))
   try simp only[QK,Qt]
   first
   |(exact⟨⟨i+1,UF (ks++[k]),k12q7,ks++[k],_,h14q1⟩,by rw[qkp hk3']<;>rfl,Vg _,⟨hs_H12.trans hs14,by simp only;omega,hi2,by simp only[Jb,JF];omega,hk3',fun _=>by simp only;rw[JX (by simp only[Jb,JF];omega)],hst12.mono hs14,by simp only[Eh];exact hsh12⟩,by simp only;omega⟩)
   |(exact⟨⟨i+1,at_,k12q7,ks++[k],_,H12⟩,rfl,Vg _,⟨hs_H12,by simp only;omega,hi2,by simp only[Jb,JF];omega,hk3',fun z=>by simp only[Jb,JF]at z|-;rw[hat (by omega),EM (by omega)],hst12,by simp only[Eh];exact hsh12⟩,by simp only;omega⟩)
  ·try simp only[decide_eq_true_eq,decide_eq_false_iff_not,Jh,VJ,Ky,VH,JH,VI,VV,VW,reduceCtorEq]at hb2
   have hi32:i≠32:=by omega
   refine QJ ?_;change Awp _ _ _ _ _ _ _;refine XZ [1,5,6,7,8,9,10] (by rfl) ?_;simp+decide only[qh,qi,qj,qo,ev,qZ,qY,putD,Vz,VA,VB,Ka,VC,VD,Kb,and_true,↓qW,qU,↓Qj,Qa,Qm,cond_false,Qh,XM,↓qV,qP,decide_true,decide_false,VL,VM,Qc,Qb,forall_const,false_implies,Qk,Qf,J4,VN,VO,VP,VQ,VS,VT,VU,QI,cond_true,cond_false,qM,ne_eq,not_false_eq_true,qN,qJ,VE,setAt,VF,Kj,qC,VG,Kn,Jp,Nat.reduceAdd,qF,qG,qI,qf,qK,qa,qz,qd,qE,qc,qA,qg,qH,qy,allLive,J4,tokV,posV,faultV,hwi];try simp(disch:=omega)only[wrap_i64,wrap_u8]
   repeat (with_reducible refine And.intro ?_ ?_;· first|trivial|omega|(intro hg;simp only[Ky,JH,Jh,VH,VI,VJ,decide_eq_true_eq,decide_eq_false_iff_not,qR]at hg;omega))
   try simp only[QK,Qt]
   first
   |(exact⟨⟨i+1,UF (ks++[k]),k12q7,ks++[k],_,h14q1⟩,by rw[qkp hk3']<;>rfl,Vg _,⟨hs_H12.trans hs14,by simp only;omega,hi2,by simp only[Jb,JF];omega,hk3',fun _=>by simp only;rw[JX (by simp only[Jb,JF];omega)],hst12.mono hs14,by simp only[Eh];exact hsh12⟩,by simp only;omega⟩)
   |(exact⟨⟨i+1,at_,k12q7,ks++[k],_,H12⟩,rfl,Vg _,⟨hs_H12,by simp only;omega,hi2,by simp only[Jb,JF];omega,hk3',fun z=>by simp only[Jb,JF]at z|-;rw[hat (by omega),EM (by omega)],hst12,by simp only[Eh];exact hsh12⟩,by simp only;omega⟩)
 ·try simp only[decide_eq_true_eq,decide_eq_false_iff_not,Jh,VJ,Ky,VH,JH,VI,VV,VW,reduceCtorEq]at hb1
  have hinn:i=n:=by omega
  subst hinn;obtain⟨hnA,hnL⟩:=qnc ks;obtain⟨r1,r2⟩:=qna hk3 (by omega);have hlT:(Zg (Ug ks)).length<=1000000:=UH (by omega);obtain⟨hw1,hw2⟩:=qmy hsh (d:=i) (by omega) (by omega);obtain⟨z1,z2,z3⟩:=qeC i _ hsh;have hok:StsOk w0 i H (.slice (.own kI) 0 1 (.exact 1)) [t]:=⟨hst,z1,z2,z3⟩
  have hcT:ZY i [t]<=1000000000000:=Vb (qfB i _ hsh) (by simp[YW];omega);have hsmL:∀L j,ParseR QY (ZB i [t]) Xi (.ok L j)->SmallS 32 L:=fun L j q=>qmG hsh (by omega) q;refine XJ ?_;change Awp _ _ _ _ _ _ _;refine awp_rseq [5,7,9,12,13] (by rfl) fun K hK=>?_;simp+decide only[qh,qi,qj,qo,ev,qZ,qY,putD,Vz,VA,VB,Ka,VC,VD,Kb,and_true,↓qW,qU,↓Qj,Qa,XK,cond_false,XC,qci,Qz,decide_true,decide_false,VL,VM,Qc,Qb,forall_const,false_implies,Qk,Qf,J4,VN,VO,VP,VQ,VS,VT,VU,QI,cond_true,cond_false,qM,ne_eq,not_false_eq_true,qN,qJ,VE,setAt,VF,Kj,qC,VG,Kn,Jp,Nat.reduceAdd,qF,qG,qI,qf,qK,qa,qz,qd,qE,qc,qA,qg,qH,qy,allLive,J4,tokV,posV,faultV,Jb,KX,JD];repeat (with_reducible refine And.intro ?_ ?_;· first|trivial|omega|(intro hg;simp only[Ky,JH,Jh,VH,VI,VJ,decide_eq_true_eq,decide_eq_false_iff_not,qR]at hg;omega))
  refine QN (by rfl) (by rfl) (qbf w0 hm ha _ (Ug ks) (by omega) hnA) fun x15q5 h15q5 hx15q5=>?_;obtain⟨ht15,hs15⟩:=hx15q5;have hs_h15q5:Sub h h15q5:=Bq zqC hs15;have hr_h15q5:Sub H h15q5:=Bq zqC hs15;refine QN (by rfl) (by rfl) (qcF w0 hm ha (Zg (Ug ks)) hlT (WF (by omega)) _ x15q5 ht15) fun x15q6 h15q6 hx15q6=>?_;obtain⟨hs15b,ho⟩:=hx15q6;obtain⟨f,L,rv,rfl,hv15,c1,c2⟩:∃f L rv,x15q6= .tuple [rv,faultV f]/\StsV w0 32 h15q6 rv L/\(ks.length<=31->f=okF/\∃s,L=[s]/\Shp ks s)/\(32<=ks.length->f=⟨3,((UF (ks.take 32)+1:Nat):Int),8⟩/\L=[]):=by
   rcases ho with⟨f,q,e⟩|⟨L,j,rv,q,e,hv⟩
   ·refine⟨f,[], .nilSlice,e,⟨[],rfl, .nil,fun q hq=>by cases hq⟩,fun z=>?_,fun z=>?_⟩
    ·obtain⟨s,j,p,-⟩:=r1 z
     cases EI p q
    ·cases EI (r2 z) q
     exact⟨rfl,rfl⟩
   ·refine⟨okF,L,rv,e,hv,fun z=>?_,fun z=>?_⟩
    ·obtain⟨s,j',p,hs⟩:=r1 z
     cases EI p q;exact⟨rfl,s,rfl,hs⟩
    ·cases EI (r2 z) q
  have hrl:=hv15.shape.1;have nrv:=qau hv15;have hs_h15q6:Sub h h15q6:=Bq zqC hs15b;have hr_h15q6:Sub h15q5 h15q6:=Bq zqC hs15b;simp+decide only[qh,qi,qj,qo,ev,qZ,qY,putD,Vz,VA,VB,Ka,VC,VD,Kb,and_true,↓qW,qU,↓Zl,XY,Zp,KX,JD,VG,Kn,decide_true,decide_false,VL,VM,Qc,Qb,forall_const,false_implies,Qk,Qf,J4,VN,VO,VP,VQ,VS,VT,VU,QI,cond_true,cond_false,qM,ne_eq,not_false_eq_true,qN,qJ,VE,setAt,VF,Kj,qC,VG,Kn,Jp,Nat.reduceAdd,qF,qG,qI,qf,qK,qa,qz,qd,qE,qc,qA,qg,qH,qy,allLive,J4,tokV,posV,faultV,Jb,KX,JD,hrl];repeat (with_reducible refine And.intro ?_ ?_;· first|trivial|omega|(intro hg;simp only[Ky,JH,Jh,VH,VI,VJ,decide_eq_true_eq,decide_eq_false_iff_not,qR]at hg;omega))
  refine XL qje (cs:=[.int .i64 0, .int .i64 0, .int .i64 0]) (by rfl) fun k15q10 hk15q10=>?_;have hn_15q10:h15q6 k15q10=none:=by first|assumption|(simp only[V7]at hk15q10;simp only[hk15q10])
  have hf_15q10:h k15q10=none:=Bh hs_h15q6 hn_15q10;simp+decide only[qh,qi,qj,qo,ev,qZ,qY,putD,Vz,VA,VB,Ka,VC,VD,Kb,and_true,↓qV,qP,decide_true,decide_false,VL,VM,Qc,Qb,forall_const,false_implies,Qk,Qf,J4,VN,VO,VP,VQ,VS,VT,VU,QI,cond_true,cond_false,qM,ne_eq,not_false_eq_true,qN,qJ,VE,setAt,VF,Kj,qC,VG,Kn,Jp,Nat.reduceAdd,qF,qG,qI,qf,qK,qa,qz,qd,qE,qc,qA,qg,qH,qy,allLive,J4,tokV,posV,faultV,Jb,KX,JD,hrl];repeat (with_reducible refine And.intro ?_ ?_;· first|trivial|omega|(intro hg;simp only[Ky,JH,Jh,VH,VI,VJ,decide_eq_true_eq,decide_eq_false_iff_not,qR]at hg;omega))
  refine QR (by rfl) (by rfl) zqA qdt (by rfl) (by rfl) zqD (Jq _) (by rfl) ?_;simp only[Bi,setAt,VE,VF,Kj,Jp,Nat.reduceAdd];simp+decide only[qh,qi,qj,qo,ev,qZ,qY,putD,Vz,VA,VB,Ka,VC,VD,Kb,and_true,decide_true,decide_false,VL,VM,Qc,Qb,forall_const,false_implies,Qk,Qf,J4,VN,VO,VP,VQ,VS,VT,VU,QI,cond_true,cond_false,qM,ne_eq,not_false_eq_true,qN,qJ,VE,setAt,VF,Kj,qC,VG,Kn,Jp,Nat.reduceAdd,qF,qG,qI,qf,qK,qa,qz,qd,qE,qc,qA,qg,qH,qy,allLive,J4,tokV,posV,faultV,Jb,KX,JD,hrl];repeat (with_reducible refine And.intro ?_ ?_;· first|trivial|omega|(intro hg;simp only[Ky,JH,Jh,VH,VI,VJ,decide_eq_true_eq,decide_eq_false_iff_not,qR]at hg;omega))
  apply hK;clear hK K;refine Qp ?_;refine awp_rseq [5,7,9,12,13,70] (by rfl) fun K hK=>?_;simp+decide only[qh,qi,qj,qo,ev,qZ,qY,putD,Vz,VA,VB,Ka,VC,VD,Kb,and_true,↓qW,qU,↓Qj,Qa,Qm,cond_false,Qh,UE,decide_true,decide_false,VL,VM,Qc,Qb,forall_const,false_implies,Qk,Qf,J4,VN,VO,VP,VQ,VS,VT,VU,QI,cond_true,cond_false,qM,ne_eq,not_false_eq_true,qN,qJ,VE,setAt,VF,Kj,qC,VG,Kn,Jp,Nat.reduceAdd,qF,qG,qI,qf,qK,qa,qz,qd,qE,qc,qA,qg,qH,qy,allLive,J4,tokV,posV,faultV];repeat (with_reducible refine And.intro ?_ ?_;· first|trivial|omega|(intro hg;simp only[Ky,JH,Jh,VH,VI,VJ,decide_eq_true_eq,decide_eq_false_iff_not,qR]at hg;omega))
  apply hK;clear hK K;refine Qw (b:=_) rfl (fun hb3=>?_) (fun hb3=>?_)
  ·try simp only[decide_eq_true_eq,decide_eq_false_iff_not,Jh,VJ,Ky,VH,JH,VI,VV,VW,reduceCtorEq]at hb3
   have h32:32<=ks.length:=by omega
   obtain⟨rfl,rfl⟩:=c2 h32;have hatE:=hat h32;have hwat:IntKind.i64.wrap ((at_:Int)+1)=((UF (ks.take 32)+1:Nat):Int):=by
    have:=(qeH (ks.take 32)).2;have:=(qeH (ks.take 32)).1;rw[List.length_take]at this;rw[hatE,wrap_i64 (by omega) (by omega)];omega
   obtain⟨hT0,hck⟩:=qnD (d:=i) hsh (by omega);have hdp:YU 32 [t]=true:=by rw[qab 32 _ hsh];simp[YW];omega
   refine awp_rseq [4] (by kernel_rfl) fun K hK=>?_;try simp only[List.append_eq,Kh,Jd]
   simp+decide only[qh,qi,qj,qo,ev,qZ,qY,putD,Vz,VA,VB,Ka,VC,VD,Kb,and_true,↓Qu,QM,Xy qmr qdt,↓qW,qU,↓Qj,Qa,Qm,cond_false,Qh,XM,↓Wm,ZU,↓Zz,qgZ,evP,Ke,Vh,Ym,Zr,ZV,Ue,ZA,Wt,ZW,qjU,Qz,qjy,eq28,↓Zj,agP,Xw,gv,QB,QD,QC,Qs,Qg,Qe,Zk,implies_true,VK,decide_true,decide_false,VL,VM,Qc,Qb,forall_const,false_implies,Qk,Qf,J4,VN,VO,VP,VQ,VS,VT,VU,Xb,Xc,Xa,↓qet,Xh,QE Tryd.underlying23,QT Tryd.underlying23,qej,qel,↓XT,Zb,Za,Zd,Zc,ZE,↓XH,Xj,QO,QH,QG,QA,Xo,Xn,Xm,Xl,QZ,Xk,decide_true,decide_false,VL,VM,Qc,Qb,forall_const,false_implies,Qk,Qf,J4,VN,VO,VP,VQ,VS,VT,VU,QI,cond_true,cond_false,qM,ne_eq,not_false_eq_true,qN,qJ,VE,setAt,VF,Kj,qC,VG,Kn,Jp,Nat.reduceAdd,qF,qG,qI,qf,qK,qa,qz,qd,qE,qc,qA,qg,qH,qy,allLive,J4,tokV,posV,faultV,hwat,nrv,hrl,JD];try simp(disch:=omega)only[wrap_i64,wrap_u8]
   repeat (with_reducible refine And.intro ?_ ?_;· first|trivial|omega|(intro hg;simp only[Ky,JH,Jh,VH,VI,VJ,decide_eq_true_eq,decide_eq_false_iff_not,qR]at hg;omega))
   refine Zf (by rfl) ?_;refine QN (by rfl) (by rfl) (qoS w0 hm ha i _ _ [t] (hok.mono (by repeat (first|exact Vg _|assumption|refine Bq ?_ (V8 (by assumption))|refine Bq ?_ (by assumption)))) (by omega) hw2 hsmL) fun x17q13 h17q13 hx17q13=>?_;obtain⟨⟨e17,rfl,he17⟩,hs17⟩:=hx17q13;rw[hck e17 he17];have hs_h17q13:Sub h h17q13:=Bq zqC hs17;have hr_h17q13:Sub h15q6 h17q13:=Bq zqC hs17;have eb_15q10:=hs17 k15q10 _ zqA;simp+decide only[qh,qi,qj,qo,ev,qZ,qY,putD,Vz,VA,VB,Ka,VC,VD,Kb,and_true,↓XT,Qa,agP,Xw,gv,QB,QD,QC,Qs,Qg,Qe,Zk,implies_true,VK,decide_true,decide_false,VL,VM,Qc,Qb,forall_const,false_implies,Qk,Qf,J4,VN,VO,VP,VQ,VS,VT,VU,Qm,cond_false,Zb,Za,Zd,Zc,Qh,ZE,Xb,Xc,Xa,↓XH,Xj,QO,QH,QG,QA,Xo,Xn,Xm,Xl,QZ,Xk,↓qW,qU,↓Zj,decide_true,decide_false,VL,VM,Qc,Qb,forall_const,false_implies,Qk,Qf,J4,VN,VO,VP,VQ,VS,VT,VU,QI,cond_true,cond_false,qM,ne_eq,not_false_eq_true,qO w0 eb_15q10,qN,qJ,VE,setAt,VF,Kj,qC,VG,Kn,Jp,Nat.reduceAdd,qF,qG,qI,qf,qK,qa,qz,qd,qE,qc,qA,qg,qH,qy,allLive,J4,tokV,posV,faultV,hwat,nrv,hrl,JD];repeat (with_reducible refine And.intro ?_ ?_;· first|trivial|omega|(intro hg;simp only[Ky,JH,Jh,VH,VI,VJ,decide_eq_true_eq,decide_eq_false_iff_not,qR]at hg;omega))
   refine Zf (by rfl) ?_;refine QN (by rfl) (by rfl) (qjR w0 hm ha i _ _ [t] (hok.mono (by repeat (first|exact Vg _|assumption|refine Bq ?_ (V8 (by assumption))|refine Bq ?_ (by assumption)))) (by omega)) fun x17q18 h17q18 hx17q18=>?_;obtain⟨ht17,hs17b⟩:=hx17q18;rw[hT0]at ht17;have n17:=Yl ht17;have hl17:=ht17.live;have hs_h17q18:Sub h h17q18:=Bq zqC hs17b;have hr_h17q18:Sub h17q13 h17q18:=Bq zqC hs17b;have eb_15q10:=hs17b k15q10 _ zqA;simp+decide only[qh,qi,qj,qo,ev,qZ,qY,putD,Vz,VA,VB,Ka,VC,VD,Kb,and_true,↓qet,Xh,agP,Xw,gv,QB,QD,QC,Qs,Qg,Qe,Zk,implies_true,VK,decide_true,decide_false,VL,VM,Qc,Qb,forall_const,false_implies,Qk,Qf,J4,VN,VO,VP,VQ,VS,VT,VU,QE Tryd.underlying31,QT Tryd.underlying31,qej,qel,Xb,Xc,Xa,↓XT,Qa,Qm,cond_false,Zb,Za,Zd,Zc,Qh,ZE,↓XH,Xj,QO,QH,QG,QA,Xo,Xn,Xm,Xl,QZ,Xk,↓qW,qU,↓Zj,decide_true,decide_false,VL,VM,Qc,Qb,forall_const,false_implies,Qk,Qf,J4,VN,VO,VP,VQ,VS,VT,VU,QI,cond_true,cond_false,qM,ne_eq,not_false_eq_true,qO w0 eb_15q10,qN,qJ,VE,setAt,VF,Kj,qC,VG,Kn,Jp,Nat.reduceAdd,qF,qG,qI,qf,qK,qa,qz,qd,qE,qc,qA,qg,qH,qy,allLive,J4,tokV,posV,faultV,hwat,nrv,hrl,JD,n17,hl17];repeat (with_reducible refine And.intro ?_ ?_;· first|trivial|omega|(intro hg;simp only[Ky,JH,Jh,VH,VI,VJ,decide_eq_true_eq,decide_eq_false_iff_not,qR]at hg;omega))
   refine Zf (by rfl) ?_;refine QN (by rfl) (by rfl) (qhJ w0 i _ _ [t] (hst.mono (by repeat (first|exact Vg _|assumption|refine Bq ?_ (V8 (by assumption))|refine Bq ?_ (by assumption)))) z1 hcT) fun x17q24 h17q24 hx17q24=>?_;obtain⟨rfl,hs17c⟩:=hx17q24;rw[show qcO i [t]=0 by unfold qcO;rw[if_pos hdp]];have hs_h17q24:Sub h h17q24:=Bq zqC hs17c;have hr_h17q24:Sub h17q18 h17q24:=Bq zqC hs17c;have eb_15q10:=hs17c k15q10 _ zqA;simp+decide only[qh,qi,qj,qo,ev,qZ,qY,putD,Vz,VA,VB,Ka,VC,VD,Kb,and_true,↓XT,Qa,agP,Xw,gv,QB,QD,QC,Qs,Qg,Qe,Zk,implies_true,VK,decide_true,decide_false,VL,VM,Qc,Qb,forall_const,false_implies,Qk,Qf,J4,VN,VO,VP,VQ,VS,VT,VU,Qm,cond_false,Zb,Za,Zd,Zc,Qh,ZE,Xb,Xc,Xa,↓XH,Xj,QO,QH,QG,QA,Xo,Xn,Xm,Xl,QZ,Xk,↓qW,qU,↓Zj,decide_true,decide_false,VL,VM,Qc,Qb,forall_const,false_implies,Qk,Qf,J4,VN,VO,VP,VQ,VS,VT,VU,QI,cond_true,cond_false,qM,ne_eq,not_false_eq_true,qO w0 eb_15q10,qN,qJ,VE,setAt,VF,Kj,qC,VG,Kn,Jp,Nat.reduceAdd,qF,qG,qI,qf,qK,qa,qz,qd,qE,qc,qA,qg,qH,qy,allLive,J4,tokV,posV,faultV,hwat,nrv,hrl,JD,n17,hl17];repeat (with_reducible refine And.intro ?_ ?_;· first|trivial|omega|(intro hg;simp only[Ky,JH,Jh,VH,VI,VJ,decide_eq_true_eq,decide_eq_false_iff_not,qR]at hg;omega))
   refine Zf (by rfl) ?_;refine QN (by rfl) (by rfl) (qnI w0 i i _ _ _ [t] [t] (hst.mono (by repeat (first|exact Vg _|assumption|refine Bq ?_ (V8 (by assumption))|refine Bq ?_ (by assumption)))) (hst.mono (by repeat (first|exact Vg _|assumption|refine Bq ?_ (V8 (by assumption))|refine Bq ?_ (by assumption)))) z1 z1) fun x17q30 h17q30 hx17q30=>?_;obtain⟨rfl,hs17d⟩:=hx17q30;rw[show qdp i [t] [t]=false by unfold qdp;rw[hdp];rfl];have hs_h17q30:Sub h h17q30:=Bq zqC hs17d;have hr_h17q30:Sub h17q24 h17q30:=Bq zqC hs17d;have eb_15q10:=hs17d k15q10 _ zqA;simp+decide only[qh,qi,qj,qo,ev,qZ,qY,putD,Vz,VA,VB,Ka,VC,VD,Kb,and_true,↓qbP,YB,agP,Xw,gv,QB,QD,QC,Qs,Qg,Qe,Zk,implies_true,VK,decide_true,decide_false,VL,VM,Qc,Qb,forall_const,false_implies,Qk,Qf,J4,VN,VO,VP,VQ,VS,VT,VU,UD,qei,qek,Xb,Xc,Xa,↓XH,Xj,QO,QH,QG,QA,Xo,Xn,Xm,Xl,QZ,Xk,↓qW,qU,decide_true,decide_false,VL,VM,Qc,Qb,forall_const,false_implies,Qk,Qf,J4,VN,VO,VP,VQ,VS,VT,VU,QI,cond_true,cond_false,qM,ne_eq,not_false_eq_true,qO w0 eb_15q10,qN,qJ,VE,setAt,VF,Kj,qC,VG,Kn,Jp,Nat.reduceAdd,qF,qG,qI,qf,qK,qa,qz,qd,qE,qc,qA,qg,qH,qy,allLive,J4,tokV,posV,faultV,hwat,nrv,hrl,JD,n17,hl17];try simp(disch:=omega)only[wrap_i64,wrap_u8]
   repeat (with_reducible refine And.intro ?_ ?_;· first|trivial|omega|(intro hg;simp only[Ky,JH,Jh,VH,VI,VJ,decide_eq_true_eq,decide_eq_false_iff_not,qR]at hg;omega))
   refine Zf (by rfl) ?_;refine QN (by rfl) (by rfl) (qjP w0 hm ha _) fun x17q34 h17q34 hx17q34=>?_;obtain⟨rfl,hs17e⟩:=hx17q34;have hs_h17q34:Sub h h17q34:=Bq zqC hs17e;have hr_h17q34:Sub h17q30 h17q34:=Bq zqC hs17e;have eb_15q10:=hs17e k15q10 _ zqA;simp+decide only[qh,qi,qj,qo,ev,qZ,qY,putD,Vz,VA,VB,Ka,VC,VD,Kb,and_true,↓XH,Xj,QO,QH,QG,QA,Xo,Xn,Xm,Xl,QZ,Xk,↓qV,qP,decide_true,decide_false,VL,VM,Qc,Qb,forall_const,false_implies,Qk,Qf,J4,VN,VO,VP,VQ,VS,VT,VU,QI,cond_true,cond_false,qM,ne_eq,not_false_eq_true,qO w0 eb_15q10,qN,qJ,VE,setAt,VF,Kj,qC,VG,Kn,Jp,Nat.reduceAdd,qF,qG,qI,qf,qK,qa,qz,qd,qE,qc,qA,qg,qH,qy,allLive,J4,tokV,posV,faultV,hwat,nrv,hrl,JD,n17,hl17];repeat (with_reducible refine And.intro ?_ ?_;· first|trivial|omega|(intro hg;simp only[Ky,JH,Jh,VH,VI,VJ,decide_eq_true_eq,decide_eq_false_iff_not,qR]at hg;omega))
   apply hK;clear hK K;refine Xd ?_;try simp only[QF,Qn]
   refine XV h zqC (Qr (Qv)) ?_;simp+decide only[qh,qi,qj,qo,ev,qZ,qY,putD,Vz,VA,VB,Ka,VC,VD,Kb,and_true,QU,decide_true,decide_false,VL,VM,Qc,Qb,forall_const,false_implies,Qk,Qf,J4,VN,VO,VP,VQ,VS,VT,VU,QI,cond_true,cond_false,qM,ne_eq,not_false_eq_true,qO w0 eb_15q10,qN,qJ,VE,setAt,VF,Kj,qC,VG,Kn,Jp,Nat.reduceAdd,qF,qG,qI,qf,qK,qa,qz,qd,qE,qc,qA,qg,qH,qy,allLive,J4,tokV,posV,faultV];all_goals first|rfl|exact⟨rfl,rfl⟩|(simp+decide only[Ka, *];done)|(trace_state;fail)
  ·try simp only[decide_eq_true_eq,decide_eq_false_iff_not,Jh,VJ,Ky,VH,JH,VI,VV,VW,reduceCtorEq]at hb3
   have h31:ks.length<=31:=by omega
   obtain⟨rfl,s,rfl,hshS⟩:=c1 h31;obtain⟨y1,y2,y3⟩:=qeC 32 _ hshS;have hcS:ZY 32 [s]=ks.length+1:=qgw 32 ks hshS (by omega);have hdS:YU 32 [s]=false:=by rw[qab 32 _ hshS];simp;omega
   have hdp:YU 32 [t]=false:=by rw[qab 32 _ hsh];simp[YW];omega
   have hcE:qcO 32 [s]=i:=by unfold qcO;rw[if_neg (by rw[hdS];decide),hcS];omega
   have hcI:qcO i [t]=i:=by unfold qcO;rw[if_neg (by rw[hdp];decide),qgw i _ hsh (by simp[YW])];simp[YW];omega
   have hsI:qdp i [t] [t]=true:=by unfold qdp;rw[hdp,qcT i _ hsh hsh];rfl
   refine QJ ?_;change Awp _ _ _ _ _ _ _;refine awp_rseq [4] (by kernel_rfl) fun K hK=>?_;simp+decide only[qh,qi,qj,qo,ev,qZ,qY,putD,Vz,VA,VB,Ka,VC,VD,Kb,and_true,↓Qo,Qd,qnv,↓Qu,QM,Qi ag24,↓Qj,Qa,Qm,cond_false,Qh,ZE,↓qW,qU,↓Zj,agP,Xw,gv,QB,QD,QC,Qs,Qg,Qe,Zk,implies_true,VK,decide_true,decide_false,VL,VM,Qc,Qb,forall_const,false_implies,Qk,Qf,J4,VN,VO,VP,VQ,VS,VT,VU,Xb,Xc,Xa,decide_true,decide_false,VL,VM,Qc,Qb,forall_const,false_implies,Qk,Qf,J4,VN,VO,VP,VQ,VS,VT,VU,QI,cond_true,cond_false,qM,ne_eq,not_false_eq_true,qN,qJ,VE,setAt,VF,Kj,qC,VG,Kn,Jp,Nat.reduceAdd,qF,qG,qI,qf,qK,qa,qz,qd,qE,qc,qA,qg,qH,qy,allLive,J4,tokV,posV,faultV,nrv,hrl];repeat (with_reducible refine And.intro ?_ ?_;· first|trivial|omega|(intro hg;simp only[Ky,JH,Jh,VH,VI,VJ,decide_eq_true_eq,decide_eq_false_iff_not,qR]at hg;omega))
   refine Zf (by rfl) ?_;refine QN (by rfl) (by rfl) (qhJ w0 32 _ rv [s] (hv15.mono (by repeat (first|exact Vg _|assumption|refine Bq ?_ (V8 (by assumption))|refine Bq ?_ (by assumption)))) y1 (by omega)) fun x18q5 h18q5 hx18q5=>?_;obtain⟨rfl,hs18a⟩:=hx18q5;rw[hcE];have hs_h18q5:Sub h h18q5:=Bq zqC hs18a;have hr_h18q5:Sub h15q6 h18q5:=Bq zqC hs18a;have eb_15q10:=hs18a k15q10 _ zqA;simp+decide only[qh,qi,qj,qo,ev,qZ,qY,putD,Vz,VA,VB,Ka,VC,VD,Kb,and_true,↓Zj,qU,agP,Xw,gv,QB,QD,QC,Qs,Qg,Qe,Zk,implies_true,VK,decide_true,decide_false,VL,VM,Qc,Qb,forall_const,false_implies,Qk,Qf,J4,VN,VO,VP,VQ,VS,VT,VU,Xb,Xc,Xa,↓XT,Qa,Qz,cond_false,Zb,Za,Zd,Zc,Qh,ZE,↓XH,Xj,QO,QH,QG,QA,Xo,Xn,Xm,Xl,QZ,Xk,↓qW,decide_true,decide_false,VL,VM,Qc,Qb,forall_const,false_implies,Qk,Qf,J4,VN,VO,VP,VQ,VS,VT,VU,QI,cond_true,cond_false,qM,ne_eq,not_false_eq_true,qO w0 eb_15q10,qN,qJ,VE,setAt,VF,Kj,qC,VG,Kn,Jp,Nat.reduceAdd,qF,qG,qI,qf,qK,qa,qz,qd,qE,qc,qA,qg,qH,qy,allLive,J4,tokV,posV,faultV,nrv,hrl];repeat (with_reducible refine And.intro ?_ ?_;· first|trivial|omega|(intro hg;simp only[Ky,JH,Jh,VH,VI,VJ,decide_eq_true_eq,decide_eq_false_iff_not,qR]at hg;omega))
   refine Zf (by rfl) ?_;refine QN (by rfl) (by rfl) (qoS w0 hm ha i _ _ [t] (hok.mono (by repeat (first|exact Vg _|assumption|refine Bq ?_ (V8 (by assumption))|refine Bq ?_ (by assumption)))) (by omega) hw2 hsmL) fun x18q11 h18q11 hx18q11=>?_;obtain⟨⟨e18,rfl,he18⟩,hs18⟩:=hx18q11;rw[(qnC hsh (by omega) (by omega) he18).1];have hs_h18q11:Sub h h18q11:=Bq zqC hs18;have hr_h18q11:Sub h18q5 h18q11:=Bq zqC hs18;have eb_15q10:=hs18 k15q10 _ zqA;simp+decide only[qh,qi,qj,qo,ev,qZ,qY,putD,Vz,VA,VB,Ka,VC,VD,Kb,and_true,↓XT,Qa,agP,Xw,gv,QB,QD,QC,Qs,Qg,Qe,Zk,implies_true,VK,decide_true,decide_false,VL,VM,Qc,Qb,forall_const,false_implies,Qk,Qf,J4,VN,VO,VP,VQ,VS,VT,VU,Qm,cond_false,Zb,Za,Zd,Zc,Qh,ZE,Xb,Xc,Xa,↓XH,Xj,QO,QH,QG,QA,Xo,Xn,Xm,Xl,QZ,Xk,↓qW,qU,↓Zj,decide_true,decide_false,VL,VM,Qc,Qb,forall_const,false_implies,Qk,Qf,J4,VN,VO,VP,VQ,VS,VT,VU,QI,cond_true,cond_false,qM,ne_eq,not_false_eq_true,qO w0 eb_15q10,qN,qJ,VE,setAt,VF,Kj,qC,VG,Kn,Jp,Nat.reduceAdd,qF,qG,qI,qf,qK,qa,qz,qd,qE,qc,qA,qg,qH,qy,allLive,J4,tokV,posV,faultV,nrv,hrl];repeat (with_reducible refine And.intro ?_ ?_;· first|trivial|omega|(intro hg;simp only[Ky,JH,Jh,VH,VI,VJ,decide_eq_true_eq,decide_eq_false_iff_not,qR]at hg;omega))
   refine Zf (by rfl) ?_;refine QN (by rfl) (by rfl) (qhJ w0 i _ _ [t] (hst.mono (by repeat (first|exact Vg _|assumption|refine Bq ?_ (V8 (by assumption))|refine Bq ?_ (by assumption)))) z1 hcT) fun x18q16 h18q16 hx18q16=>?_;obtain⟨rfl,hs18c⟩:=hx18q16;rw[hcI];have hs_h18q16:Sub h h18q16:=Bq zqC hs18c;have hr_h18q16:Sub h18q11 h18q16:=Bq zqC hs18c;have eb_15q10:=hs18c k15q10 _ zqA;simp+decide only[qh,qi,qj,qo,ev,qZ,qY,putD,Vz,VA,VB,Ka,VC,VD,Kb,and_true,↓Zj,qU,agP,Xw,gv,QB,QD,QC,Qs,Qg,Qe,Zk,implies_true,VK,decide_true,decide_false,VL,VM,Qc,Qb,forall_const,false_implies,Qk,Qf,J4,VN,VO,VP,VQ,VS,VT,VU,Xb,Xc,Xa,↓XT,Qa,Qz,cond_false,Zb,Za,Zd,Zc,Qh,ZE,↓XH,Xj,QO,QH,QG,QA,Xo,Xn,Xm,Xl,QZ,Xk,↓qW,decide_true,decide_false,VL,VM,Qc,Qb,forall_const,false_implies,Qk,Qf,J4,VN,VO,VP,VQ,VS,VT,VU,QI,cond_true,cond_false,qM,ne_eq,not_false_eq_true,qO w0 eb_15q10,qN,qJ,VE,setAt,VF,Kj,qC,VG,Kn,Jp,Nat.reduceAdd,qF,qG,qI,qf,qK,qa,qz,qd,qE,qc,qA,qg,qH,qy,allLive,J4,tokV,posV,faultV,nrv,hrl];repeat (with_reducible refine And.intro ?_ ?_;· first|trivial|omega|(intro hg;simp only[Ky,JH,Jh,VH,VI,VJ,decide_eq_true_eq,decide_eq_false_iff_not,qR]at hg;omega))
   refine Zf (by rfl) ?_;refine QN (by rfl) (by rfl) (qnI w0 i i _ _ _ [t] [t] (hst.mono (by repeat (first|exact Vg _|assumption|refine Bq ?_ (V8 (by assumption))|refine Bq ?_ (by assumption)))) (hst.mono (by repeat (first|exact Vg _|assumption|refine Bq ?_ (V8 (by assumption))|refine Bq ?_ (by assumption)))) z1 z1) fun x18q23 h18q23 hx18q23=>?_;obtain⟨rfl,hs18d⟩:=hx18q23;rw[hsI];have hs_h18q23:Sub h h18q23:=Bq zqC hs18d;have hr_h18q23:Sub h18q16 h18q23:=Bq zqC hs18d;have eb_15q10:=hs18d k15q10 _ zqA;simp+decide only[qh,qi,qj,qo,ev,qZ,qY,putD,Vz,VA,VB,Ka,VC,VD,Kb,and_true,↓XH,Xj,QO,QH,QG,QA,Xo,Xn,Xm,Xl,QZ,Xk,↓qW,qU,decide_true,decide_false,VL,VM,Qc,Qb,forall_const,false_implies,Qk,Qf,J4,VN,VO,VP,VQ,VS,VT,VU,QI,cond_true,cond_false,qM,ne_eq,not_false_eq_true,qO w0 eb_15q10,qN,qJ,VE,setAt,VF,Kj,qC,VG,Kn,Jp,Nat.reduceAdd,qF,qG,qI,qf,qK,qa,qz,qd,qE,qc,qA,qg,qH,qy,allLive,J4,tokV,posV,faultV,nrv,hrl];repeat (with_reducible refine And.intro ?_ ?_;· first|trivial|omega|(intro hg;simp only[Ky,JH,Jh,VH,VI,VJ,decide_eq_true_eq,decide_eq_false_iff_not,qR]at hg;omega))
   refine Zf (by rfl) ?_;refine QN (by rfl) (by rfl) (qjP w0 hm ha _) fun x18q26 h18q26 hx18q26=>?_;obtain⟨rfl,hs18e⟩:=hx18q26;have hs_h18q26:Sub h h18q26:=Bq zqC hs18e;have hr_h18q26:Sub h18q23 h18q26:=Bq zqC hs18e;have eb_15q10:=hs18e k15q10 _ zqA;simp+decide only[qh,qi,qj,qo,ev,qZ,qY,putD,Vz,VA,VB,Ka,VC,VD,Kb,and_true,↓XH,Xj,QO,QH,QG,QA,Xo,Xn,Xm,Xl,QZ,Xk,↓qV,qP,decide_true,decide_false,VL,VM,Qc,Qb,forall_const,false_implies,Qk,Qf,J4,VN,VO,VP,VQ,VS,VT,VU,QI,cond_true,cond_false,qM,ne_eq,not_false_eq_true,qO w0 eb_15q10,qN,qJ,VE,setAt,VF,Kj,qC,VG,Kn,Jp,Nat.reduceAdd,qF,qG,qI,qf,qK,qa,qz,qd,qE,qc,qA,qg,qH,qy,allLive,J4,tokV,posV,faultV,nrv,hrl];repeat (with_reducible refine And.intro ?_ ?_;· first|trivial|omega|(intro hg;simp only[Ky,JH,Jh,VH,VI,VJ,decide_eq_true_eq,decide_eq_false_iff_not,qR]at hg;omega))
   apply hK;clear hK K;refine Xd ?_;try simp only[QF,Qn]
   refine XV h zqC (Qr (Qv)) ?_;simp+decide only[qh,qi,qj,qo,ev,qZ,qY,putD,Vz,VA,VB,Ka,VC,VD,Kb,and_true,QU,decide_true,decide_false,VL,VM,Qc,Qb,forall_const,false_implies,Qk,Qf,J4,VN,VO,VP,VQ,VS,VT,VU,QI,cond_true,cond_false,qM,ne_eq,not_false_eq_true,qO w0 eb_15q10,qN,qJ,VE,setAt,VF,Kj,qC,VG,Kn,Jp,Nat.reduceAdd,qF,qG,qI,qf,qK,qa,qz,qd,qE,qc,qA,qg,qH,qy,allLive,J4,tokV,posV,faultV];all_goals first|rfl|exact⟨rfl,rfl⟩|(simp+decide only[Ka, *];done)|(trace_state;fail)
end Go.Proofs.YtgiadjbiimkbiaaDoor
namespace Go.Proofs.YtgiadjbiimkbiaaDoor
open Go.AM
open Go.ChangeShapes Go.WideShapes Go.ChangeAt Go.RowKit
set_option maxRecDepth 100000
section
variable {H:Type} {enc:TypeId×Value->H} {W:World} {base:Nat} {v:Value} {x:DataW H×List MemPlace}
theorem u8_of{n:Int}(h:(Lit.int .u8 n).wf=true):∃b:UInt8,(b.toNat:Int)=n:=by
 have:=wf_u8 h;exact⟨UInt8.ofNat n.toNat,by rw[UInt8.toNat_ofNat'];omega⟩
theorem arg_u8{t:TypeId}(ht:Tryd.prog.underlying t=some (.int .u8))(h:∃fuel,DataW.trod enc Tryd.prog W 0 (fun _=>true) true fuel t v.cells.toList=some x)(hv:Value.okWide Tryd.prog W .any base t v):
 ∃b:UInt8,VR (fun _=>none) (.int .u8 b.toNat) v:=by
 obtain⟨fuel,hf⟩:=h;obtain⟨n,hcs,_,hw⟩:=DataW.trod_int ht hf;obtain⟨b,hb⟩:=u8_of hw;obtain⟨m,rfl⟩:=okWide_int ht hv;refine⟨b,?_⟩;simp[Value.cells]at hcs;simp only[VR,hb,hcs]
end
theorem returns_and_shaped{H:Type}{enc:TypeId×Value->H}{a:Assume}{C:Checked}{os:Os}{f:FuncId}{fn:Func}{s:ChangeSpec}{conds:List PathCond}{apart fresh handsOn again:Bool}{X:World->Array Value->Prop}
 (hX:∀(w w':World) (args:Array Value),w.heap=w'.heap->X w args->X w' args)
 (own:ownKnob C.prog.godebug=none) (started:os.Started) (noInit:C.prog.inits.idxOf? f=none) (hfn:C.prog.funcs[f]?=some fn)
 (witness:∃(w:World) (tape:Tape) (i:Input),w.os=os/\(w.forCall tape i).Shaped C.prog/\i.vars=[]/\Input.okWide C.prog (w.forCall tape i) .any w.heap.size f i/\
   ((s.pre enc C.prog fn conds apart (w.forCall tape i).memory i.args/\X (w.forCall tape i).memory i.args)/\sizedMet enc C.prog fn (OpenSpec.ofChange s) apart (w.forCall tape i).memory i.args)/\a.holds C.prog (lone (Frame.enter C.prog f i.args .normal) [] (w.forCall tape i)))
 (contract:∀(W:World) (base:Nat) (args:Array Value) (ds gs:List (DataW H)) (before:List MemPlace),W.ShapedOpen C.prog->
   (∀(j:Nat) t v,fn.params[j]?=some t->args[j]?=some v->Value.okWide C.prog W .any base t v)->
   DataW.Whole enc C.prog fn.params.toList s.vars apart W args.toList ds gs before->
   conds.all (PathCond.test C.prog ⟨fn.params.toList,ds,s.plain.varTypes C.prog,gs⟩)=true->
   (DataW.weightsEach C.prog (fn.params.toList++s.plain.varTypes C.prog) (ds++gs)).all (· <=reachBytes)=true->X W args->
   a.holds C.prog (lone (Frame.enter C.prog f args .normal) [] W)->
   Calls C.prog f args W fun e W'=>∃v,e= .returned v/\s.post enc C.prog fn apart fresh handsOn again W args v W'):
 ReturnsInHanded a C os f .any (fun w args=>(s.pre enc C.prog fn conds apart w args/\X w args)/\sizedMet enc C.prog fn (OpenSpec.ofChange s) apart w args) (s.post enc C.prog fn apart fresh handsOn again):=by
 refine returnsInHanded_of_calls own started noInit witness ?_;intro w tape i _ hsh _ hok hpre hholds;obtain⟨_,_,_,fn',hfn',_,_,_,_,hval⟩:=hok;have e:fn'=fn:=Option.some.inj (hfn'.symm.trans hfn);subst e;obtain⟨⟨⟨ds,gs,before,hw,hc⟩,hx⟩,hz⟩:=hpre;have hw':=DataW.Whole.of_heap (w':=w.forCall tape i) (by rfl) hw;refine(contract (w.forCall tape i) w.heap.size i.args ds gs before hsh hval hw' hc (hz.weights hw) (hX _ _ _ (by rfl) hx) hholds).mono fun e W' ⟨v,he,hp⟩=>?_;subst he;exact ChangeSpec.post_blind hp
theorem maxl_of{W:World}(h:W.ShapedOpen Tryd.prog):MaxL W:=
 cell_of_shapedOpen_int (t:=3) (zero:= #[.int .i64 0]) h (of_decide_eq_true (by kernel_rfl)) (by kernel_rfl) rfl (by kernel_rfl) (by kernel_rfl) Tryd.underlying3
theorem asp_of{W:World}{rest:List (String×DataW Unit)}(h:laidMet Tryd.prog (("strings.asciiSpace",Rows.laid_strings_asciiSpace)::rest) W):Asp W:=
 Lib.tabIs_of_head (g:=0) (by kernel_rfl) (by kernel_rfl) (show Tryd.prog.underlying 84=_ from Tryd.underlying84) Tryd.underlying5 (by kernel_rfl) (by kernel_rfl) h
end Go.Proofs.YtgiadjbiimkbiaaDoor
namespace Go.AM
open Go.ChangeShapes Go.WideShapes Go.ChangeAt Go.RowKit
section
variable {P:Program} {H:Type} {enc:TypeId×Value->H} {W:World} {α:Type}
end
end Go.AM
namespace Go.Proofs.YtgiadjbiimkbiaaDoor
open Go.AM
open Go.ChangeShapes Go.WideShapes Go.ChangeAt Go.RowKit
set_option maxRecDepth 100000
section
variable {H:Type} {enc:TypeId×Value->H} {W:World} {base:Nat} {v:Value} {x:DataW H×List MemPlace}
theorem wf_u64{n:Int}(h:(Lit.int .u64 n).wf=true):0<=n/\n<=18446744073709551615:=by
 have e1:IntKind.u64.min=0:=by decide
 have e2:IntKind.u64.max=18446744073709551615:=by decide
 simpa[Lit.wf,e1,e2]using h
theorem arg_u64{t:TypeId}(ht:Tryd.prog.underlying t=some (.int .u64))(h:∃fuel,DataW.trod enc Tryd.prog W 0 (fun _=>true) true fuel t v.cells.toList=some x)(hv:Value.okWide Tryd.prog W .any base t v):
 ∃n:Nat,VR (fun _=>none) (.int .u64 n) v/\n<18446744073709551616:=by
 obtain⟨fuel,hf⟩:=h;obtain⟨n,hcs,_,hw⟩:=DataW.trod_int ht hf;obtain⟨m,rfl⟩:=okWide_int ht hv;simp[Value.cells]at hcs;subst hcs;obtain⟨a,b⟩:=wf_u64 hw;refine⟨m.toNat,?_,by omega⟩;have e:((m.toNat:Nat):Int)=m:=by omega
 simp only[VR,e]
end
end Go.Proofs.YtgiadjbiimkbiaaDoor
