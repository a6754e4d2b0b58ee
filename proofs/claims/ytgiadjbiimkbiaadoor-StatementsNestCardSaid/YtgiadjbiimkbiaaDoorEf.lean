/-
  Texts of this proof, joined: SqE, SqB, SpE, SqF, SrB, SrF, SrG, SrH, SrA.
  Conditions: none.
-/
import Derived.Test.YtgiadjbiimkbiaaDoorEe
set_option linter.unusedSimpArgs false
set_option linter.unnecessarySimpa false
set_option linter.unusedVariables false
open List renaming mem_append->JS,drop_eq_getElem_cons->J9,map_cons->Ke,getD->Ko,length_append->Jb,contains_cons->VC,contains_nil->VD,set_cons_zero->VF,set_cons_succ->Kj,getD_cons_zero->VG,getD_cons_succ->Kn,mem_singleton->V4,length_map->Jn,getElem?_eq_getElem->JB,getElem_mem->Vr,mem_map_of_mem->Ec,length_singleton->JF,cons_append->Kh,nil_append->Jd,length_cons->KX,length_nil->JD,map_append->VZ,append_assoc->K9,drop_length->J8,filterMap_cons->Vt,filterMap_nil->Em,getElem?_cons_zero->Kz,getElem?_cons_succ->KM,all_eq_true->Jz,take_succ_cons->Ki,take_zero->Bj,drop_zero->Vk,map_nil->Vh,prefix_refl->En,prefix_append->Eo,foldl_cons->Ep,append_nil->JE,drop_drop->Eg,map_eq_append_iff->EC,drop_of_length_le->Bl
open Nat renaming le_of_ble_eq_true->Vy,zero_add->Jp,add_sub_cancel->Eh,zero_le->Jq,add_zero->K6,le_refl->KL,mul_one->V6,add_assoc->Kw
open Go.AM.Slots renaming put->Vz,get->VA,keep->VB
open Go.AM.AVal renaming cells->VE
open Bool renaming and_true->J4,and_eq_true->Ky,or_eq_true->JH,not_eq_true'->Jh,and_eq_false_iff->VH,or_eq_false_iff->VI,not_eq_false'->VJ,true_eq->VV,false_eq->VW,not_false->VL,not_true->VM,and_false->VN,true_and->VO,false_and->VP,or_true->VQ,or_false->VS,true_or->VT,false_or->VU,not_not->VK
open Go.AM.Sub renaming refl->Vg,none->Bh,set->V8,trans->Bq,set_both->Er
open Go.Stm.StC renaming phrases->Ei,bodies->Ej,verb->El
open Int renaming toNat_natCast->VX
open Go.AM.AHeap renaming set_none->V7,set_same->Vf,set_set->Bi,ne_some->BG
open Go.AM.IsL renaming own->V9
open Go.AM.Sep renaming lay->Eb
open Go.Stm.LoopR renaming tok->Es,impl->Ev,endS->Ew,implBad->Ey,body->EA,bodyBad->EB
open Go.Stm.BodyR renaming ok->Et,bad->Ez
open Go.Stm.StR renaming ok->Eu,bad->Ex
open Go.Stm.ParseR renaming sent->Ea
namespace Go.AM
theorem Sep.nest{ps qs:List AHeap}{H h:AHeap}(h1:Sep ps H)(h2:Sep (H::qs) h):Sep (ps++qs) h:=by
 obtain⟨d1,d2⟩:=List.pairwise_cons.1 h2.2;refine⟨fun p hp=>?_,List.pairwise_append.2 ⟨h1.2,d2,fun p hp q hq k=>?_⟩⟩
 ·rcases JS.1 hp with hp|hp
  ·exact(h1.1 p hp).trans (h2.1 _ List.mem_cons_self)
  ·exact h2.1 p (List.mem_cons_of_mem _ hp)
 ·rcases d1 q hq k with z|z
  ·exact .inl ((h1.1 p hp).none z)
  ·exact .inr z
end Go.AM
namespace Go.Stm
open Go.Col (Str)
open Go.Tok
def spP(p:PhrC):List Str:=(60::(p.words++[62]))::p.toks.map qat
def spB(m:Nat)(b:BodC):List Str:=(91::(b.1++[93]))::(b.2.1.map qat++ZR m b.2.2)
def spS(m:Nat)(s:StC):List Str:=(123::s.verb)::((s.phrases.map spP).flatten++(s.bodies.map (spB m)).flatten)++[[125]]
end Go.Stm
namespace Go.Proofs.YtgiadjbiimkbiaaDoor
open Go.AM
open Go.Proofs
open Go.Col (Str FaultC okF)
open Go.Tok (TokC)
open Go.Stm
open Go.RowKit (Below)
set_option maxRecDepth 100000
structure SpG where
 i:Nat
 A:List Str
 rv:AVal
 rp:AHeap
 H:AHeap
def TxS:Nat->List StC->Prop
 |0,_=>True
 |m+1,l=>∀s∈l,s.verb.length<=1000000/\(∀p∈s.phrases,p.words.length<=1000000/\Short p.toks)/\∀b∈s.bodies,b.1.length<=1000000/\Short b.2.1/\TxS m b.2.2
theorem qgL{α β γ:Type}{qs:List (α×β)}{f:α->List γ}{j:Nat}{d:α×β}(hj:j<qs.length):(((qs.drop j).map (·.1)).map f).flatten=f (qs.getD j d).1++(((qs.drop (j+1)).map (·.1)).map f).flatten:=by
 rw[J9 hj,Ke,Ke,List.flatten_cons];congr 2;simp[Ko,hj]
theorem qkt{R A B:List Str}(h:R=A++B)(hR:R.length<=1000000000000):A.length+B.length<=1000000000000:=by rw[h,Jb]at hR;exact hR
def qiU(w0:World)(m:Nat)(h:AHeap)(l:List StC):AVal->AHeap->Prop:=fun r h'=>∃p,GrowV 1 r p ((ZR m l).map strC)/\isG r=true/\Sep [h,p] h'
theorem qnG(w0:World)(h:AHeap)(v:AVal)(hv:IsL w0 h 5 v []):ACall Tryd.prog w0 23 [v] h (qiU w0 0 h []):=by
 have nL:∀H:AHeap,YZ Tryd.prog H 23 v=⟨True, .int .i64 0⟩:=fun H=>hv.len Tryd.underlying23 H;have hlv:=hv.live;refine Xf (n:=109) (rs:=[.tmp 2]) Tryd.func23 rfl rfl rfl rfl (Vy rfl) ?_;simp only[Xe];refine awp_rseq [0] (by rfl) fun K hK=>?_;simp+decide only[qh,qi,qj,qo,ev,qZ,qY,putD,Vz,VA,VB,Ka,VC,VD,Kb,and_true,↓qV,qP,qM,ne_eq,not_false_eq_true,qN,qJ,VE,setAt,VF,Kj,qC,VG,Kn,Jp,Nat.reduceAdd,qF,qG,qI,qf,qK,qa,qz,qd,qE,qc,qA,qg,qH,qy,allLive,J4,tokV,nL,hlv];repeat (with_reducible refine And.intro ?_ ?_;· first|trivial|omega|(intro hg;simp only[Ky,JH,Jh,VH,VI,VJ,decide_eq_true_eq,decide_eq_false_iff_not,qR]at hg;omega))
 apply hK;clear hK K;refine awp_rseq [0,3] (by rfl) fun K hK=>?_;simp+decide only[qh,qi,qj,qo,ev,qZ,qY,putD,Vz,VA,VB,Ka,VC,VD,Kb,and_true,↓qV,qP,qM,ne_eq,not_false_eq_true,qN,qJ,VE,setAt,VF,Kj,qC,VG,Kn,Jp,Nat.reduceAdd,qF,qG,qI,qf,qK,qa,qz,qd,qE,qc,qA,qg,qH,qy,allLive,J4,tokV,nL,hlv];repeat (with_reducible refine And.intro ?_ ?_;· first|trivial|omega|(intro hg;simp only[Ky,JH,Jh,VH,VI,VJ,decide_eq_true_eq,decide_eq_false_iff_not,qR]at hg;omega))
 apply hK;clear hK K;refine Qp ?_;refine awp_rseq [0,3,4] (by rfl) fun K hK=>?_;simp+decide only[qh,qi,qj,qo,ev,qZ,qY,putD,Vz,VA,VB,Ka,VC,VD,Kb,and_true,↓qV,qP,qM,ne_eq,not_false_eq_true,qN,qJ,VE,setAt,VF,Kj,qC,VG,Kn,Jp,Nat.reduceAdd,qF,qG,qI,qf,qK,qa,qz,qd,qE,qc,qA,qg,qH,qy,allLive,J4,tokV,nL,hlv];repeat (with_reducible refine And.intro ?_ ?_;· first|trivial|omega|(intro hg;simp only[Ky,JH,Jh,VH,VI,VJ,decide_eq_true_eq,decide_eq_false_iff_not,qR]at hg;omega))
 apply hK;clear hK K;refine QL ?_;refine XI [0,3,4] (fun z:Unit=>[(0,v),(3, .nilSlice),(4, .int .i64 0)]) (fun z:Unit=>h) (fun z:Unit=>True) (fun z:Unit=>0) () (by rfl) (Vg _) trivial ?_;intro z _;refine Qp ?_;refine awp_rseq [0,3,4,10] (by rfl) fun K hK=>?_;simp+decide only[qh,qi,qj,qo,ev,qZ,qY,putD,Vz,VA,VB,Ka,VC,VD,Kb,and_true,↓qW,qU,↓XG,Xh,QE Tryd.underlying23,QT Tryd.underlying23,↓Qj,Qa,Qz,cond_false,Qh,Zo,qM,ne_eq,not_false_eq_true,qN,qJ,VE,setAt,VF,Kj,qC,VG,Kn,Jp,Nat.reduceAdd,qF,qG,qI,qf,qK,qa,qz,qd,qE,qc,qA,qg,qH,qy,allLive,J4,tokV,nL,hlv];repeat (with_reducible refine And.intro ?_ ?_;· first|trivial|omega|(intro hg;simp only[Ky,JH,Jh,VH,VI,VJ,decide_eq_true_eq,decide_eq_false_iff_not,qR]at hg;omega))
 apply hK;clear hK K;refine Qw (b:=_) rfl (fun hb1=>?_) (fun hb1=>?_)
 ·cases hb1
 ·try simp only[decide_eq_true_eq,decide_eq_false_iff_not,Jh,VJ,Ky,VH,JH,VI,VV,VW,reduceCtorEq]at hb1
  refine XJ ?_;change Awp _ _ _ _ _ _ _;refine awp_rseq [2] (by rfl) fun K hK=>?_;simp+decide only[qh,qi,qj,qo,ev,qZ,qY,putD,Vz,VA,VB,Ka,VC,VD,Kb,and_true,↓qW,qU,↓qV,qP,qM,ne_eq,not_false_eq_true,qN,qJ,VE,setAt,VF,Kj,qC,VG,Kn,Jp,Nat.reduceAdd,qF,qG,qI,qf,qK,qa,qz,qd,qE,qc,qA,qg,qH,qy,allLive,J4,tokV,nL,hlv];repeat (with_reducible refine And.intro ?_ ?_;· first|trivial|omega|(intro hg;simp only[Ky,JH,Jh,VH,VI,VJ,decide_eq_true_eq,decide_eq_false_iff_not,qR]at hg;omega))
  apply hK;clear hK K;refine Xd ?_;try simp only[QF,Qn]
  refine XV h zqC (Qr (Qv)) ?_;simp+decide only[qh,qi,qj,qo,ev,qZ,qY,putD,Vz,VA,VB,Ka,VC,VD,Kb,and_true,QU,qM,ne_eq,not_false_eq_true,qN,qJ,VE,setAt,VF,Kj,qC,VG,Kn,Jp,Nat.reduceAdd,qF,qG,qI,qf,qK,qa,qz,qd,qE,qc,qA,qg,qH,qy,allLive,J4,tokV,nL,hlv];exact⟨emp, .nil,rfl,Sep.emp (ps:=[h]) ⟨fun p hp=>by rw[V4.1 hp];exact Vg _,by simp⟩⟩
set_option maxHeartbeats 16000000 in
theorem qnF(w0:World)(d:Nat)(h:AHeap)(v:AVal)(l:List StC)(hs:StsV w0 (d+1) h v l)(hsm:SmallS (d+1) l)(htx:TxS (d+1) l)(hT:(ZR (d+1) l).length<=1000000000000)
 (ih:∀(h':AHeap) (v:AVal) (l:List StC),StsV w0 d h' v l->SmallS d l->TxS d l->(ZR d l).length<=1000000000000->ACall Tryd.prog w0 23 [v] h' (qiU w0 d h' l)):
 ACall Tryd.prog w0 23 [v] h (qiU w0 (d+1) h l):=by
 obtain⟨qs,hqe,hqL,hels⟩:=qez hs hsm;rw[Eh]at hels;have nL:=qgu hqL;have hlv:=hqL.live;have hln:qs.length<=1000000:=by have:=hsm.len;rw[hqe,Jn]at this;exact this
 have hR:ZR (d+1) l=((qs.map (·.1)).map (spS d)).flatten:=by rw[<-hqe];rfl
 unfold qiU;obtain⟨R,hRR⟩:∃R,R=ZR (d+1) l:=⟨_,rfl⟩
 rw[<-hRR]at hR hT|-
 have hS0:Sep [h,emp] h:=Sep.emp (ps:=[h]) ⟨fun p hp=>by rw[V4.1 hp];exact Vg _,by simp⟩;refine Xf (n:=109) (rs:=[.tmp 2]) Tryd.func23 rfl rfl rfl rfl (Vy rfl) ?_;simp only[Xe];refine awp_rseq [0] (by rfl) fun K hK=>?_;simp+decide only[qh,qi,qj,qo,ev,qZ,qY,putD,Vz,VA,VB,Ka,VC,VD,Kb,and_true,↓qV,qP,qM,ne_eq,not_false_eq_true,qN,qJ,VE,setAt,VF,Kj,qC,VG,Kn,Jp,Nat.reduceAdd,qF,qG,qI,qf,qK,qa,qz,qd,qE,qc,qA,qg,qH,qy,allLive,J4,tokV,nL,hlv];repeat (with_reducible refine And.intro ?_ ?_;· first|trivial|omega|(intro hg;simp only[Ky,JH,Jh,VH,VI,VJ,decide_eq_true_eq,decide_eq_false_iff_not,qR]at hg;omega))
 apply hK;clear hK K;refine awp_rseq [0,3] (by rfl) fun K hK=>?_;simp+decide only[qh,qi,qj,qo,ev,qZ,qY,putD,Vz,VA,VB,Ka,VC,VD,Kb,and_true,↓qV,qP,qM,ne_eq,not_false_eq_true,qN,qJ,VE,setAt,VF,Kj,qC,VG,Kn,Jp,Nat.reduceAdd,qF,qG,qI,qf,qK,qa,qz,qd,qE,qc,qA,qg,qH,qy,allLive,J4,tokV,nL,hlv];repeat (with_reducible refine And.intro ?_ ?_;· first|trivial|omega|(intro hg;simp only[Ky,JH,Jh,VH,VI,VJ,decide_eq_true_eq,decide_eq_false_iff_not,qR]at hg;omega))
 apply hK;clear hK K;refine Qp ?_;refine awp_rseq [0,3,4] (by rfl) fun K hK=>?_;simp+decide only[qh,qi,qj,qo,ev,qZ,qY,putD,Vz,VA,VB,Ka,VC,VD,Kb,and_true,↓qV,qP,qM,ne_eq,not_false_eq_true,qN,qJ,VE,setAt,VF,Kj,qC,VG,Kn,Jp,Nat.reduceAdd,qF,qG,qI,qf,qK,qa,qz,qd,qE,qc,qA,qg,qH,qy,allLive,J4,tokV,nL,hlv];repeat (with_reducible refine And.intro ?_ ?_;· first|trivial|omega|(intro hg;simp only[Ky,JH,Jh,VH,VI,VJ,decide_eq_true_eq,decide_eq_false_iff_not,qR]at hg;omega))
 apply hK;clear hK K;refine QL ?_;refine XI [0,3,4] (fun g:SpG=>[(0,v),(3,g.rv),(4, .int .i64 g.i)]) (fun g:SpG=>g.H) (fun g:SpG=>g.i<=qs.length/\Sep [h,g.rp] g.H/\GrowV 1 g.rv g.rp (g.A.map strC)/\isG g.rv=true/\R=g.A++(((qs.drop g.i).map (·.1)).map (spS d)).flatten) (fun g:SpG=>qs.length-g.i) ⟨0,[], .nilSlice,emp,h⟩ (by rfl) (Vg _) ⟨Jq _,hS0, .nil,rfl,hR⟩ ?_;rintro⟨i,A,rv,rp,H⟩ ⟨hi,hS,hrow,hG,hg⟩;simp only at hi hS hrow hG hg|-
 have hs_H:Sub h H:=hS.in_ (i:=0) rfl;have hrl:=hrow.live;refine Qp ?_;refine awp_rseq [0,3,4,10] (by rfl) fun K hK=>?_;simp+decide only[qh,qi,qj,qo,ev,qZ,qY,putD,Vz,VA,VB,Ka,VC,VD,Kb,and_true,↓qW,qU,↓XG,Xh,QE Tryd.underlying23,QT Tryd.underlying23,↓Qj,Qa,Qz,cond_false,Qh,Zo,qM,ne_eq,not_false_eq_true,qN,qJ,VE,setAt,VF,Kj,qC,VG,Kn,Jp,Nat.reduceAdd,qF,qG,qI,qf,qK,qa,qz,qd,qE,qc,qA,qg,qH,qy,allLive,J4,tokV,nL,hlv];repeat (with_reducible refine And.intro ?_ ?_;· first|trivial|omega|(intro hg;simp only[Ky,JH,Jh,VH,VI,VJ,decide_eq_true_eq,decide_eq_false_iff_not,qR]at hg;omega))
 apply hK;clear hK K;refine Qw (b:=_) rfl (fun hb1=>?_) (fun hb1=>?_)
 ·try simp only[decide_eq_true_eq,decide_eq_false_iff_not,Jh,VJ,Ky,VH,JH,VI,VV,VW,reduceCtorEq]at hb1
  have hi':i<qs.length:=by omega
  obtain⟨q,hqj⟩:∃q,q=qs.getD i qdR:=⟨_,rfl⟩
  have hqm:q∈qs:=by rw[hqj,Ko,JB hi'];exact Vr hi'
  obtain⟨lc,o,cc,hpe⟩:=qeA hqL (by omega);have hq2:=hqL.mono hs_H;rw[hpe]at hq2;obtain⟨e0,e1,e2,e3,e4⟩:=qdW hq2 hi';rw[<-hqj]at e0 e1 e2 e3 e4;obtain⟨hph,hbd,hbn,hpn,hpt,hbb⟩:=hels q hqm;obtain⟨hx1,hx2,hx3⟩:=htx q.1 (by rw[hqe];exact Ec (f:=(·.1)) hqm);have hst:=qgL (f:=spS d) (d:=qdR) hi';rw[<-hqj]at hst;rw[hst]at hg;have hpl:=hph.live;have hbl:=hbd.live;obtain⟨pl,hplq,hpq,hpt2⟩:=id hph;obtain⟨ql,hql,hqb,hqq⟩:=id hbd;have np:=qie hpq;have nb:=qdJ hqb;have hbn2:ql.length<=1000000:=by rw[hql,Jn]at hbn;exact hbn
  have hpn2:pl.length<=1000000:=by rw[hplq,Jn]at hpn;exact hpn
  obtain⟨qs1,qp,qb⟩:=q;obtain⟨vb,sln,scl,sph,sbd⟩:=qs1;simp only[Ei,Ej,El]at e0 e1 e2 e3 e4 hpl hbl hg np nb hpq hqb hql hplq hbb hpt hpt2 hqq hx1 hx2 hx3;obtain⟨X,hX⟩:∃X,X=(((qs.drop (i+1)).map (·.1)).map (spS d)).flatten:=⟨_,rfl⟩
  rw[<-hX]at hg;have hg5:R=(A++[123::vb])++((sph.map spP).flatten++((sbd.map (spB d)).flatten++([125]::X))):=by rw[hg];simp[spS,El,Ei,Ej]
  have hA5:=qkt hg5 hT;rw[Jb,JF]at hA5;have hwi:IntKind.i64.wrap ((i:Int)+1)=((i+1:Nat):Int):=by rw[wrap_i64 (by omega) (by omega)];omega
  refine QJ ?_;change Awp _ _ _ _ _ _ _;refine Qp ?_;refine QL ?_;refine awp_rseq [0,3,4] (by rfl) fun K hK=>?_;simp+decide only[qh,qi,qj,qo,ev,qZ,qY,putD,Vz,VA,VB,Ka,VC,VD,Kb,and_true,↓qW,qU,↓QV,QM,Ql Tryd.underlying23 WJ,↓Qo,Qd,qcp,↓Qu,Qi ag9,↓Qj,Qa,Qz,cond_false,XC,qci,qM,ne_eq,not_false_eq_true,qN,qJ,VE,setAt,VF,Kj,qC,VG,Kn,Jp,Nat.reduceAdd,qF,qG,qI,qf,qK,qa,qz,qd,qE,qc,qA,qg,qH,qy,allLive,J4,tokV,nL,hlv,hpe,e0,VX,K6,Kh,Jd,KX,Jb,JD,hrl];repeat (with_reducible refine And.intro ?_ ?_;· first|trivial|omega|(intro hg;simp only[Ky,JH,Jh,VH,VI,VJ,decide_eq_true_eq,decide_eq_false_iff_not,qR]at hg;omega))
  refine QS (cs:=[.str (List.cons 123 vb)]) (by kernel_rfl) fun k5q7 hk5q7=>?_;have hn_5q7:H k5q7=none:=by first|assumption|(simp only[V7]at hk5q7;simp only[hk5q7])
  have hf_5q7:h k5q7=none:=Bh hs_H hn_5q7;refine Ya (es:=1) (v:=rv) (p:=rp) (xs:=A.map strC) (ys:=[strC (123::vb)]) (i:=1) (by rfl) (by rfl) Tryd.underlying22 Tryd.underlying22 (fun k e=>by cases e) sz9 by9 ze9 (by rfl) (by decide) (by rfl) hrow hG rfl (hS.forget (V8 hk5q7)) (by rfl) (V9 (Vf _ _ _) (fun x hx=>by rw[V4.1 hx];rfl) (by rfl) (by rfl) (.exact 1) (KL _)) (by rfl) (by simp only[Jn,JF];omega) (by simp only[Jn,JF];omega) fun rv5 rp5 h5 hrow5 hG5 hS5=>?_;have hrow5:GrowV 1 rv5 rp5 ((A++[123::vb]).map strC):=by rw[VZ];exact hrow5
  simp+decide only[qh,qi,qj,qo,ev,qZ,qY,putD,Vz,VA,VB,Ka,VC,VD,Kb,and_true,↓qV,qP,qM,ne_eq,not_false_eq_true,qN,qJ,VE,setAt,VF,Kj,qC,VG,Kn,Jp,Nat.reduceAdd,qF,qG,qI,qf,qK,qa,qz,qd,qE,qc,qA,qg,qH,qy,allLive,J4,tokV,nL,hlv,hpe,e0,VX,K6,Kh,Jd,KX,Jb,JD,hrl];repeat (with_reducible refine And.intro ?_ ?_;· first|trivial|omega|(intro hg;simp only[Ky,JH,Jh,VH,VI,VJ,decide_eq_true_eq,decide_eq_false_iff_not,qR]at hg;omega))
  apply hK;clear hK K;refine Qp ?_;refine awp_rseq [0,3,4,5] (by rfl) fun K hK=>?_;simp+decide only[qh,qi,qj,qo,ev,qZ,qY,putD,Vz,VA,VB,Ka,VC,VD,Kb,and_true,↓qV,qP,qM,ne_eq,not_false_eq_true,qN,qJ,VE,setAt,VF,Kj,qC,VG,Kn,Jp,Nat.reduceAdd,qF,qG,qI,qf,qK,qa,qz,qd,qE,qc,qA,qg,qH,qy,allLive,J4,tokV,nL,hlv];repeat (with_reducible refine And.intro ?_ ?_;· first|trivial|omega|(intro hg;simp only[Ky,JH,Jh,VH,VI,VJ,decide_eq_true_eq,decide_eq_false_iff_not,qR]at hg;omega))
  apply hK;clear hK K;refine QL ?_;refine XI [0,3,4,5] (fun g:SpG=>[(0,v),(3,g.rv),(4, .int .i64 i),(5, .int .i64 g.i)]) (fun g:SpG=>g.H) (fun g:SpG=>g.i<=pl.length/\Sep [h,g.rp] g.H/\GrowV 1 g.rv g.rp (g.A.map strC)/\isG g.rv=true/\R=g.A++((((pl.drop g.i).map (·.1)).map spP).flatten++((sbd.map (spB d)).flatten++([125]::X)))) (fun g:SpG=>pl.length-g.i) ⟨0,A++[123::vb],rv5,rp5,h5⟩ (by first|rfl|(rw[hpe];rfl)) (Vg _) ⟨Jq _,hS5,hrow5,hG5,by rw[hg5,hplq];rfl⟩ ?_;rintro⟨a,A2,rv,rp,H⟩ ⟨ha,hS,hrow,hG,hg⟩;simp only at ha hS hrow hG hg|-
  have hs_H:Sub h H:=hS.in_ (i:=0) rfl;have hrl:=hrow.live;have hq2:=hqL.mono hs_H;rw[hpe]at hq2;obtain⟨e0,e1,e2,e3,e4⟩:=qdW hq2 hi';rw[<-hqj]at e0 e1 e2 e3 e4;simp only[El]at e0 e1 e2 e3 e4;refine Qp ?_;refine awp_rseq [0,3,4,5,29] (by rfl) fun K hK=>?_;simp+decide only[qh,qi,qj,qo,ev,qZ,qY,putD,Vz,VA,VB,Ka,VC,VD,Kb,and_true,↓qW,qU,↓QV,QM,Ql Tryd.underlying23 WJ,↓Qo,Qd,UJ,↓Qu,Qi qfv,↓XG,Xh,QE Tryd.underlying45,QT Tryd.underlying45,↓Qj,Qa,Qz,cond_false,Qh,Zo,qM,ne_eq,not_false_eq_true,qN,qJ,VE,setAt,VF,Kj,qC,VG,Kn,Jp,Nat.reduceAdd,qF,qG,qI,qf,qK,qa,qz,qd,qE,qc,qA,qg,qH,qy,allLive,J4,tokV,nL,hlv,hpe,e3,np,hpl,VX,K6];repeat (with_reducible refine And.intro ?_ ?_;· first|trivial|omega|(intro hg;simp only[Ky,JH,Jh,VH,VI,VJ,decide_eq_true_eq,decide_eq_false_iff_not,qR]at hg;omega))
  apply hK;clear hK K;refine Qw (b:=_) rfl (fun hb2=>?_) (fun hb2=>?_)
  ·try simp only[decide_eq_true_eq,decide_eq_false_iff_not,Jh,VJ,Ky,VH,JH,VI,VV,VW,reduceCtorEq]at hb2
   have ha':a<pl.length:=by omega
   obtain⟨p,hpj⟩:∃p,p=pl.getD a qeV:=⟨_,rfl⟩
   have hpm:p∈pl:=by rw[hpj,Ko,JB ha'];exact Vr ha'
   obtain⟨lb,ob,cb,hpb⟩:=qdw hpq (by omega);have hp2:=hpq.mono hs_H;rw[hpb]at hp2;obtain⟨f0,f1⟩:=qfF hp2 ha';rw[<-hpj]at f0 f1;have htk:=hpt2 p hpm;have htl:=htk.live;obtain⟨hy1,hy2⟩:=hx2 p.1 (by rw[hplq];exact Ec (f:=(·.1)) hpm);have htn:p.1.toks.length<=1000000:=hpt _ (by rw[hplq];exact Ec (f:=(·.1)) hpm);have hst2:=qgL (f:=spP) (d:=qeV) ha';rw[<-hpj]at hst2;rw[hst2]at hg;obtain⟨⟨pw,pt⟩,pv⟩:=p;simp only[spP]at f0 f1 htk htl htn hg hy1 hy2;have hg9:R=(A2++[60::(pw++[62])])++(pt.map qat++((((pl.drop (a+1)).map (·.1)).map spP).flatten++((sbd.map (spB d)).flatten++([125]::X)))):=by rw[hg];simp
   have hA9:=qkt hg9 hT;rw[Jb,JF,Jb,Jn]at hA9;have hwa:IntKind.i64.wrap ((a:Int)+1)=((a+1:Nat):Int):=by rw[wrap_i64 (by omega) (by omega)];omega
   refine QJ ?_;change Awp _ _ _ _ _ _ _;refine Qp ?_;refine QL ?_;refine awp_rseq [0,3,4,5] (by rfl) fun K hK=>?_;simp+decide only[qh,qi,qj,qo,ev,qZ,qY,putD,Vz,VA,VB,Ka,VC,VD,Kb,and_true,↓qW,qU,↓QV,QM,Ql Tryd.underlying23 WJ,↓Qo,Qd,UJ,↓Qu,Qi qfv,Ql Tryd.underlying45 qbn,qkB,Qi ag9,↓Qj,Qa,Qz,cond_false,XC,qci,XK,qM,ne_eq,not_false_eq_true,qN,qJ,VE,setAt,VF,Kj,qC,VG,Kn,Jp,Nat.reduceAdd,qF,qG,qI,qf,qK,qa,qz,qd,qE,qc,qA,qg,qH,qy,allLive,J4,tokV,nL,hlv,hpe,e3,hpb,f0,hpl,VX,K6,Kh,Jd,KX,Jb,JD,hrl];repeat (with_reducible refine And.intro ?_ ?_;· first|trivial|omega|(intro hg;simp only[Ky,JH,Jh,VH,VI,VJ,decide_eq_true_eq,decide_eq_false_iff_not,qR]at hg;omega))
   refine QS (cs:=[.str (List.cons 60 (pw++[62]))]) (by kernel_rfl) fun k9q12 hk9q12=>?_;have hn_9q12:H k9q12=none:=by first|assumption|(simp only[V7]at hk9q12;simp only[hk9q12])
   have hf_9q12:h k9q12=none:=Bh hs_H hn_9q12;refine Ya (es:=1) (v:=rv) (p:=rp) (xs:=A2.map strC) (ys:=[strC (60::(pw++[62]))]) (i:=1) (by rfl) (by rfl) Tryd.underlying22 Tryd.underlying22 (fun k e=>by cases e) sz9 by9 ze9 (by rfl) (by decide) (by rfl) hrow hG rfl (hS.forget (V8 hk9q12)) (by rfl) (V9 (Vf _ _ _) (fun x hx=>by rw[V4.1 hx];rfl) (by rfl) (by rfl) (.exact 1) (KL _)) (by rfl) (by simp only[Jn,JF];omega) (by simp only[Jn,JF];omega) fun rv9 rp9 h9 hrow9 hG9 hS9=>?_;have hrow9:GrowV 1 rv9 rp9 ((A2++[60::(pw++[62])]).map strC):=by rw[VZ];exact hrow9
   simp+decide only[qh,qi,qj,qo,ev,qZ,qY,putD,Vz,VA,VB,Ka,VC,VD,Kb,and_true,↓qV,qP,qM,ne_eq,not_false_eq_true,qN,qJ,VE,setAt,VF,Kj,qC,VG,Kn,Jp,Nat.reduceAdd,qF,qG,qI,qf,qK,qa,qz,qd,qE,qc,qA,qg,qH,qy,allLive,J4,tokV,nL,hlv,hpe,e3,hpb,f0,hpl,VX,K6,Kh,Jd,KX,Jb,JD,hrl];repeat (with_reducible refine And.intro ?_ ?_;· first|trivial|omega|(intro hg;simp only[Ky,JH,Jh,VH,VI,VJ,decide_eq_true_eq,decide_eq_false_iff_not,qR]at hg;omega))
   apply hK;clear hK K;have hrl9:=hrow9.live;have hs_h9:Sub h h9:=hS9.in_ (i:=0) rfl;have hq9:=hqL.mono hs_h9;rw[hpe]at hq9;have e3':=(qdW hq9 hi').2.2.2.1;rw[<-hqj]at e3';have hp9:=hpq.mono hs_h9;rw[hpb]at hp9;have f1':=(qfF hp9 ha').2;rw[<-hpj]at f1';simp only at e3' f1';refine XZ [0,3,4,5] (by rfl) ?_;simp+decide only[qh,qi,qj,qo,ev,qZ,qY,putD,Vz,VA,VB,Ka,VC,VD,Kb,and_true,↓qW,qU,↓QV,QM,Ql Tryd.underlying23 WJ,↓Qo,Qd,UJ,↓Qu,Qi qfv,Ql Tryd.underlying45 qbn,qcJ,Qi qbR,qM,ne_eq,not_false_eq_true,qN,qJ,VE,setAt,VF,Kj,qC,VG,Kn,Jp,Nat.reduceAdd,qF,qG,qI,qf,qK,qa,qz,qd,qE,qc,qA,qg,qH,qy,allLive,J4,tokV,nL,hlv,hpe,e3',hpb,f1',hpl,htl,VX,K6,hrl9];repeat (with_reducible refine And.intro ?_ ?_;· first|trivial|omega|(intro hg;simp only[Ky,JH,Jh,VH,VI,VJ,decide_eq_true_eq,decide_eq_false_iff_not,qR]at hg;omega))
   refine QN (by rfl) (by rfl) (qoL w0 _ pv pt (htk.mono hs_h9) htn hy2) fun x10q10 h10q10 hx10q10=>?_;obtain⟨pp,hrowP,hGP,hSP⟩:=hx10q10;have hSA:=Sep.nest hS9 hSP;try simp only[Kj,VF,Kh,Jd]at hSA
   refine Ya (es:=1) (v:=rv9) (p:=rp9) (xs:=(A2++[60::(pw++[62])]).map strC) (ys:=(pt.map qat).map strC) (i:=1) (by rfl) (by rfl) Tryd.underlying22 Tryd.underlying22 (fun k e=>by cases e) sz9 by9 ze9 (by rfl) (by decide) (by rfl) hrow9 hG9 rfl hSA (by rfl) (hrowP.isL (hSA.in_ (i:=2) rfl)) (qgt _) (by simp only[Jn,Jb,JF];omega) (by simp only[Jn,Jb,JF];omega) fun rv10 rp10 h10 hrow10 hG10 hS10=>?_;rw[<-VZ]at hrow10;simp+decide only[qh,qi,qj,qo,ev,qZ,qY,putD,Vz,VA,VB,Ka,VC,VD,Kb,and_true,↓qV,qP,qM,ne_eq,not_false_eq_true,qN,qJ,VE,setAt,VF,Kj,qC,VG,Kn,Jp,Nat.reduceAdd,qF,qG,qI,qf,qK,qa,qz,qd,qE,qc,qA,qg,qH,qy,allLive,J4,tokV,nL,hlv,hpe,e3',hpb,f1',hpl,htl,VX,K6,hrl9];repeat (with_reducible refine And.intro ?_ ?_;· first|trivial|omega|(intro hg;simp only[Ky,JH,Jh,VH,VI,VJ,decide_eq_true_eq,decide_eq_false_iff_not,qR]at hg;omega))
   change Awp _ _ _ _ _ _ _;refine XZ [0,3,4,5] (by rfl) ?_;simp+decide only[qh,qi,qj,qo,ev,qZ,qY,putD,Vz,VA,VB,Ka,VC,VD,Kb,and_true,↓qW,qU,↓Qj,Qa,Qm,cond_false,Qh,XM,↓qV,qP,qM,ne_eq,not_false_eq_true,qN,qJ,VE,setAt,VF,Kj,qC,VG,Kn,Jp,Nat.reduceAdd,qF,qG,qI,qf,qK,qa,qz,qd,qE,qc,qA,qg,qH,qy,allLive,J4,tokV,nL,hlv,hwa];try simp(disch:=omega)only[wrap_i64,wrap_u8]
   repeat (with_reducible refine And.intro ?_ ?_;· first|trivial|omega|(intro hg;simp only[Ky,JH,Jh,VH,VI,VJ,decide_eq_true_eq,decide_eq_false_iff_not,qR]at hg;omega))
   try simp only[QK,Qt]
   exact⟨⟨a+1,A2++[60::(pw++[62])]++pt.map qat,rv10,rp10,h10⟩,by first|rfl|(rw[hpe];rfl),Vg _,⟨ha',hS10.sub (by simp),hrow10,hG10,by simp only;rw[hg9,K9,K9];simp⟩,by simp only;omega⟩
  ·try simp only[decide_eq_true_eq,decide_eq_false_iff_not,Jh,VJ,Ky,VH,JH,VI,VV,VW,reduceCtorEq]at hb2
   have haq:a=pl.length:=by omega
   rw[haq,J8]at hg;have hg11:R=A2++((((ql.drop 0).map (·.1)).map (spB d)).flatten++([125]::X)):=by rw[hg,hql];rfl
   refine XJ ?_;change Awp _ _ _ _ _ _ _;refine Qp ?_;refine awp_rseq [0,3,4,6] (by rfl) fun K hK=>?_;simp+decide only[qh,qi,qj,qo,ev,qZ,qY,putD,Vz,VA,VB,Ka,VC,VD,Kb,and_true,↓qV,qP,qM,ne_eq,not_false_eq_true,qN,qJ,VE,setAt,VF,Kj,qC,VG,Kn,Jp,Nat.reduceAdd,qF,qG,qI,qf,qK,qa,qz,qd,qE,qc,qA,qg,qH,qy,allLive,J4,tokV,nL,hlv];repeat (with_reducible refine And.intro ?_ ?_;· first|trivial|omega|(intro hg;simp only[Ky,JH,Jh,VH,VI,VJ,decide_eq_true_eq,decide_eq_false_iff_not,qR]at hg;omega))
   apply hK;clear hK K;refine QL ?_;refine XI [0,3,4,6] (fun g:SpG=>[(0,v),(3,g.rv),(4, .int .i64 i),(6, .int .i64 g.i)]) (fun g:SpG=>g.H) (fun g:SpG=>g.i<=ql.length/\Sep [h,g.rp] g.H/\GrowV 1 g.rv g.rp (g.A.map strC)/\isG g.rv=true/\R=g.A++((((ql.drop g.i).map (·.1)).map (spB d)).flatten++([125]::X))) (fun g:SpG=>ql.length-g.i) ⟨0,A2,rv,rp,H⟩ (by first|rfl|(rw[hpe];rfl)) (Vg _) ⟨Jq _,hS,hrow,hG,hg11⟩ ?_;rintro⟨a,A3,rv,rp,H⟩ ⟨ha,hS,hrow,hG,hg⟩;simp only at ha hS hrow hG hg|-
   have hs_H:Sub h H:=hS.in_ (i:=0) rfl;have hrl:=hrow.live;have hq2:=hqL.mono hs_H;rw[hpe]at hq2;obtain⟨e0,e1,e2,e3,e4⟩:=qdW hq2 hi';rw[<-hqj]at e0 e1 e2 e3 e4;simp only[El]at e0 e1 e2 e3 e4;refine Qp ?_;refine awp_rseq [0,3,4,6,65] (by rfl) fun K hK=>?_;simp+decide only[qh,qi,qj,qo,ev,qZ,qY,putD,Vz,VA,VB,Ka,VC,VD,Kb,and_true,↓qW,qU,↓QV,QM,Ql Tryd.underlying23 WJ,↓Qo,Qd,WG,↓Qu,Qi qdL,↓XG,Xh,QE Tryd.underlying46,QT Tryd.underlying46,↓Qj,Qa,Qz,cond_false,Qh,Zo,qM,ne_eq,not_false_eq_true,qN,qJ,VE,setAt,VF,Kj,qC,VG,Kn,Jp,Nat.reduceAdd,qF,qG,qI,qf,qK,qa,qz,qd,qE,qc,qA,qg,qH,qy,allLive,J4,tokV,nL,hlv,hpe,e4,nb,hbl,VX,K6];repeat (with_reducible refine And.intro ?_ ?_;· first|trivial|omega|(intro hg;simp only[Ky,JH,Jh,VH,VI,VJ,decide_eq_true_eq,decide_eq_false_iff_not,qR]at hg;omega))
   apply hK;clear hK K;refine Qw (b:=_) rfl (fun hb3=>?_) (fun hb3=>?_)
   ·try simp only[decide_eq_true_eq,decide_eq_false_iff_not,Jh,VJ,Ky,VH,JH,VI,VV,VW,reduceCtorEq]at hb3
    have ha':a<ql.length:=by omega
    obtain⟨b,hbj⟩:∃b,b=ql.getD a qdc:=⟨_,rfl⟩
    have hbm:b∈ql:=by rw[hbj,Ko,JB ha'];exact Vr ha'
    obtain⟨lb,ob,cb,hpb⟩:=qbO hqb (by omega);have hb2:=hqb.mono hs_H;rw[hpb]at hb2;obtain⟨f0,f1,f2⟩:=qer hb2 ha';rw[<-hbj]at f0 f1 f2;obtain⟨hbt,hbs⟩:=hqq b hbm;obtain⟨hbtn,hsb⟩:=hbb b.1 (by rw[hql];exact Ec (f:=(·.1)) hbm);obtain⟨hy1,hy2,hy3⟩:=hx3 b.1 (by rw[hql];exact Ec (f:=(·.1)) hbm);have htl:=hbt.live;obtain⟨hll,hls,hlc⟩:=hbs.shape;have hst2:=qgL (f:=spB d) (d:=qdc) ha';rw[<-hbj]at hst2;rw[hst2]at hg;obtain⟨⟨bw,bt,bL⟩,btv,blv⟩:=b;simp only[spB]at f0 f1 f2 hbt hbs hsb hbtn htl hll hg hy1 hy2 hy3;obtain⟨Y,hY⟩:∃Y,Y=(((ql.drop (a+1)).map (·.1)).map (spB d)).flatten:=⟨_,rfl⟩
    rw[<-hY]at hg;have hg14:R=(A3++[91::(bw++[93])])++(bt.map qat++(ZR d bL++(Y++([125]::X)))):=by rw[hg];simp
    have hA14:=qkt hg14 hT;rw[Jb,JF,Jb,Jn,Jb]at hA14;have hwa:IntKind.i64.wrap ((a:Int)+1)=((a+1:Nat):Int):=by rw[wrap_i64 (by omega) (by omega)];omega
    refine QJ ?_;change Awp _ _ _ _ _ _ _;refine Qp ?_;refine QL ?_;refine awp_rseq [0,3,4,6] (by rfl) fun K hK=>?_;simp+decide only[qh,qi,qj,qo,ev,qZ,qY,putD,Vz,VA,VB,Ka,VC,VD,Kb,and_true,↓qW,qU,↓QV,QM,Ql Tryd.underlying23 WJ,↓Qo,Qd,WG,↓Qu,Qi qdL,Ql Tryd.underlying46 UW,qgP,Qi ag9,↓Qj,Qa,Qz,cond_false,XC,qci,XK,qM,ne_eq,not_false_eq_true,qN,qJ,VE,setAt,VF,Kj,qC,VG,Kn,Jp,Nat.reduceAdd,qF,qG,qI,qf,qK,qa,qz,qd,qE,qc,qA,qg,qH,qy,allLive,J4,tokV,nL,hlv,hpe,e4,hpb,f0,hbl,VX,K6,Kh,Jd,KX,Jb,JD,hrl];repeat (with_reducible refine And.intro ?_ ?_;· first|trivial|omega|(intro hg;simp only[Ky,JH,Jh,VH,VI,VJ,decide_eq_true_eq,decide_eq_false_iff_not,qR]at hg;omega))
    refine QS (cs:=[.str (List.cons 91 (bw++[93]))]) (by kernel_rfl) fun k14q12 hk14q12=>?_;have hn_14q12:H k14q12=none:=by first|assumption|(simp only[V7]at hk14q12;simp only[hk14q12])
    have hf_14q12:h k14q12=none:=Bh hs_H hn_14q12;refine Ya (es:=1) (v:=rv) (p:=rp) (xs:=A3.map strC) (ys:=[strC (91::(bw++[93]))]) (i:=1) (by rfl) (by rfl) Tryd.underlying22 Tryd.underlying22 (fun k e=>by cases e) sz9 by9 ze9 (by rfl) (by decide) (by rfl) hrow hG rfl (hS.forget (V8 hk14q12)) (by rfl) (V9 (Vf _ _ _) (fun x hx=>by rw[V4.1 hx];rfl) (by rfl) (by rfl) (.exact 1) (KL _)) (by rfl) (by simp only[Jn,JF];omega) (by simp only[Jn,JF];omega) fun rv9 rp9 h9 hrow9 hG9 hS9=>?_;have hrow9:GrowV 1 rv9 rp9 ((A3++[91::(bw++[93])]).map strC):=by rw[VZ];exact hrow9
    simp+decide only[qh,qi,qj,qo,ev,qZ,qY,putD,Vz,VA,VB,Ka,VC,VD,Kb,and_true,↓qV,qP,qM,ne_eq,not_false_eq_true,qN,qJ,VE,setAt,VF,Kj,qC,VG,Kn,Jp,Nat.reduceAdd,qF,qG,qI,qf,qK,qa,qz,qd,qE,qc,qA,qg,qH,qy,allLive,J4,tokV,nL,hlv,hpe,e4,hpb,f0,hbl,VX,K6,Kh,Jd,KX,Jb,JD,hrl];repeat (with_reducible refine And.intro ?_ ?_;· first|trivial|omega|(intro hg;simp only[Ky,JH,Jh,VH,VI,VJ,decide_eq_true_eq,decide_eq_false_iff_not,qR]at hg;omega))
    apply hK;clear hK K;have hrl9:=hrow9.live;have hs_h9:Sub h h9:=hS9.in_ (i:=0) rfl;have hq9:=hqL.mono hs_h9;have hq0:=hqL;rw[hpe]at hq9 hq0;have e4':=(qdW hq9 hi').2.2.2.2;have e40:=(qdW hq0 hi').2.2.2.2;rw[<-hqj]at e4' e40;have hb9:=hqb.mono hs_h9;have hb0:=hqb;rw[hpb]at hb9 hb0;have f1':=(qer hb9 ha').2.1;have f20:=(qer hb0 ha').2.2;rw[<-hbj]at f1' f20;simp only at e4' f1' e40 f20;refine qfs [0,1,2,3,4,5,6,7,8,9,12,13,14,15,16,17,18,19,20,10,11,21,22,23] [0,0,0,0,0,0,0,0,0,0,2,2,2,2,2,2,2,2,2,0,0,0,0,0] [none,none,none,none,none,none,none,none,none,none,none,none,none,none,none,none,none,none,none,none,some 19,some 20,some 21,some 22] 20 (h) mixed (by kernel_rfl) (by rfl) (hs_h9) ?_;simp only[WM,Vt,Em,Kz,KM];simp+decide only[qh,qi,qj,qo,ev,qZ,qY,putD,Vz,VA,VB,Ka,VC,VD,Kb,and_true,YI,YH,Yp,Wi,YV,↓qW,qU,↓QV,QM,Ql Tryd.underlying23 WJ,↓Qo,Qd,WG,↓Qu,Qi qdL,Ql Tryd.underlying46 UW,qdF,Qi qbR,qdE,Qi qhb,qM,ne_eq,not_false_eq_true,qN,qJ,VE,setAt,VF,Kj,qC,VG,Kn,Jp,Nat.reduceAdd,qF,qG,qI,qf,qK,qa,qz,qd,qE,qc,qA,qg,qH,qy,allLive,J4,tokV,nL,hlv,hpe,e4',e40,hpb,f1',f20,hbl,htl,hll,VX,K6,hrl9];repeat (with_reducible refine And.intro ?_ ?_;· first|trivial|omega|(intro hg;simp only[Ky,JH,Jh,VH,VI,VJ,decide_eq_true_eq,decide_eq_false_iff_not,qR]at hg;omega))
    refine QN (by rfl) (by rfl) (qoL w0 _ btv bt (hbt.mono hs_h9) hbtn hy2) fun x15q10 h15q10 hx15q10=>?_;obtain⟨pp,hrowP,hGP,hSP⟩:=hx15q10;have hsA:Sub h9 h15q10:=hSP.in_ (i:=0) rfl;have hSA:=Sep.nest hS9 hSP;try simp only[Kj,VF,Kh,Jd]at hSA
    rw[qh];refine And.intro (by first|exact Vg _|assumption|exact V8 (by assumption)) ?_;simp+decide only[qh,qi,qj,qo,ev,qZ,qY,putD,Vz,VA,VB,Ka,VC,VD,Kb,and_true,YI,YH,Yp,Wi,YV,qM,ne_eq,not_false_eq_true,qN,qJ,VE,setAt,VF,Kj,qC,VG,Kn,Jp,Nat.reduceAdd,qF,qG,qI,qf,qK,qa,qz,qd,qE,qc,qA,qg,qH,qy,allLive,J4,tokV,nL,hlv,hpe,e4',e40,hpb,f1',f20,hbl,htl,hll,VX,K6,hrl9];repeat (with_reducible refine And.intro ?_ ?_;· first|trivial|omega|(intro hg;simp only[Ky,JH,Jh,VH,VI,VJ,decide_eq_true_eq,decide_eq_false_iff_not,qR]at hg;omega))
    refine Ya (es:=1) (v:=rv9) (p:=rp9) (xs:=(A3++[91::(bw++[93])]).map strC) (ys:=(bt.map qat).map strC) (i:=1) (by rfl) (by rfl) Tryd.underlying22 Tryd.underlying22 (fun k e=>by cases e) sz9 by9 ze9 (by rfl) (by decide) (by rfl) hrow9 hG9 rfl hSA (by rfl) (hrowP.isL (hSA.in_ (i:=2) rfl)) (qgt _) (by simp only[Jn,Jb,JF];omega) (by simp only[Jn,Jb,JF];omega) fun rv10 rp10 h10 hrow10 hG10 hS10=>?_;rw[<-VZ]at hrow10;have hrl10:=hrow10.live;have hs_h10:Sub h h10:=hS10.in_ (i:=0) rfl;rw[qh];refine And.intro (by first|exact Vg _|assumption|exact V8 (by assumption)) ?_;simp+decide only[qh,qi,qj,qo,ev,qZ,qY,putD,Vz,VA,VB,Ka,VC,VD,Kb,and_true,YI,YH,Yp,Wi,YV,qM,ne_eq,not_false_eq_true,qN,qJ,VE,setAt,VF,Kj,qC,VG,Kn,Jp,Nat.reduceAdd,qF,qG,qI,qf,qK,qa,qz,qd,qE,qc,qA,qg,qH,qy,allLive,J4,tokV,nL,hlv,hpe,e4',e40,hpb,f1',f20,hbl,htl,hll,VX,K6,hrl9];repeat (with_reducible refine And.intro ?_ ?_;· first|trivial|omega|(intro hg;simp only[Ky,JH,Jh,VH,VI,VJ,decide_eq_true_eq,decide_eq_false_iff_not,qR]at hg;omega))
    refine QN (by rfl) (by rfl) (ih _ blv bL (hbs.mono hs_h10) hsb hy3 (by omega)) fun x15q21 h15q21 hx15q21=>?_;obtain⟨pq,hrowQ,hGQ,hSQ⟩:=hx15q21;have hSB:=Sep.nest hS10 hSQ;try simp only[Kh,Jd,Kj,VF]at hSB
    have hs_hB:Sub h h15q21:=hSB.in_ (i:=0) rfl;rw[qh];refine And.intro (by first|exact Vg _|assumption|exact V8 (by assumption)) ?_;simp+decide only[qh,qi,qj,qo,ev,qZ,qY,putD,Vz,VA,VB,Ka,VC,VD,Kb,and_true,YI,YH,Yp,Wi,YV,qM,ne_eq,not_false_eq_true,qN,qJ,VE,setAt,VF,Kj,qC,VG,Kn,Jp,Nat.reduceAdd,qF,qG,qI,qf,qK,qa,qz,qd,qE,qc,qA,qg,qH,qy,allLive,J4,tokV,nL,hlv,hpe,e4',e40,hpb,f1',f20,hbl,htl,hll,VX,K6,hrl9];repeat (with_reducible refine And.intro ?_ ?_;· first|trivial|omega|(intro hg;simp only[Ky,JH,Jh,VH,VI,VJ,decide_eq_true_eq,decide_eq_false_iff_not,qR]at hg;omega))
    refine Ya (es:=1) (v:=rv10) (p:=rp10) (xs:=(A3++[91::(bw++[93])]++bt.map qat).map strC) (ys:=(ZR d bL).map strC) (i:=1) (by rfl) (by rfl) Tryd.underlying22 Tryd.underlying22 (fun k e=>by cases e) sz9 by9 ze9 (by rfl) (by decide) (by rfl) hrow10 hG10 rfl hSB (by rfl) (hrowQ.isL (hSB.in_ (i:=3) rfl)) (qgt _) (by simp only[Jn,Jb,JF];omega) (by simp only[Jn,Jb,JF];omega) fun rv11 rp11 h11 hrow11 hG11 hS11=>?_;rw[<-VZ]at hrow11;have hs_h11:Sub h h11:=hS11.in_ (i:=0) rfl;rw[qh];refine And.intro (by first|exact Vg _|assumption|exact V8 (by assumption)) ?_;simp+decide only[qh,qi,qj,qo,ev,qZ,qY,putD,Vz,VA,VB,Ka,VC,VD,Kb,and_true,YI,YH,Yp,Wi,YV,↓qV,qP,qM,ne_eq,not_false_eq_true,qN,qJ,VE,setAt,VF,Kj,qC,VG,Kn,Jp,Nat.reduceAdd,qF,qG,qI,qf,qK,qa,qz,qd,qE,qc,qA,qg,qH,qy,allLive,J4,tokV,nL,hlv,hpe,e4',e40,hpb,f1',f20,hbl,htl,hll,VX,K6,hrl9];repeat (with_reducible refine And.intro ?_ ?_;· first|trivial|omega|(intro hg;simp only[Ky,JH,Jh,VH,VI,VJ,decide_eq_true_eq,decide_eq_false_iff_not,qR]at hg;omega))
    change Awp _ _ _ _ _ _ _;refine XZ [0,3,4,6] (by rfl) ?_;simp+decide only[qh,qi,qj,qo,ev,qZ,qY,putD,Vz,VA,VB,Ka,VC,VD,Kb,and_true,↓qW,qU,↓Qj,Qa,Qm,cond_false,Qh,XM,↓qV,qP,qM,ne_eq,not_false_eq_true,qN,qJ,VE,setAt,VF,Kj,qC,VG,Kn,Jp,Nat.reduceAdd,qF,qG,qI,qf,qK,qa,qz,qd,qE,qc,qA,qg,qH,qy,allLive,J4,tokV,nL,hlv,hwa];try simp(disch:=omega)only[wrap_i64,wrap_u8]
    repeat (with_reducible refine And.intro ?_ ?_;· first|trivial|omega|(intro hg;simp only[Ky,JH,Jh,VH,VI,VJ,decide_eq_true_eq,decide_eq_false_iff_not,qR]at hg;omega))
    try simp only[QK,Qt]
    exact⟨⟨a+1,A3++[91::(bw++[93])]++bt.map qat++ZR d bL,rv11,rp11,h11⟩,by first|rfl|(rw[hpe];rfl),Vg _,⟨ha',hS11.sub (by simp),hrow11,hG11,by simp only;rw[hg14,hY];simp⟩,by simp only;omega⟩
   ·try simp only[decide_eq_true_eq,decide_eq_false_iff_not,Jh,VJ,Ky,VH,JH,VI,VV,VW,reduceCtorEq]at hb3
    have haq:a=ql.length:=by omega
    rw[haq,J8]at hg;have hg16:R=(A3++[[125]])++X:=by rw[hg];simp
    have hA16:=qkt hg16 hT;rw[Jb,JF]at hA16;refine XJ ?_;change Awp _ _ _ _ _ _ _;refine XZ [0,3,4] (by rfl) ?_;simp+decide only[qh,qi,qj,qo,ev,qZ,qY,putD,Vz,VA,VB,Ka,VC,VD,Kb,and_true,↓qW,qU,qM,ne_eq,not_false_eq_true,qN,qJ,VE,setAt,VF,Kj,qC,VG,Kn,Jp,Nat.reduceAdd,qF,qG,qI,qf,qK,qa,qz,qd,qE,qc,qA,qg,qH,qy,allLive,J4,tokV,nL,hlv,hrl];repeat (with_reducible refine And.intro ?_ ?_;· first|trivial|omega|(intro hg;simp only[Ky,JH,Jh,VH,VI,VJ,decide_eq_true_eq,decide_eq_false_iff_not,qR]at hg;omega))
    refine QS (cs:=[.str [125]]) (by kernel_rfl) fun k16q1 hk16q1=>?_;have hn_16q1:H k16q1=none:=by first|assumption|(simp only[V7]at hk16q1;simp only[hk16q1])
    have hf_16q1:h k16q1=none:=Bh hs_H hn_16q1;refine Ya (es:=1) (v:=rv) (p:=rp) (xs:=A3.map strC) (ys:=[strC [125]]) (i:=1) (by rfl) (by rfl) Tryd.underlying22 Tryd.underlying22 (fun k e=>by cases e) sz9 by9 ze9 (by rfl) (by decide) (by rfl) hrow hG rfl (hS.forget (V8 hk16q1)) (by rfl) (V9 (Vf _ _ _) (fun x hx=>by rw[V4.1 hx];rfl) (by rfl) (by rfl) (.exact 1) (KL _)) (by rfl) (by simp only[Jn,JF];omega) (by simp only[Jn,JF];omega) fun rv16 rp16 h16 hrow16 hG16 hS16=>?_;have hrow16:GrowV 1 rv16 rp16 ((A3++[[125]]).map strC):=by rw[VZ];exact hrow16
    simp+decide only[qh,qi,qj,qo,ev,qZ,qY,putD,Vz,VA,VB,Ka,VC,VD,Kb,and_true,↓qV,qP,qM,ne_eq,not_false_eq_true,qN,qJ,VE,setAt,VF,Kj,qC,VG,Kn,Jp,Nat.reduceAdd,qF,qG,qI,qf,qK,qa,qz,qd,qE,qc,qA,qg,qH,qy,allLive,J4,tokV,nL,hlv,hrl];repeat (with_reducible refine And.intro ?_ ?_;· first|trivial|omega|(intro hg;simp only[Ky,JH,Jh,VH,VI,VJ,decide_eq_true_eq,decide_eq_false_iff_not,qR]at hg;omega))
    change Awp _ _ _ _ _ _ _;refine XZ [0,3,4] (by rfl) ?_;simp+decide only[qh,qi,qj,qo,ev,qZ,qY,putD,Vz,VA,VB,Ka,VC,VD,Kb,and_true,↓qW,qU,↓Qj,Qa,Qm,cond_false,Qh,XM,↓qV,qP,qM,ne_eq,not_false_eq_true,qN,qJ,VE,setAt,VF,Kj,qC,VG,Kn,Jp,Nat.reduceAdd,qF,qG,qI,qf,qK,qa,qz,qd,qE,qc,qA,qg,qH,qy,allLive,J4,tokV,nL,hlv,hwi];try simp(disch:=omega)only[wrap_i64,wrap_u8]
    repeat (with_reducible refine And.intro ?_ ?_;· first|trivial|omega|(intro hg;simp only[Ky,JH,Jh,VH,VI,VJ,decide_eq_true_eq,decide_eq_false_iff_not,qR]at hg;omega))
    try simp only[QK,Qt]
    exact⟨⟨i+1,A3++[[125]],rv16,rp16,h16⟩,by first|rfl|(rw[hpe];rfl),Vg _,⟨hi',hS16,hrow16,hG16,by simp only;rw[hg16,hX]⟩,by simp only;omega⟩
 ·try simp only[decide_eq_true_eq,decide_eq_false_iff_not,Jh,VJ,Ky,VH,JH,VI,VV,VW,reduceCtorEq]at hb1
  have hin:i=qs.length:=by omega
  rw[hin,J8]at hg;have hgR:R=A:=by rw[hg];simp
  refine XJ ?_;change Awp _ _ _ _ _ _ _;refine awp_rseq [2] (by rfl) fun K hK=>?_;simp+decide only[qh,qi,qj,qo,ev,qZ,qY,putD,Vz,VA,VB,Ka,VC,VD,Kb,and_true,↓qW,qU,↓qV,qP,qM,ne_eq,not_false_eq_true,qN,qJ,VE,setAt,VF,Kj,qC,VG,Kn,Jp,Nat.reduceAdd,qF,qG,qI,qf,qK,qa,qz,qd,qE,qc,qA,qg,qH,qy,allLive,J4,tokV,nL,hlv,hrl];repeat (with_reducible refine And.intro ?_ ?_;· first|trivial|omega|(intro hg;simp only[Ky,JH,Jh,VH,VI,VJ,decide_eq_true_eq,decide_eq_false_iff_not,qR]at hg;omega))
  apply hK;clear hK K;refine Xd ?_;try simp only[QF,Qn]
  refine Xu (Qr (Qv)) ?_;simp+decide only[qh,qi,qj,qo,ev,qZ,qY,putD,Vz,VA,VB,Ka,VC,VD,Kb,and_true,QU,qM,ne_eq,not_false_eq_true,qN,qJ,VE,setAt,VF,Kj,qC,VG,Kn,Jp,Nat.reduceAdd,qF,qG,qI,qf,qK,qa,qz,qd,qE,qc,qA,qg,qH,qy,allLive,J4,tokV,nL,hlv];exact⟨H,Vg _,rp,by rw[hgR];exact hrow,hG,hS⟩
theorem qjO(w0:World):∀(d:Nat) (h:AHeap) (v:AVal) (l:List StC),StsV w0 d h v l->SmallS d l->TxS d l->(ZR d l).length<=1000000000000->ACall Tryd.prog w0 23 [v] h (qiU w0 d h l)
 |0,h,v,l,hs,hsm,htx,hT=>by
  obtain⟨rfl,hv⟩:=qth hs;exact qnG w0 h v hv
 |d+1,h,v,l,hs,hsm,htx,hT=>qnF w0 d h v l hs hsm htx hT fun h' v l hs hsm htx hT=>qjO w0 d h' v l hs hsm htx hT
end Go.Proofs.YtgiadjbiimkbiaaDoor
namespace Go.Stm
open Go.Col (Str FaultC okF)
open Go.Tok
set_option maxRecDepth 100000
def badAt(s:Str)(ln:Int):Bool:=match qbA QY (Zg s) Xi 300 with
 |some (.bad f)=>decide (f=⟨4,ln,8⟩)
 |_=>false
end Go.Stm
namespace Go.Stm
open Go.Col (Str)
open Go.Tok
def qcf(a b:PhrC):Bool:=decide (a.words=b.words) && YR a.toks b.toks
def rowE{α:Type}(f:α->α->Bool):List α->List α->Bool
 |[],[]=>true
 |x::a,y::b=>f x y && rowE f a b
 |_,_=>false
def qay:Nat->List StC->List StC->Bool
 |0,a,b=>decide (a.length=b.length)
 |m+1,a,b=>rowE (fun s t=>decide (s.verb=t.verb) && (rowE qcf s.phrases t.phrases && rowE (fun x y=>decide (x.1=y.1) && (YR x.2.1 y.2.1 && qay m x.2.2 y.2.2)) s.bodies t.bodies)) a b
def qdp(d:Nat)(a b:List StC):Bool:= !YU 32 a && (!YU 32 b && qay d a b)
theorem qlk{α:Type}{f:α->α->Bool}:∀{a b:List α},rowE f a b=true->a.length=b.length
 |[],[],_=>rfl
 |x::a,y::b,h=>by
  rw[rowE,Ky]at h;rw[KX,KX,qlk h.2]
 |[],y::b,h=>by cases h
 |x::a,[],h=>by cases h
end Go.Stm
namespace Go.Stm
open Go.Col (Str FaultC okF)
open Go.Tok
def qke:Nat->List StC->Bool
 |0,l=>decide (l.length<=1000000)
 |m+1,l=>decide (l.length<=1000000) && l.all fun s=>decide (s.verb.length<=1000000) && (decide (s.bodies.length<=1000000) && (decide (s.phrases.length<=1000000) && ((s.phrases.all fun p=>decide (p.words.length<=1000000) && (decide (p.toks.length<=1000000) && p.toks.all fun t=>decide (t.text.length<=1000000))) &&
  s.bodies.all fun b=>decide (b.1.length<=1000000) && (decide (b.2.1.length<=1000000) && ((b.2.1.all fun t=>decide (t.text.length<=1000000)) && qke m b.2.2)))))
def qip(s:Str)(n:Nat)(want:Str):Bool:=match qbA QY (Zg s) Xi 300 with
 |some (.ok L _)=>decide (L.length=n) && (decide (Lib.join (ZR 32 L) [32]=want) && (qke 32 L && (decide ((ZR 32 L).length<=1000000) && decide (ZY 32 L<=1000000))))
 |_=>false
def lvSa:Str:=[65,68,68,32,65,32,66,32,84,79,32,67,32,83,73,90,69,32,69,82,82,79,82,32,77,79,86,69,32,49,32,84,79,32,68,32,69,78,68,45,65,68,68,32,77,79,86,69,32,50,32,84,79,32,69,32,46]
def lvWa:Str:=[123,65,68,68,32,60,62,32,49,65,32,49,66,32,60,84,79,62,32,49,67,32,91,79,78,32,83,73,90,69,32,69,82,82,79,82,93,32,123,77,79,86,69,32,60,62,32,50,49,32,60,84,79,62,32,49,68,32,125,32,125,32,123,77,79,86,69,32,60,62,32,50,50,32,60,84,79,62,32,49,69,32,125]
theorem lv_a:qip lvSa 2 lvWa=true:=by decide+kernel
def qrS:Str:=[73,70,32,65,32,62,32,49,32,73,70,32,66,32,61,32,50,32,65,68,68,32,49,32,84,79,32,65,32,69,76,83,69,32,65,68,68,32,50,32,84,79,32,65,32,46,32,77,79,86,69,32,65,32,84,79,32,66,32,46]
def lvWb:Str:=[123,73,70,32,60,62,32,49,65,32,53,62,32,50,49,32,91,84,72,69,78,93,32,123,73,70,32,60,62,32,49,66,32,53,61,32,50,50,32,91,84,72,69,78,93,32,123,65,68,68,32,60,62,32,50,49,32,60,84,79,62,32,49,65,32,125,32,91,69,76,83,69,93,32,123,65,68,68,32,60,62,32,50,50,32,60,84,79,62,32,49,65,32,125,32,125,32,125,32,123,77,79,86,69,32,60,62,32,49,65,32,60,84,79,62,32,49,66,32,125]
theorem lv_b:qip qrS 2 lvWb=true:=by decide+kernel
def lvSc:Str:=[80,69,82,70,79,82,77,32,78,32,84,73,77,69,83,32,65,68,68,32,49,32,84,79,32,65,32,69,78,68,45,80,69,82,70,79,82,77,32,46,32,80,69,82,70,79,82,77,32,80,32,78,32,84,73,77,69,83,32,46]
def lvWc:Str:=[123,80,69,82,70,79,82,77,32,60,62,32,49,78,32,60,84,73,77,69,83,62,32,91,93,32,123,65,68,68,32,60,62,32,50,49,32,60,84,79,62,32,49,65,32,125,32,125,32,123,80,69,82,70,79,82,77,32,60,62,32,49,80,32,49,78,32,60,84,73,77,69,83,62,32,125]
theorem lv_c:qip lvSc 2 lvWc=true:=by decide+kernel
def lvSd:Str:=[69,86,65,76,85,65,84,69,32,65,32,87,72,69,78,32,49,32,87,72,69,78,32,50,32,67,79,78,84,73,78,85,69,32,87,72,69,78,32,79,84,72,69,82,32,83,84,79,80,32,82,85,78,32,69,78,68,45,69,86,65,76,85,65,84,69,32,46]
def lvWd:Str:=[123,69,86,65,76,85,65,84,69,32,60,62,32,49,65,32,91,87,72,69,78,93,32,50,49,32,91,87,72,69,78,93,32,50,50,32,123,67,79,78,84,73,78,85,69,32,60,62,32,125,32,91,87,72,69,78,32,79,84,72,69,82,93,32,123,83,84,79,80,32,60,62,32,60,82,85,78,62,32,125,32,125]
theorem lv_d:qip lvSd 1 lvWd=true:=by decide+kernel
def lvSr:Str:=[82,69,65,68,32,70,32,78,69,88,84,32,82,69,67,79,82,68,32,73,78,84,79,32,88,32,65,84,32,69,78,68,32,67,79,78,84,73,78,85,69,32,46]
def lvWr:Str:=[123,82,69,65,68,32,60,62,32,49,70,32,60,78,69,88,84,62,32,60,73,78,84,79,62,32,49,88,32,91,65,84,32,69,78,68,93,32,123,67,79,78,84,73,78,85,69,32,60,62,32,125,32,125]
theorem lv_r:qip lvSr 1 lvWr=true:=by decide+kernel
def fiveB(s:Str):Bool:=match qbA QY (Zg s) Xi 300 with
 |some (.ok L _)=>decide ((if YU 32 L=true then 0 else ZY 32 L)=5)
 |_=>false
theorem lv_five:fiveB qrS=true:=by decide+kernel
def lvT:List Str:=[[65,68,68,32,49,32,84,79,32,65,32,69,78,68,45,73,70,32,46],
 [73,70,32,65,32,61,32,66,32,46],
 [80,69,82,70,79,82,77,32,65,68,68,32,49,32,84,79,32,65,32,46],
 [53,32,84,79,32,65,32,46]]
def lvL:List Int:=[5,1,1,1]
theorem lv_bad:((List.range 4).all fun n=>badAt (lvT.getD n []) (lvL.getD n 0) && (decide ((lvT.getD n []).length<=100) && Go.Proofs.YtgiadjbiimkbiaaDoor.asciiB (lvT.getD n [])))=true:=by decide+kernel
end Go.Stm
namespace Go.Proofs.YtgiadjbiimkbiaaDoor
open Go.AM
open Go.Proofs
open Go.Col (Str FaultC okF)
open Go.Tok (TokC)
open Go.Stm
open Go.RowKit (Below)
set_option maxRecDepth 100000
theorem qcw:∀{m:Nat} {l:List StC},qke m l=true->SmallS m l/\TxS m l
 |0,l,h=>⟨of_decide_eq_true (p:=l.length<=1000000) h,trivial⟩
 |m+1,l,h=>by
  simp only[qke,Ky,Jz,decide_eq_true_eq]at h;obtain⟨h0,h1⟩:=h;exact⟨⟨h0,fun s hs=>⟨(h1 s hs).2.1,(h1 s hs).2.2.1,fun p hp=>((h1 s hs).2.2.2.1 p hp).2.1,fun b hb=>⟨((h1 s hs).2.2.2.2 b hb).2.1,(qcw ((h1 s hs).2.2.2.2 b hb).2.2.2).1⟩⟩⟩,
   fun s hs=>⟨(h1 s hs).1,fun p hp=>⟨((h1 s hs).2.2.2.1 p hp).1,((h1 s hs).2.2.2.1 p hp).2.2⟩,fun b hb=>⟨((h1 s hs).2.2.2.2 b hb).1,((h1 s hs).2.2.2.2 b hb).2.2.1,(qcw ((h1 s hs).2.2.2.2 b hb).2.2.2).2⟩⟩⟩
theorem qfH{l:List TokC}{r r':Rs (List StC)}{f:Nat}(h:qbA QY l Xi f=some r)(h':ParseR QY l Xi r'):r'=r:=ParseR.one h' ⟨f,h⟩
theorem qch{w0:World}{s want:Str}{n:Nat}{h h':AHeap}{r:AVal}(hb:qip s n want=true)(ho:qiW w0 (Zg s) h r h'):
 Sub h h'/\∃L rv,r= .tuple [rv,faultV okF]/\StsV w0 32 h' rv L/\L.length=n/\Lib.join (ZR 32 L) [32]=want/\SmallS 32 L/\TxS 32 L/\(ZR 32 L).length<=1000000/\ZY 32 L<=1000000/\∃j,qbA QY (Zg s) Xi 300=some (.ok L j):=by
 obtain⟨hs,ho⟩:=ho;unfold qip at hb;cases hp:qbA QY (Zg s) Xi 300 with
 |none=>rw[hp]at hb;cases hb
 |some x=>
  rw[hp]at hb;cases x with
  |bad f=>cases hb
  |ok L j=>
   simp only[Ky,decide_eq_true_eq]at hb;obtain⟨b1,b2,b3,b4,b5⟩:=hb;rcases ho with⟨f,q,-⟩|⟨L',j',rv,q,e,hv⟩
   ·cases qfH hp q
   ·cases qfH hp q
    exact⟨hs,L,rv,e,hv,b1,b2,(qcw b3).1,(qcw b3).2,b4,b5,j,rfl⟩
theorem qpk{w0:World}{s:Str}{ln:Int}{h h':AHeap}{r:AVal}(hb:badAt s ln=true)(ho:qiW w0 (Zg s) h r h'):Sub h h'/\r= .tuple [.nilSlice,faultV ⟨4,ln,8⟩]:=by
 obtain⟨hs,ho⟩:=ho;unfold badAt at hb;cases hp:qbA QY (Zg s) Xi 300 with
 |none=>rw[hp]at hb;cases hb
 |some x=>
  rw[hp]at hb;cases x with
  |ok L j=>cases hb
  |bad f=>
   have hb:=of_decide_eq_true hb;subst hb;rcases ho with⟨f,q,e⟩|⟨L',j',rv,q,-⟩
   ·cases qfH hp q
    exact⟨hs,e⟩
   ·cases qfH hp q
theorem qrR{L:List StC}{j:Nat}(h:qbA QY (Zg qrS) Xi 300=some (.ok L j)):qcO 32 L=5:=by
 have:=lv_five;unfold fiveB at this;rw[h]at this;exact of_decide_eq_true this
theorem qbf(w0:World)(hm:MaxL w0)(ha:Asp w0)(h:AHeap)(s:Str)(hl:s.length<=999999)(has:asciiB s=true):
 ACall Tryd.prog w0 7 [.str s] h (fun r h'=>IsL w0 h' 5 r ((Zg s).map Zh)/\Sub h h'):=
 (qmc w0 hm ha h s hl has).mono fun r h' ⟨p,a,_,b⟩=>⟨a.isL (b.in_ (i:=1) rfl),b.in_ (i:=0) rfl⟩
theorem qcs(w0:World)(h:AHeap)(v:AVal)(l:List StC)(hs:StsV w0 32 h v l)(hsm:SmallS 32 l)(htx:TxS 32 l)(hT:(ZR 32 l).length<=1000000):
 ACall Tryd.prog w0 23 [v] h (fun r h'=>IsStrs w0 h' r (ZR 32 l)/\Sub h h'):=
 (qjO w0 32 h v l hs hsm htx (by omega)).mono fun r h' ⟨p,a,_,b⟩=>⟨a.isL (b.in_ (i:=1) rfl),b.in_ (i:=0) rfl⟩
set_option maxHeartbeats 32000000 in
theorem qjP(w0:World)(hm:MaxL w0)(ha:Asp w0)(h:AHeap):ACall Tryd.prog w0 8 [] h (fun r h'=>r= .bool true/\Sub h h'):=by
 refine Xf (n:=141) (rs:=[.tmp 0]) Tryd.func8 rfl rfl rfl rfl (Vy rfl) ?_;simp only[Xe];refine awp_rseq [] (by rfl) fun K hK=>?_;simp+decide only[qh,qi,qj,qo,ev,qZ,qY,putD,Vz,VA,VB,Ka,VC,VD,Kb,and_true,↓qV,qP,decide_true,decide_false,VL,VM,Qc,Qb,forall_const,false_implies,Qk,Qf,J4,VN,VO,VP,VQ,VS,VT,VU,QI,cond_true,cond_false,qM,ne_eq,not_false_eq_true,qN,qJ,VE,setAt,VF,Kj,qC,VG,Kn,Jp,Nat.reduceAdd,qF,qG,qI,qf,qK,qa,qz,qd,qE,qc,qA,qg,qH,qy,allLive,J4,tokV,posV,faultV];repeat (with_reducible refine And.intro ?_ ?_;· first|trivial|omega|(intro hg;simp only[Ky,JH,Jh,VH,VI,VJ,decide_eq_true_eq,decide_eq_false_iff_not,qR]at hg;omega))
 apply hK;clear hK K;refine awp_rseq [1,2] (by rfl) fun K hK=>?_;refine QN (by rfl) (by rfl) (qbf w0 hm ha _ lvSa (by decide) (by decide)) fun x1q0 h1q0 hx1q0=>?_;obtain⟨ht1,hsT1⟩:=hx1q0;have hs_h1q0:Sub h h1q0:=Bq zqC hsT1;have hr_h1q0:=hs_h1q0;refine QN (by rfl) (by rfl) (qcF w0 hm ha (Zg lvSa) (UH (by decide)) (WF (by decide)) _ x1q0 ht1) fun x1q1 h1q1 hx1q1=>?_;obtain⟨hsP1,La,rva,e1,hva,hna,hja,hsma,htxa,hsla,hcta,jja,hppa⟩:=qch lv_a hx1q1;subst e1;have hvla:=hva.shape.1;have hvna:=qau hva;rw[hna]at hvna;have hs_h1q1:Sub h h1q1:=Bq zqC hsP1;have hr_h1q1:Sub h1q0 h1q1:=Bq zqC hsP1;simp+decide only[qh,qi,qj,qo,ev,qZ,qY,putD,Vz,VA,VB,Ka,VC,VD,Kb,and_true,↓qW,qU,↓Zl,XY,Zp,KX,JD,VG,Kn,decide_true,decide_false,VL,VM,Qc,Qb,forall_const,false_implies,Qk,Qf,J4,VN,VO,VP,VQ,VS,VT,VU,QI,cond_true,cond_false,qM,ne_eq,not_false_eq_true,qN,qJ,VE,setAt,VF,Kj,qC,VG,Kn,Jp,Nat.reduceAdd,qF,qG,qI,qf,qK,qa,qz,qd,qE,qc,qA,qg,qH,qy,allLive,J4,tokV,posV,faultV];repeat (with_reducible refine And.intro ?_ ?_;· first|trivial|omega|(intro hg;simp only[Ky,JH,Jh,VH,VI,VJ,decide_eq_true_eq,decide_eq_false_iff_not,qR]at hg;omega))
 refine XL qje (cs:=[.int .i64 0, .int .i64 0, .int .i64 0]) (by rfl) fun k1q5 hk1q5=>?_;have hn_1q5:h1q1 k1q5=none:=by first|assumption|(simp only[V7]at hk1q5;simp only[hk1q5])
 have hf_1q5:h k1q5=none:=Bh hs_h1q1 hn_1q5;simp+decide only[qh,qi,qj,qo,ev,qZ,qY,putD,Vz,VA,VB,Ka,VC,VD,Kb,and_true,↓qV,qP,decide_true,decide_false,VL,VM,Qc,Qb,forall_const,false_implies,Qk,Qf,J4,VN,VO,VP,VQ,VS,VT,VU,QI,cond_true,cond_false,qM,ne_eq,not_false_eq_true,qN,qJ,VE,setAt,VF,Kj,qC,VG,Kn,Jp,Nat.reduceAdd,qF,qG,qI,qf,qK,qa,qz,qd,qE,qc,qA,qg,qH,qy,allLive,J4,tokV,posV,faultV];repeat (with_reducible refine And.intro ?_ ?_;· first|trivial|omega|(intro hg;simp only[Ky,JH,Jh,VH,VI,VJ,decide_eq_true_eq,decide_eq_false_iff_not,qR]at hg;omega))
 refine QR (by rfl) (by rfl) zqA qdt (by rfl) (by rfl) zqD (Jq _) (by rfl) ?_;simp only[Bi,setAt,VE,VF,Kj,Jp,Nat.reduceAdd];simp+decide only[qh,qi,qj,qo,ev,qZ,qY,putD,Vz,VA,VB,Ka,VC,VD,Kb,and_true,decide_true,decide_false,VL,VM,Qc,Qb,forall_const,false_implies,Qk,Qf,J4,VN,VO,VP,VQ,VS,VT,VU,QI,cond_true,cond_false,qM,ne_eq,not_false_eq_true,qN,qJ,VE,setAt,VF,Kj,qC,VG,Kn,Jp,Nat.reduceAdd,qF,qG,qI,qf,qK,qa,qz,qd,qE,qc,qA,qg,qH,qy,allLive,J4,tokV,posV,faultV];repeat (with_reducible refine And.intro ?_ ?_;· first|trivial|omega|(intro hg;simp only[Ky,JH,Jh,VH,VI,VJ,decide_eq_true_eq,decide_eq_false_iff_not,qR]at hg;omega))
 apply hK;clear hK K;refine awp_rseq [1,2,3,4] (by rfl) fun K hK=>?_;refine QN (by rfl) (by rfl) (qbf w0 hm ha _ qrS (by decide) (by decide)) fun x2q0 h2q0 hx2q0=>?_;obtain⟨ht2,hsT2⟩:=hx2q0;have hs_h2q0:Sub h h2q0:=Bq zqC hsT2;have hr_h2q0:Sub h1q1 h2q0:=Bq zqC hsT2;have eb_1q5:=hsT2 k1q5 _ zqA;refine QN (by rfl) (by rfl) (qcF w0 hm ha (Zg qrS) (UH (by decide)) (WF (by decide)) _ x2q0 ht2) fun x2q1 h2q1 hx2q1=>?_;obtain⟨hsP2,Lb,rvb,e2,hvb,hnb,hjb,hsmb,htxb,hslb,hctb,jjb,hppb⟩:=qch lv_b hx2q1;subst e2;have hvlb:=hvb.shape.1;have hvnb:=qau hvb;rw[hnb]at hvnb;have hs_h2q1:Sub h h2q1:=Bq zqC hsP2;have hr_h2q1:Sub h2q0 h2q1:=Bq zqC hsP2;have eb_1q5:=hsP2 k1q5 _ zqA;simp+decide only[qh,qi,qj,qo,ev,qZ,qY,putD,Vz,VA,VB,Ka,VC,VD,Kb,and_true,↓qW,qU,↓Zl,XY,Zp,KX,JD,VG,Kn,decide_true,decide_false,VL,VM,Qc,Qb,forall_const,false_implies,Qk,Qf,J4,VN,VO,VP,VQ,VS,VT,VU,QI,cond_true,cond_false,qM,ne_eq,not_false_eq_true,qO w0 eb_1q5,qN,qJ,VE,setAt,VF,Kj,qC,VG,Kn,Jp,Nat.reduceAdd,qF,qG,qI,qf,qK,qa,qz,qd,qE,qc,qA,qg,qH,qy,allLive,J4,tokV,posV,faultV];repeat (with_reducible refine And.intro ?_ ?_;· first|trivial|omega|(intro hg;simp only[Ky,JH,Jh,VH,VI,VJ,decide_eq_true_eq,decide_eq_false_iff_not,qR]at hg;omega))
 refine XL qje (cs:=[.int .i64 0, .int .i64 0, .int .i64 0]) (by rfl) fun k2q5 hk2q5=>?_;have hn_2q5:h2q1 k2q5=none:=by first|assumption|(simp only[V7]at hk2q5;simp only[hk2q5])
 have hf_2q5:h k2q5=none:=Bh hs_h2q1 hn_2q5;have ne_2q5_1q5:k2q5≠k1q5:=BG hn_2q5 eb_1q5;simp+decide only[qh,qi,qj,qo,ev,qZ,qY,putD,Vz,VA,VB,Ka,VC,VD,Kb,and_true,↓qV,qP,decide_true,decide_false,VL,VM,Qc,Qb,forall_const,false_implies,Qk,Qf,J4,VN,VO,VP,VQ,VS,VT,VU,QI,cond_true,cond_false,qM,ne_eq,not_false_eq_true,ne_2q5_1q5,ne_2q5_1q5.symm,qO w0 eb_1q5,qN,qJ,VE,setAt,VF,Kj,qC,VG,Kn,Jp,Nat.reduceAdd,qF,qG,qI,qf,qK,qa,qz,qd,qE,qc,qA,qg,qH,qy,allLive,J4,tokV,posV,faultV];repeat (with_reducible refine And.intro ?_ ?_;· first|trivial|omega|(intro hg;simp only[Ky,JH,Jh,VH,VI,VJ,decide_eq_true_eq,decide_eq_false_iff_not,qR]at hg;omega))
 refine QR (by rfl) (by rfl) zqA qdt (by rfl) (by rfl) zqD (Jq _) (by rfl) ?_;simp only[Bi,setAt,VE,VF,Kj,Jp,Nat.reduceAdd];simp+decide only[qh,qi,qj,qo,ev,qZ,qY,putD,Vz,VA,VB,Ka,VC,VD,Kb,and_true,decide_true,decide_false,VL,VM,Qc,Qb,forall_const,false_implies,Qk,Qf,J4,VN,VO,VP,VQ,VS,VT,VU,QI,cond_true,cond_false,qM,ne_eq,not_false_eq_true,ne_2q5_1q5,ne_2q5_1q5.symm,qO w0 eb_1q5,qN,qJ,VE,setAt,VF,Kj,qC,VG,Kn,Jp,Nat.reduceAdd,qF,qG,qI,qf,qK,qa,qz,qd,qE,qc,qA,qg,qH,qy,allLive,J4,tokV,posV,faultV];repeat (with_reducible refine And.intro ?_ ?_;· first|trivial|omega|(intro hg;simp only[Ky,JH,Jh,VH,VI,VJ,decide_eq_true_eq,decide_eq_false_iff_not,qR]at hg;omega))
 apply hK;clear hK K;refine awp_rseq [1,2,3,4,5,6] (by rfl) fun K hK=>?_;refine QN (by rfl) (by rfl) (qbf w0 hm ha _ lvSc (by decide) (by decide)) fun x3q0 h3q0 hx3q0=>?_;obtain⟨ht3,hsT3⟩:=hx3q0;have hs_h3q0:Sub h h3q0:=Bq zqC hsT3;have hr_h3q0:Sub h2q1 h3q0:=Bq zqC hsT3;have eb_2q5:=hsT3 k2q5 _ zqA;have eb_1q5:=hsT3 k1q5 _ zqA;refine QN (by rfl) (by rfl) (qcF w0 hm ha (Zg lvSc) (UH (by decide)) (WF (by decide)) _ x3q0 ht3) fun x3q1 h3q1 hx3q1=>?_;obtain⟨hsP3,Lc,rvc,e3,hvc,hnc,hjc,hsmc,htxc,hslc,hctc,jjc,hppc⟩:=qch lv_c hx3q1;subst e3;have hvlc:=hvc.shape.1;have hvnc:=qau hvc;rw[hnc]at hvnc;have hs_h3q1:Sub h h3q1:=Bq zqC hsP3;have hr_h3q1:Sub h3q0 h3q1:=Bq zqC hsP3;have eb_1q5:=hsP3 k1q5 _ zqA;have eb_2q5:=hsP3 k2q5 _ zqA;simp+decide only[qh,qi,qj,qo,ev,qZ,qY,putD,Vz,VA,VB,Ka,VC,VD,Kb,and_true,↓qW,qU,↓Zl,XY,Zp,KX,JD,VG,Kn,decide_true,decide_false,VL,VM,Qc,Qb,forall_const,false_implies,Qk,Qf,J4,VN,VO,VP,VQ,VS,VT,VU,QI,cond_true,cond_false,qM,ne_eq,not_false_eq_true,qO w0 eb_1q5,qO w0 eb_2q5,ne_2q5_1q5,ne_2q5_1q5.symm,qN,qJ,VE,setAt,VF,Kj,qC,VG,Kn,Jp,Nat.reduceAdd,qF,qG,qI,qf,qK,qa,qz,qd,qE,qc,qA,qg,qH,qy,allLive,J4,tokV,posV,faultV];repeat (with_reducible refine And.intro ?_ ?_;· first|trivial|omega|(intro hg;simp only[Ky,JH,Jh,VH,VI,VJ,decide_eq_true_eq,decide_eq_false_iff_not,qR]at hg;omega))
 refine XL qje (cs:=[.int .i64 0, .int .i64 0, .int .i64 0]) (by rfl) fun k3q5 hk3q5=>?_;have hn_3q5:h3q1 k3q5=none:=by first|assumption|(simp only[V7]at hk3q5;simp only[hk3q5])
 have hf_3q5:h k3q5=none:=Bh hs_h3q1 hn_3q5;have ne_3q5_1q5:k3q5≠k1q5:=BG hn_3q5 eb_1q5;have ne_3q5_2q5:k3q5≠k2q5:=BG hn_3q5 eb_2q5;simp+decide only[qh,qi,qj,qo,ev,qZ,qY,putD,Vz,VA,VB,Ka,VC,VD,Kb,and_true,↓qV,qP,decide_true,decide_false,VL,VM,Qc,Qb,forall_const,false_implies,Qk,Qf,J4,VN,VO,VP,VQ,VS,VT,VU,QI,cond_true,cond_false,qM,ne_eq,not_false_eq_true,ne_3q5_1q5,ne_3q5_1q5.symm,ne_3q5_2q5,ne_3q5_2q5.symm,qO w0 eb_1q5,qO w0 eb_2q5,ne_2q5_1q5,ne_2q5_1q5.symm,qN,qJ,VE,setAt,VF,Kj,qC,VG,Kn,Jp,Nat.reduceAdd,qF,qG,qI,qf,qK,qa,qz,qd,qE,qc,qA,qg,qH,qy,allLive,J4,tokV,posV,faultV];repeat (with_reducible refine And.intro ?_ ?_;· first|trivial|omega|(intro hg;simp only[Ky,JH,Jh,VH,VI,VJ,decide_eq_true_eq,decide_eq_false_iff_not,qR]at hg;omega))
 refine QR (by rfl) (by rfl) zqA qdt (by rfl) (by rfl) zqD (Jq _) (by rfl) ?_;simp only[Bi,setAt,VE,VF,Kj,Jp,Nat.reduceAdd];simp+decide only[qh,qi,qj,qo,ev,qZ,qY,putD,Vz,VA,VB,Ka,VC,VD,Kb,and_true,decide_true,decide_false,VL,VM,Qc,Qb,forall_const,false_implies,Qk,Qf,J4,VN,VO,VP,VQ,VS,VT,VU,QI,cond_true,cond_false,qM,ne_eq,not_false_eq_true,ne_3q5_1q5,ne_3q5_1q5.symm,ne_3q5_2q5,ne_3q5_2q5.symm,qO w0 eb_1q5,qO w0 eb_2q5,ne_2q5_1q5,ne_2q5_1q5.symm,qN,qJ,VE,setAt,VF,Kj,qC,VG,Kn,Jp,Nat.reduceAdd,qF,qG,qI,qf,qK,qa,qz,qd,qE,qc,qA,qg,qH,qy,allLive,J4,tokV,posV,faultV];repeat (with_reducible refine And.intro ?_ ?_;· first|trivial|omega|(intro hg;simp only[Ky,JH,Jh,VH,VI,VJ,decide_eq_true_eq,decide_eq_false_iff_not,qR]at hg;omega))
 apply hK;clear hK K;refine awp_rseq [1,2,3,4,5,6,7,8] (by rfl) fun K hK=>?_;refine QN (by rfl) (by rfl) (qbf w0 hm ha _ lvSd (by decide) (by decide)) fun x4q0 h4q0 hx4q0=>?_;obtain⟨ht4,hsT4⟩:=hx4q0;have hs_h4q0:Sub h h4q0:=Bq zqC hsT4;have hr_h4q0:Sub h3q1 h4q0:=Bq zqC hsT4;have eb_3q5:=hsT4 k3q5 _ zqA;have eb_1q5:=hsT4 k1q5 _ zqA;have eb_2q5:=hsT4 k2q5 _ zqA;refine QN (by rfl) (by rfl) (qcF w0 hm ha (Zg lvSd) (UH (by decide)) (WF (by decide)) _ x4q0 ht4) fun x4q1 h4q1 hx4q1=>?_;obtain⟨hsP4,Ld,rvd,e4,hvd,hnd,hjd,hsmd,htxd,hsld,hctd,jjd,hppd⟩:=qch lv_d hx4q1;subst e4;have hvld:=hvd.shape.1;have hvnd:=qau hvd;rw[hnd]at hvnd;have hs_h4q1:Sub h h4q1:=Bq zqC hsP4;have hr_h4q1:Sub h4q0 h4q1:=Bq zqC hsP4;have eb_1q5:=hsP4 k1q5 _ zqA;have eb_2q5:=hsP4 k2q5 _ zqA;have eb_3q5:=hsP4 k3q5 _ zqA;simp+decide only[qh,qi,qj,qo,ev,qZ,qY,putD,Vz,VA,VB,Ka,VC,VD,Kb,and_true,↓qW,qU,↓Zl,XY,Zp,KX,JD,VG,Kn,decide_true,decide_false,VL,VM,Qc,Qb,forall_const,false_implies,Qk,Qf,J4,VN,VO,VP,VQ,VS,VT,VU,QI,cond_true,cond_false,qM,ne_eq,not_false_eq_true,qO w0 eb_1q5,qO w0 eb_2q5,qO w0 eb_3q5,ne_2q5_1q5,ne_2q5_1q5.symm,ne_3q5_1q5,ne_3q5_1q5.symm,ne_3q5_2q5,ne_3q5_2q5.symm,qN,qJ,VE,setAt,VF,Kj,qC,VG,Kn,Jp,Nat.reduceAdd,qF,qG,qI,qf,qK,qa,qz,qd,qE,qc,qA,qg,qH,qy,allLive,J4,tokV,posV,faultV];repeat (with_reducible refine And.intro ?_ ?_;· first|trivial|omega|(intro hg;simp only[Ky,JH,Jh,VH,VI,VJ,decide_eq_true_eq,decide_eq_false_iff_not,qR]at hg;omega))
 refine XL qje (cs:=[.int .i64 0, .int .i64 0, .int .i64 0]) (by rfl) fun k4q5 hk4q5=>?_;have hn_4q5:h4q1 k4q5=none:=by first|assumption|(simp only[V7]at hk4q5;simp only[hk4q5])
 have hf_4q5:h k4q5=none:=Bh hs_h4q1 hn_4q5;have ne_4q5_1q5:k4q5≠k1q5:=BG hn_4q5 eb_1q5;have ne_4q5_2q5:k4q5≠k2q5:=BG hn_4q5 eb_2q5;have ne_4q5_3q5:k4q5≠k3q5:=BG hn_4q5 eb_3q5;simp+decide only[qh,qi,qj,qo,ev,qZ,qY,putD,Vz,VA,VB,Ka,VC,VD,Kb,and_true,↓qV,qP,decide_true,decide_false,VL,VM,Qc,Qb,forall_const,false_implies,Qk,Qf,J4,VN,VO,VP,VQ,VS,VT,VU,QI,cond_true,cond_false,qM,ne_eq,not_false_eq_true,ne_4q5_1q5,ne_4q5_1q5.symm,ne_4q5_2q5,ne_4q5_2q5.symm,ne_4q5_3q5,ne_4q5_3q5.symm,qO w0 eb_1q5,qO w0 eb_2q5,qO w0 eb_3q5,ne_2q5_1q5,ne_2q5_1q5.symm,ne_3q5_1q5,ne_3q5_1q5.symm,ne_3q5_2q5,ne_3q5_2q5.symm,qN,qJ,VE,setAt,VF,Kj,qC,VG,Kn,Jp,Nat.reduceAdd,qF,qG,qI,qf,qK,qa,qz,qd,qE,qc,qA,qg,qH,qy,allLive,J4,tokV,posV,faultV];repeat (with_reducible refine And.intro ?_ ?_;· first|trivial|omega|(intro hg;simp only[Ky,JH,Jh,VH,VI,VJ,decide_eq_true_eq,decide_eq_false_iff_not,qR]at hg;omega))
 refine QR (by rfl) (by rfl) zqA qdt (by rfl) (by rfl) zqD (Jq _) (by rfl) ?_;simp only[Bi,setAt,VE,VF,Kj,Jp,Nat.reduceAdd];simp+decide only[qh,qi,qj,qo,ev,qZ,qY,putD,Vz,VA,VB,Ka,VC,VD,Kb,and_true,decide_true,decide_false,VL,VM,Qc,Qb,forall_const,false_implies,Qk,Qf,J4,VN,VO,VP,VQ,VS,VT,VU,QI,cond_true,cond_false,qM,ne_eq,not_false_eq_true,ne_4q5_1q5,ne_4q5_1q5.symm,ne_4q5_2q5,ne_4q5_2q5.symm,ne_4q5_3q5,ne_4q5_3q5.symm,qO w0 eb_1q5,qO w0 eb_2q5,qO w0 eb_3q5,ne_2q5_1q5,ne_2q5_1q5.symm,ne_3q5_1q5,ne_3q5_1q5.symm,ne_3q5_2q5,ne_3q5_2q5.symm,qN,qJ,VE,setAt,VF,Kj,qC,VG,Kn,Jp,Nat.reduceAdd,qF,qG,qI,qf,qK,qa,qz,qd,qE,qc,qA,qg,qH,qy,allLive,J4,tokV,posV,faultV];repeat (with_reducible refine And.intro ?_ ?_;· first|trivial|omega|(intro hg;simp only[Ky,JH,Jh,VH,VI,VJ,decide_eq_true_eq,decide_eq_false_iff_not,qR]at hg;omega))
 apply hK;clear hK K;refine awp_rseq [1,2,3,4,5,6,7,8,9,10] (by rfl) fun K hK=>?_;refine QN (by rfl) (by rfl) (qbf w0 hm ha _ lvSr (by decide) (by decide)) fun x5q0 h5q0 hx5q0=>?_;obtain⟨ht5,hsT5⟩:=hx5q0;have hs_h5q0:Sub h h5q0:=Bq zqC hsT5;have hr_h5q0:Sub h4q1 h5q0:=Bq zqC hsT5;have eb_4q5:=hsT5 k4q5 _ zqA;have eb_1q5:=hsT5 k1q5 _ zqA;have eb_2q5:=hsT5 k2q5 _ zqA;have eb_3q5:=hsT5 k3q5 _ zqA;refine QN (by rfl) (by rfl) (qcF w0 hm ha (Zg lvSr) (UH (by decide)) (WF (by decide)) _ x5q0 ht5) fun x5q1 h5q1 hx5q1=>?_;obtain⟨hsP5,Lr,rvr,e5,hvr,hnr,hjr,hsmr,htxr,hslr,hctr,jjr,hppr⟩:=qch lv_r hx5q1;subst e5;have hvlr:=hvr.shape.1;have hvnr:=qau hvr;rw[hnr]at hvnr;have hs_h5q1:Sub h h5q1:=Bq zqC hsP5;have hr_h5q1:Sub h5q0 h5q1:=Bq zqC hsP5;have eb_1q5:=hsP5 k1q5 _ zqA;have eb_2q5:=hsP5 k2q5 _ zqA;have eb_3q5:=hsP5 k3q5 _ zqA;have eb_4q5:=hsP5 k4q5 _ zqA;simp+decide only[qh,qi,qj,qo,ev,qZ,qY,putD,Vz,VA,VB,Ka,VC,VD,Kb,and_true,↓qW,qU,↓Zl,XY,Zp,KX,JD,VG,Kn,decide_true,decide_false,VL,VM,Qc,Qb,forall_const,false_implies,Qk,Qf,J4,VN,VO,VP,VQ,VS,VT,VU,QI,cond_true,cond_false,qM,ne_eq,not_false_eq_true,qO w0 eb_1q5,qO w0 eb_2q5,qO w0 eb_3q5,qO w0 eb_4q5,ne_2q5_1q5,ne_2q5_1q5.symm,ne_3q5_1q5,ne_3q5_1q5.symm,ne_3q5_2q5,ne_3q5_2q5.symm,ne_4q5_1q5,ne_4q5_1q5.symm,ne_4q5_2q5,ne_4q5_2q5.symm,ne_4q5_3q5,ne_4q5_3q5.symm,qN,qJ,VE,setAt,VF,Kj,qC,VG,Kn,Jp,Nat.reduceAdd,qF,qG,qI,qf,qK,qa,qz,qd,qE,qc,qA,qg,qH,qy,allLive,J4,tokV,posV,faultV];repeat (with_reducible refine And.intro ?_ ?_;· first|trivial|omega|(intro hg;simp only[Ky,JH,Jh,VH,VI,VJ,decide_eq_true_eq,decide_eq_false_iff_not,qR]at hg;omega))
 refine XL qje (cs:=[.int .i64 0, .int .i64 0, .int .i64 0]) (by rfl) fun k5q5 hk5q5=>?_;have hn_5q5:h5q1 k5q5=none:=by first|assumption|(simp only[V7]at hk5q5;simp only[hk5q5])
 have hf_5q5:h k5q5=none:=Bh hs_h5q1 hn_5q5;have ne_5q5_1q5:k5q5≠k1q5:=BG hn_5q5 eb_1q5;have ne_5q5_2q5:k5q5≠k2q5:=BG hn_5q5 eb_2q5;have ne_5q5_3q5:k5q5≠k3q5:=BG hn_5q5 eb_3q5;have ne_5q5_4q5:k5q5≠k4q5:=BG hn_5q5 eb_4q5;simp+decide only[qh,qi,qj,qo,ev,qZ,qY,putD,Vz,VA,VB,Ka,VC,VD,Kb,and_true,↓qV,qP,decide_true,decide_false,VL,VM,Qc,Qb,forall_const,false_implies,Qk,Qf,J4,VN,VO,VP,VQ,VS,VT,VU,QI,cond_true,cond_false,qM,ne_eq,not_false_eq_true,ne_5q5_1q5,ne_5q5_1q5.symm,ne_5q5_2q5,ne_5q5_2q5.symm,ne_5q5_3q5,ne_5q5_3q5.symm,ne_5q5_4q5,ne_5q5_4q5.symm,qO w0 eb_1q5,qO w0 eb_2q5,qO w0 eb_3q5,qO w0 eb_4q5,ne_2q5_1q5,ne_2q5_1q5.symm,ne_3q5_1q5,ne_3q5_1q5.symm,ne_3q5_2q5,ne_3q5_2q5.symm,ne_4q5_1q5,ne_4q5_1q5.symm,ne_4q5_2q5,ne_4q5_2q5.symm,ne_4q5_3q5,ne_4q5_3q5.symm,qN,qJ,VE,setAt,VF,Kj,qC,VG,Kn,Jp,Nat.reduceAdd,qF,qG,qI,qf,qK,qa,qz,qd,qE,qc,qA,qg,qH,qy,allLive,J4,tokV,posV,faultV];repeat (with_reducible refine And.intro ?_ ?_;· first|trivial|omega|(intro hg;simp only[Ky,JH,Jh,VH,VI,VJ,decide_eq_true_eq,decide_eq_false_iff_not,qR]at hg;omega))
 refine QR (by rfl) (by rfl) zqA qdt (by rfl) (by rfl) zqD (Jq _) (by rfl) ?_;simp only[Bi,setAt,VE,VF,Kj,Jp,Nat.reduceAdd];simp+decide only[qh,qi,qj,qo,ev,qZ,qY,putD,Vz,VA,VB,Ka,VC,VD,Kb,and_true,decide_true,decide_false,VL,VM,Qc,Qb,forall_const,false_implies,Qk,Qf,J4,VN,VO,VP,VQ,VS,VT,VU,QI,cond_true,cond_false,qM,ne_eq,not_false_eq_true,ne_5q5_1q5,ne_5q5_1q5.symm,ne_5q5_2q5,ne_5q5_2q5.symm,ne_5q5_3q5,ne_5q5_3q5.symm,ne_5q5_4q5,ne_5q5_4q5.symm,qO w0 eb_1q5,qO w0 eb_2q5,qO w0 eb_3q5,qO w0 eb_4q5,ne_2q5_1q5,ne_2q5_1q5.symm,ne_3q5_1q5,ne_3q5_1q5.symm,ne_3q5_2q5,ne_3q5_2q5.symm,ne_4q5_1q5,ne_4q5_1q5.symm,ne_4q5_2q5,ne_4q5_2q5.symm,ne_4q5_3q5,ne_4q5_3q5.symm,qN,qJ,VE,setAt,VF,Kj,qC,VG,Kn,Jp,Nat.reduceAdd,qF,qG,qI,qf,qK,qa,qz,qd,qE,qc,qA,qg,qH,qy,allLive,J4,tokV,posV,faultV];repeat (with_reducible refine And.intro ?_ ?_;· first|trivial|omega|(intro hg;simp only[Ky,JH,Jh,VH,VI,VJ,decide_eq_true_eq,decide_eq_false_iff_not,qR]at hg;omega))
 apply hK;clear hK K;refine Qp ?_;refine awp_rseq [1,3,5,7,9,87] (by kernel_rfl) fun K hK=>?_;try simp only[List.append_eq,Kh,Jd]
 simp+decide only[qh,qi,qj,qo,ev,qZ,qY,putD,Vz,VA,VB,Ka,VC,VD,Kb,and_true,↓Qo,Qd,qnv,↓Qu,QM,Qi ag24,↓Qj,Qa,Qm,cond_false,Qh,qai,↓qW,qU,↓XW,agP,Xw,gv,QB,QD,QC,Qs,Qg,Qe,Zk,implies_true,VK,decide_true,decide_false,VL,VM,Qc,Qb,forall_const,false_implies,Qk,Qf,J4,VN,VO,VP,VQ,VS,VT,VU,XN,XO,Xb,Xc,Xa,↓ZG,Zt,Wn,ZP,ZO,ZN,ZM,ZL,ZK,ZI,ZJ,↓XT,Zb,Za,Zd,Zc,↓XH,Xj,QO,QH,QG,QA,Xo,Xn,Xm,Xl,QZ,Xk,↓Zj,↓qet,Xh,QE Tryd.underlying23,QT Tryd.underlying23,qej,qel,decide_true,decide_false,VL,VM,Qc,Qb,forall_const,false_implies,Qk,Qf,J4,VN,VO,VP,VQ,VS,VT,VU,QI,cond_true,cond_false,qM,ne_eq,not_false_eq_true,ne_5q5_1q5,ne_5q5_1q5.symm,ne_5q5_2q5,ne_5q5_2q5.symm,ne_5q5_3q5,ne_5q5_3q5.symm,ne_5q5_4q5,ne_5q5_4q5.symm,qO w0 eb_1q5,qO w0 eb_2q5,qO w0 eb_3q5,qO w0 eb_4q5,ne_2q5_1q5,ne_2q5_1q5.symm,ne_3q5_1q5,ne_3q5_1q5.symm,ne_3q5_2q5,ne_3q5_2q5.symm,ne_4q5_1q5,ne_4q5_1q5.symm,ne_4q5_2q5,ne_4q5_2q5.symm,ne_4q5_3q5,ne_4q5_3q5.symm,qN,qJ,VE,setAt,VF,Kj,qC,VG,Kn,Jp,Nat.reduceAdd,qF,qG,qI,qf,qK,qa,qz,qd,qE,qc,qA,qg,qH,qy,allLive,J4,tokV,posV,faultV,hvla,hvna,hvlb,hvnb,hvlc,hvnc,hvld,hvnd,hvlr,hvnr];repeat (with_reducible refine And.intro ?_ ?_;· first|trivial|omega|(intro hg;simp only[Ky,JH,Jh,VH,VI,VJ,decide_eq_true_eq,decide_eq_false_iff_not,qR]at hg;omega))
 apply hK;clear hK K;refine Qw (b:=_) rfl (fun hb1=>?_) (fun hb1=>?_)
 ·cases hb1
 ·try simp only[decide_eq_true_eq,decide_eq_false_iff_not,Jh,VJ,Ky,VH,JH,VI,VV,VW,reduceCtorEq]at hb1
  refine QJ ?_;change Awp _ _ _ _ _ _ _;refine Qp ?_;refine awp_rseq [5,7,9,102] (by rfl) fun K hK=>?_;simp+decide only[qh,qi,qj,qo,ev,qZ,qY,putD,Vz,VA,VB,Ka,VC,VD,Kb,and_true,↓qW,qU,decide_true,decide_false,VL,VM,Qc,Qb,forall_const,false_implies,Qk,Qf,J4,VN,VO,VP,VQ,VS,VT,VU,QI,cond_true,cond_false,qM,ne_eq,not_false_eq_true,ne_5q5_1q5,ne_5q5_1q5.symm,ne_5q5_2q5,ne_5q5_2q5.symm,ne_5q5_3q5,ne_5q5_3q5.symm,ne_5q5_4q5,ne_5q5_4q5.symm,qO w0 eb_1q5,qO w0 eb_2q5,qO w0 eb_3q5,qO w0 eb_4q5,ne_2q5_1q5,ne_2q5_1q5.symm,ne_3q5_1q5,ne_3q5_1q5.symm,ne_3q5_2q5,ne_3q5_2q5.symm,ne_4q5_1q5,ne_4q5_1q5.symm,ne_4q5_2q5,ne_4q5_2q5.symm,ne_4q5_3q5,ne_4q5_3q5.symm,qN,qJ,VE,setAt,VF,Kj,qC,VG,Kn,Jp,Nat.reduceAdd,qF,qG,qI,qf,qK,qa,qz,qd,qE,qc,qA,qg,qH,qy,allLive,J4,tokV,posV,faultV,hvla,hvna,hvlb,hvnb,hvlc,hvnc,hvld,hvnd,hvlr,hvnr];repeat (with_reducible refine And.intro ?_ ?_;· first|trivial|omega|(intro hg;simp only[Ky,JH,Jh,VH,VI,VJ,decide_eq_true_eq,decide_eq_false_iff_not,qR]at hg;omega))
  refine QN (by rfl) (by rfl) (qcs w0 _ rva La (hva.mono (by repeat (first|exact Vg _|assumption|refine Bq ?_ (V8 (by assumption))|refine Bq ?_ (by assumption)))) hsma htxa hsla) fun x8q1 h8q1 hx8q1=>?_;obtain⟨hsta,hsSa⟩:=hx8q1;have hs_h8q1:Sub h h8q1:=Bq zqC hsSa;have hr_h8q1:Sub h5q1 h8q1:=Bq zqC hsSa;have eb_5q5:=hsSa k5q5 _ zqA;have eb_1q5:=hsSa k1q5 _ zqA;have eb_2q5:=hsSa k2q5 _ zqA;have eb_3q5:=hsSa k3q5 _ zqA;have eb_4q5:=hsSa k4q5 _ zqA;refine XD (V:= .str lvWa) (by rfl) (by rfl) (by rw[<-hja];exact qgW w0 _ _ (ZR 32 La) [32] hsta (by omega) (by rw[hja];decide)) ?_;simp+decide only[qh,qi,qj,qo,ev,qZ,qY,putD,Vz,VA,VB,Ka,VC,VD,Kb,and_true,↓Qj,Qa,XK,cond_false,XC,qaB,↓qW,qU,↓Zj,agP,Xw,gv,QB,QD,QC,Qs,Qg,Qe,Zk,implies_true,VK,decide_true,decide_false,VL,VM,Qc,Qb,forall_const,false_implies,Qk,Qf,J4,VN,VO,VP,VQ,VS,VT,VU,Xb,Xc,Xa,decide_true,decide_false,VL,VM,Qc,Qb,forall_const,false_implies,Qk,Qf,J4,VN,VO,VP,VQ,VS,VT,VU,QI,cond_true,cond_false,qM,ne_eq,not_false_eq_true,qO w0 eb_1q5,qO w0 eb_2q5,qO w0 eb_3q5,qO w0 eb_4q5,qO w0 eb_5q5,ne_2q5_1q5,ne_2q5_1q5.symm,ne_3q5_1q5,ne_3q5_1q5.symm,ne_3q5_2q5,ne_3q5_2q5.symm,ne_4q5_1q5,ne_4q5_1q5.symm,ne_4q5_2q5,ne_4q5_2q5.symm,ne_4q5_3q5,ne_4q5_3q5.symm,ne_5q5_1q5,ne_5q5_1q5.symm,ne_5q5_2q5,ne_5q5_2q5.symm,ne_5q5_3q5,ne_5q5_3q5.symm,ne_5q5_4q5,ne_5q5_4q5.symm,qN,qJ,VE,setAt,VF,Kj,qC,VG,Kn,Jp,Nat.reduceAdd,qF,qG,qI,qf,qK,qa,qz,qd,qE,qc,qA,qg,qH,qy,allLive,J4,tokV,posV,faultV,hvla,hvna,hvlb,hvnb,hvlc,hvnc,hvld,hvnd,hvlr,hvnr];repeat (with_reducible refine And.intro ?_ ?_;· first|trivial|omega|(intro hg;simp only[Ky,JH,Jh,VH,VI,VJ,decide_eq_true_eq,decide_eq_false_iff_not,qR]at hg;omega))
  refine Zf (by rfl) ?_;refine QN (by rfl) (by rfl) (qcs w0 _ rvb Lb (hvb.mono (by repeat (first|exact Vg _|assumption|refine Bq ?_ (V8 (by assumption))|refine Bq ?_ (by assumption)))) hsmb htxb hslb) fun x8q6 h8q6 hx8q6=>?_;obtain⟨hstb,hsSb⟩:=hx8q6;have hs_h8q6:Sub h h8q6:=Bq zqC hsSb;have hr_h8q6:Sub h8q1 h8q6:=Bq zqC hsSb;have eb_1q5:=hsSb k1q5 _ zqA;have eb_2q5:=hsSb k2q5 _ zqA;have eb_3q5:=hsSb k3q5 _ zqA;have eb_4q5:=hsSb k4q5 _ zqA;have eb_5q5:=hsSb k5q5 _ zqA;refine Zf (by rfl) ?_;refine XD (V:= .str lvWb) (by rfl) (by rfl) (by rw[<-hjb];exact qgW w0 _ _ (ZR 32 Lb) [32] hstb (by omega) (by rw[hjb];decide)) ?_;simp+decide only[qh,qi,qj,qo,ev,qZ,qY,putD,Vz,VA,VB,Ka,VC,VD,Kb,and_true,↓XT,Qa,agP,Xw,gv,QB,QD,QC,Qs,Qg,Qe,Zk,implies_true,VK,decide_true,decide_false,VL,VM,Qc,Qb,forall_const,false_implies,Qk,Qf,J4,VN,VO,VP,VQ,VS,VT,VU,XK,cond_false,Zb,Za,Zd,Zc,XC,qaB,Xb,Xc,Xa,↓XH,Xj,QO,QH,QG,QA,Xo,Xn,Xm,Xl,QZ,Xk,↓qW,qU,↓Zj,decide_true,decide_false,VL,VM,Qc,Qb,forall_const,false_implies,Qk,Qf,J4,VN,VO,VP,VQ,VS,VT,VU,QI,cond_true,cond_false,qM,ne_eq,not_false_eq_true,qO w0 eb_1q5,qO w0 eb_2q5,qO w0 eb_3q5,qO w0 eb_4q5,qO w0 eb_5q5,ne_2q5_1q5,ne_2q5_1q5.symm,ne_3q5_1q5,ne_3q5_1q5.symm,ne_3q5_2q5,ne_3q5_2q5.symm,ne_4q5_1q5,ne_4q5_1q5.symm,ne_4q5_2q5,ne_4q5_2q5.symm,ne_4q5_3q5,ne_4q5_3q5.symm,ne_5q5_1q5,ne_5q5_1q5.symm,ne_5q5_2q5,ne_5q5_2q5.symm,ne_5q5_3q5,ne_5q5_3q5.symm,ne_5q5_4q5,ne_5q5_4q5.symm,qN,qJ,VE,setAt,VF,Kj,qC,VG,Kn,Jp,Nat.reduceAdd,qF,qG,qI,qf,qK,qa,qz,qd,qE,qc,qA,qg,qH,qy,allLive,J4,tokV,posV,faultV,hvla,hvna,hvlb,hvnb,hvlc,hvnc,hvld,hvnd,hvlr,hvnr];repeat (with_reducible refine And.intro ?_ ?_;· first|trivial|omega|(intro hg;simp only[Ky,JH,Jh,VH,VI,VJ,decide_eq_true_eq,decide_eq_false_iff_not,qR]at hg;omega))
  refine Zf (by rfl) ?_;refine QN (by rfl) (by rfl) (qhJ w0 32 _ rvb Lb (hvb.mono (by repeat (first|exact Vg _|assumption|refine Bq ?_ (V8 (by assumption))|refine Bq ?_ (by assumption)))) hsmb (by omega)) fun x8q12 h8q12 hx8q12=>?_;obtain⟨rfl,hsC⟩:=hx8q12;rw[qrR hppb];have hs_h8q12:Sub h h8q12:=Bq zqC hsC;have hr_h8q12:Sub h8q6 h8q12:=Bq zqC hsC;have eb_1q5:=hsC k1q5 _ zqA;have eb_2q5:=hsC k2q5 _ zqA;have eb_3q5:=hsC k3q5 _ zqA;have eb_4q5:=hsC k4q5 _ zqA;have eb_5q5:=hsC k5q5 _ zqA;simp+decide only[qh,qi,qj,qo,ev,qZ,qY,putD,Vz,VA,VB,Ka,VC,VD,Kb,and_true,↓XT,Qa,agP,Xw,gv,QB,QD,QC,Qs,Qg,Qe,Zk,implies_true,VK,decide_true,decide_false,VL,VM,Qc,Qb,forall_const,false_implies,Qk,Qf,J4,VN,VO,VP,VQ,VS,VT,VU,Qm,cond_false,Zb,Za,Zd,Zc,Qh,qai,Xb,Xc,Xa,↓XH,Xj,QO,QH,QG,QA,Xo,Xn,Xm,Xl,QZ,Xk,decide_true,decide_false,VL,VM,Qc,Qb,forall_const,false_implies,Qk,Qf,J4,VN,VO,VP,VQ,VS,VT,VU,QI,cond_true,cond_false,qM,ne_eq,not_false_eq_true,qO w0 eb_1q5,qO w0 eb_2q5,qO w0 eb_3q5,qO w0 eb_4q5,qO w0 eb_5q5,ne_2q5_1q5,ne_2q5_1q5.symm,ne_3q5_1q5,ne_3q5_1q5.symm,ne_3q5_2q5,ne_3q5_2q5.symm,ne_4q5_1q5,ne_4q5_1q5.symm,ne_4q5_2q5,ne_4q5_2q5.symm,ne_4q5_3q5,ne_4q5_3q5.symm,ne_5q5_1q5,ne_5q5_1q5.symm,ne_5q5_2q5,ne_5q5_2q5.symm,ne_5q5_3q5,ne_5q5_3q5.symm,ne_5q5_4q5,ne_5q5_4q5.symm,qN,qJ,VE,setAt,VF,Kj,qC,VG,Kn,Jp,Nat.reduceAdd,qF,qG,qI,qf,qK,qa,qz,qd,qE,qc,qA,qg,qH,qy,allLive,J4,tokV,posV,faultV,hvla,hvna,hvlb,hvnb,hvlc,hvnc,hvld,hvnd,hvlr,hvnr];repeat (with_reducible refine And.intro ?_ ?_;· first|trivial|omega|(intro hg;simp only[Ky,JH,Jh,VH,VI,VJ,decide_eq_true_eq,decide_eq_false_iff_not,qR]at hg;omega))
  apply hK;clear hK K;refine Qw (b:=_) rfl (fun hb2=>?_) (fun hb2=>?_)
  ·cases hb2
  ·try simp only[decide_eq_true_eq,decide_eq_false_iff_not,Jh,VJ,Ky,VH,JH,VI,VV,VW,reduceCtorEq]at hb2
   refine QJ ?_;change Awp _ _ _ _ _ _ _;refine Qp ?_;refine awp_rseq [118] (by rfl) fun K hK=>?_;simp+decide only[qh,qi,qj,qo,ev,qZ,qY,putD,Vz,VA,VB,Ka,VC,VD,Kb,and_true,↓qW,qU,decide_true,decide_false,VL,VM,Qc,Qb,forall_const,false_implies,Qk,Qf,J4,VN,VO,VP,VQ,VS,VT,VU,QI,cond_true,cond_false,qM,ne_eq,not_false_eq_true,qO w0 eb_1q5,qO w0 eb_2q5,qO w0 eb_3q5,qO w0 eb_4q5,qO w0 eb_5q5,ne_2q5_1q5,ne_2q5_1q5.symm,ne_3q5_1q5,ne_3q5_1q5.symm,ne_3q5_2q5,ne_3q5_2q5.symm,ne_4q5_1q5,ne_4q5_1q5.symm,ne_4q5_2q5,ne_4q5_2q5.symm,ne_4q5_3q5,ne_4q5_3q5.symm,ne_5q5_1q5,ne_5q5_1q5.symm,ne_5q5_2q5,ne_5q5_2q5.symm,ne_5q5_3q5,ne_5q5_3q5.symm,ne_5q5_4q5,ne_5q5_4q5.symm,qN,qJ,VE,setAt,VF,Kj,qC,VG,Kn,Jp,Nat.reduceAdd,qF,qG,qI,qf,qK,qa,qz,qd,qE,qc,qA,qg,qH,qy,allLive,J4,tokV,posV,faultV,hvla,hvna,hvlb,hvnb,hvlc,hvnc,hvld,hvnd,hvlr,hvnr];repeat (with_reducible refine And.intro ?_ ?_;· first|trivial|omega|(intro hg;simp only[Ky,JH,Jh,VH,VI,VJ,decide_eq_true_eq,decide_eq_false_iff_not,qR]at hg;omega))
   refine QN (by rfl) (by rfl) (qcs w0 _ rvc Lc (hvc.mono (by repeat (first|exact Vg _|assumption|refine Bq ?_ (V8 (by assumption))|refine Bq ?_ (by assumption)))) hsmc htxc hslc) fun x10q1 h10q1 hx10q1=>?_;obtain⟨hstc,hsSc⟩:=hx10q1;have hs_h10q1:Sub h h10q1:=Bq zqC hsSc;have hr_h10q1:Sub h8q12 h10q1:=Bq zqC hsSc;have eb_1q5:=hsSc k1q5 _ zqA;have eb_2q5:=hsSc k2q5 _ zqA;have eb_3q5:=hsSc k3q5 _ zqA;have eb_4q5:=hsSc k4q5 _ zqA;have eb_5q5:=hsSc k5q5 _ zqA;refine XD (V:= .str lvWc) (by rfl) (by rfl) (by rw[<-hjc];exact qgW w0 _ _ (ZR 32 Lc) [32] hstc (by omega) (by rw[hjc];decide)) ?_;simp+decide only[qh,qi,qj,qo,ev,qZ,qY,putD,Vz,VA,VB,Ka,VC,VD,Kb,and_true,↓Qj,Qa,XK,cond_false,XC,qaB,↓qW,qU,↓Zj,agP,Xw,gv,QB,QD,QC,Qs,Qg,Qe,Zk,implies_true,VK,decide_true,decide_false,VL,VM,Qc,Qb,forall_const,false_implies,Qk,Qf,J4,VN,VO,VP,VQ,VS,VT,VU,Xb,Xc,Xa,decide_true,decide_false,VL,VM,Qc,Qb,forall_const,false_implies,Qk,Qf,J4,VN,VO,VP,VQ,VS,VT,VU,QI,cond_true,cond_false,qM,ne_eq,not_false_eq_true,qO w0 eb_1q5,qO w0 eb_2q5,qO w0 eb_3q5,qO w0 eb_4q5,qO w0 eb_5q5,ne_2q5_1q5,ne_2q5_1q5.symm,ne_3q5_1q5,ne_3q5_1q5.symm,ne_3q5_2q5,ne_3q5_2q5.symm,ne_4q5_1q5,ne_4q5_1q5.symm,ne_4q5_2q5,ne_4q5_2q5.symm,ne_4q5_3q5,ne_4q5_3q5.symm,ne_5q5_1q5,ne_5q5_1q5.symm,ne_5q5_2q5,ne_5q5_2q5.symm,ne_5q5_3q5,ne_5q5_3q5.symm,ne_5q5_4q5,ne_5q5_4q5.symm,qN,qJ,VE,setAt,VF,Kj,qC,VG,Kn,Jp,Nat.reduceAdd,qF,qG,qI,qf,qK,qa,qz,qd,qE,qc,qA,qg,qH,qy,allLive,J4,tokV,posV,faultV,hvla,hvna,hvlb,hvnb,hvlc,hvnc,hvld,hvnd,hvlr,hvnr];repeat (with_reducible refine And.intro ?_ ?_;· first|trivial|omega|(intro hg;simp only[Ky,JH,Jh,VH,VI,VJ,decide_eq_true_eq,decide_eq_false_iff_not,qR]at hg;omega))
   refine Zf (by rfl) ?_;refine QN (by rfl) (by rfl) (qcs w0 _ rvd Ld (hvd.mono (by repeat (first|exact Vg _|assumption|refine Bq ?_ (V8 (by assumption))|refine Bq ?_ (by assumption)))) hsmd htxd hsld) fun x10q6 h10q6 hx10q6=>?_;obtain⟨hstd,hsSd⟩:=hx10q6;have hs_h10q6:Sub h h10q6:=Bq zqC hsSd;have hr_h10q6:Sub h10q1 h10q6:=Bq zqC hsSd;have eb_1q5:=hsSd k1q5 _ zqA;have eb_2q5:=hsSd k2q5 _ zqA;have eb_3q5:=hsSd k3q5 _ zqA;have eb_4q5:=hsSd k4q5 _ zqA;have eb_5q5:=hsSd k5q5 _ zqA;refine Zf (by rfl) ?_;refine XD (V:= .str lvWd) (by rfl) (by rfl) (by rw[<-hjd];exact qgW w0 _ _ (ZR 32 Ld) [32] hstd (by omega) (by rw[hjd];decide)) ?_;simp+decide only[qh,qi,qj,qo,ev,qZ,qY,putD,Vz,VA,VB,Ka,VC,VD,Kb,and_true,↓XT,Qa,agP,Xw,gv,QB,QD,QC,Qs,Qg,Qe,Zk,implies_true,VK,decide_true,decide_false,VL,VM,Qc,Qb,forall_const,false_implies,Qk,Qf,J4,VN,VO,VP,VQ,VS,VT,VU,XK,cond_false,Zb,Za,Zd,Zc,XC,qaB,Xb,Xc,Xa,↓XH,Xj,QO,QH,QG,QA,Xo,Xn,Xm,Xl,QZ,Xk,↓qW,qU,↓Zj,decide_true,decide_false,VL,VM,Qc,Qb,forall_const,false_implies,Qk,Qf,J4,VN,VO,VP,VQ,VS,VT,VU,QI,cond_true,cond_false,qM,ne_eq,not_false_eq_true,qO w0 eb_1q5,qO w0 eb_2q5,qO w0 eb_3q5,qO w0 eb_4q5,qO w0 eb_5q5,ne_2q5_1q5,ne_2q5_1q5.symm,ne_3q5_1q5,ne_3q5_1q5.symm,ne_3q5_2q5,ne_3q5_2q5.symm,ne_4q5_1q5,ne_4q5_1q5.symm,ne_4q5_2q5,ne_4q5_2q5.symm,ne_4q5_3q5,ne_4q5_3q5.symm,ne_5q5_1q5,ne_5q5_1q5.symm,ne_5q5_2q5,ne_5q5_2q5.symm,ne_5q5_3q5,ne_5q5_3q5.symm,ne_5q5_4q5,ne_5q5_4q5.symm,qN,qJ,VE,setAt,VF,Kj,qC,VG,Kn,Jp,Nat.reduceAdd,qF,qG,qI,qf,qK,qa,qz,qd,qE,qc,qA,qg,qH,qy,allLive,J4,tokV,posV,faultV,hvla,hvna,hvlb,hvnb,hvlc,hvnc,hvld,hvnd,hvlr,hvnr];repeat (with_reducible refine And.intro ?_ ?_;· first|trivial|omega|(intro hg;simp only[Ky,JH,Jh,VH,VI,VJ,decide_eq_true_eq,decide_eq_false_iff_not,qR]at hg;omega))
   refine Zf (by rfl) ?_;refine QN (by rfl) (by rfl) (qcs w0 _ rvr Lr (hvr.mono (by repeat (first|exact Vg _|assumption|refine Bq ?_ (V8 (by assumption))|refine Bq ?_ (by assumption)))) hsmr htxr hslr) fun x10q12 h10q12 hx10q12=>?_;obtain⟨hstr,hsSr⟩:=hx10q12;have hs_h10q12:Sub h h10q12:=Bq zqC hsSr;have hr_h10q12:Sub h10q6 h10q12:=Bq zqC hsSr;have eb_1q5:=hsSr k1q5 _ zqA;have eb_2q5:=hsSr k2q5 _ zqA;have eb_3q5:=hsSr k3q5 _ zqA;have eb_4q5:=hsSr k4q5 _ zqA;have eb_5q5:=hsSr k5q5 _ zqA;refine Zf (by rfl) ?_;refine XD (V:= .str lvWr) (by rfl) (by rfl) (by rw[<-hjr];exact qgW w0 _ _ (ZR 32 Lr) [32] hstr (by omega) (by rw[hjr];decide)) ?_;simp+decide only[qh,qi,qj,qo,ev,qZ,qY,putD,Vz,VA,VB,Ka,VC,VD,Kb,and_true,↓XT,Qa,agP,Xw,gv,QB,QD,QC,Qs,Qg,Qe,Zk,implies_true,VK,decide_true,decide_false,VL,VM,Qc,Qb,forall_const,false_implies,Qk,Qf,J4,VN,VO,VP,VQ,VS,VT,VU,XK,cond_false,Zb,Za,Zd,Zc,XC,qaB,Xb,Xc,Xa,↓XH,Xj,QO,QH,QG,QA,Xo,Xn,Xm,Xl,QZ,Xk,decide_true,decide_false,VL,VM,Qc,Qb,forall_const,false_implies,Qk,Qf,J4,VN,VO,VP,VQ,VS,VT,VU,QI,cond_true,cond_false,qM,ne_eq,not_false_eq_true,qO w0 eb_1q5,qO w0 eb_2q5,qO w0 eb_3q5,qO w0 eb_4q5,qO w0 eb_5q5,ne_2q5_1q5,ne_2q5_1q5.symm,ne_3q5_1q5,ne_3q5_1q5.symm,ne_3q5_2q5,ne_3q5_2q5.symm,ne_4q5_1q5,ne_4q5_1q5.symm,ne_4q5_2q5,ne_4q5_2q5.symm,ne_4q5_3q5,ne_4q5_3q5.symm,ne_5q5_1q5,ne_5q5_1q5.symm,ne_5q5_2q5,ne_5q5_2q5.symm,ne_5q5_3q5,ne_5q5_3q5.symm,ne_5q5_4q5,ne_5q5_4q5.symm,qN,qJ,VE,setAt,VF,Kj,qC,VG,Kn,Jp,Nat.reduceAdd,qF,qG,qI,qf,qK,qa,qz,qd,qE,qc,qA,qg,qH,qy,allLive,J4,tokV,posV,faultV,hvla,hvna,hvlb,hvnb,hvlc,hvnc,hvld,hvnd,hvlr,hvnr];repeat (with_reducible refine And.intro ?_ ?_;· first|trivial|omega|(intro hg;simp only[Ky,JH,Jh,VH,VI,VJ,decide_eq_true_eq,decide_eq_false_iff_not,qR]at hg;omega))
   apply hK;clear hK K;refine Qw (b:=_) rfl (fun hb3=>?_) (fun hb3=>?_)
   ·cases hb3
   ·try simp only[decide_eq_true_eq,decide_eq_false_iff_not,Jh,VJ,Ky,VH,JH,VI,VV,VW,reduceCtorEq]at hb3
    refine QJ ?_;change Awp _ _ _ _ _ _ _;refine awp_rseq [11] (by rfl) fun K hK=>?_;refine QS (cs:=lvT.map AVal.str) (by kernel_rfl) fun k12q0 hk12q0=>?_;have hn_12q0:h10q12 k12q0=none:=by first|assumption|(simp only[V7]at hk12q0;simp only[hk12q0])
    have hf_12q0:h k12q0=none:=Bh hs_h10q12 hn_12q0;have ne_12q0_1q5:k12q0≠k1q5:=BG hn_12q0 eb_1q5;have ne_12q0_2q5:k12q0≠k2q5:=BG hn_12q0 eb_2q5;have ne_12q0_3q5:k12q0≠k3q5:=BG hn_12q0 eb_3q5;have ne_12q0_4q5:k12q0≠k4q5:=BG hn_12q0 eb_4q5;have ne_12q0_5q5:k12q0≠k5q5:=BG hn_12q0 eb_5q5;simp+decide only[qh,qi,qj,qo,ev,qZ,qY,putD,Vz,VA,VB,Ka,VC,VD,Kb,and_true,↓qV,qP,decide_true,decide_false,VL,VM,Qc,Qb,forall_const,false_implies,Qk,Qf,J4,VN,VO,VP,VQ,VS,VT,VU,QI,cond_true,cond_false,qM,ne_eq,not_false_eq_true,ne_12q0_1q5,ne_12q0_1q5.symm,ne_12q0_2q5,ne_12q0_2q5.symm,ne_12q0_3q5,ne_12q0_3q5.symm,ne_12q0_4q5,ne_12q0_4q5.symm,ne_12q0_5q5,ne_12q0_5q5.symm,qO w0 eb_1q5,qO w0 eb_2q5,qO w0 eb_3q5,qO w0 eb_4q5,qO w0 eb_5q5,ne_2q5_1q5,ne_2q5_1q5.symm,ne_3q5_1q5,ne_3q5_1q5.symm,ne_3q5_2q5,ne_3q5_2q5.symm,ne_4q5_1q5,ne_4q5_1q5.symm,ne_4q5_2q5,ne_4q5_2q5.symm,ne_4q5_3q5,ne_4q5_3q5.symm,ne_5q5_1q5,ne_5q5_1q5.symm,ne_5q5_2q5,ne_5q5_2q5.symm,ne_5q5_3q5,ne_5q5_3q5.symm,ne_5q5_4q5,ne_5q5_4q5.symm,qN,qJ,VE,setAt,VF,Kj,qC,VG,Kn,Jp,Nat.reduceAdd,qF,qG,qI,qf,qK,qa,qz,qd,qE,qc,qA,qg,qH,qy,allLive,J4,tokV,posV,faultV,hvla,hvna,hvlb,hvnb,hvlc,hvnc,hvld,hvnd,hvlr,hvnr];repeat (with_reducible refine And.intro ?_ ?_;· first|trivial|omega|(intro hg;simp only[Ky,JH,Jh,VH,VI,VJ,decide_eq_true_eq,decide_eq_false_iff_not,qR]at hg;omega))
    apply hK;clear hK K;refine Qp ?_;refine awp_rseq [11,12] (by rfl) fun K hK=>?_;simp+decide only[qh,qi,qj,qo,ev,qZ,qY,putD,Vz,VA,VB,Ka,VC,VD,Kb,and_true,↓qV,qP,decide_true,decide_false,VL,VM,Qc,Qb,forall_const,false_implies,Qk,Qf,J4,VN,VO,VP,VQ,VS,VT,VU,QI,cond_true,cond_false,qM,ne_eq,not_false_eq_true,ne_12q0_1q5,ne_12q0_1q5.symm,ne_12q0_2q5,ne_12q0_2q5.symm,ne_12q0_3q5,ne_12q0_3q5.symm,ne_12q0_4q5,ne_12q0_4q5.symm,ne_12q0_5q5,ne_12q0_5q5.symm,qO w0 eb_1q5,qO w0 eb_2q5,qO w0 eb_3q5,qO w0 eb_4q5,qO w0 eb_5q5,ne_2q5_1q5,ne_2q5_1q5.symm,ne_3q5_1q5,ne_3q5_1q5.symm,ne_3q5_2q5,ne_3q5_2q5.symm,ne_4q5_1q5,ne_4q5_1q5.symm,ne_4q5_2q5,ne_4q5_2q5.symm,ne_4q5_3q5,ne_4q5_3q5.symm,ne_5q5_1q5,ne_5q5_1q5.symm,ne_5q5_2q5,ne_5q5_2q5.symm,ne_5q5_3q5,ne_5q5_3q5.symm,ne_5q5_4q5,ne_5q5_4q5.symm,qN,qJ,VE,setAt,VF,Kj,qC,VG,Kn,Jp,Nat.reduceAdd,qF,qG,qI,qf,qK,qa,qz,qd,qE,qc,qA,qg,qH,qy,allLive,J4,tokV,posV,faultV,hvla,hvna,hvlb,hvnb,hvlc,hvnc,hvld,hvnd,hvlr,hvnr];repeat (with_reducible refine And.intro ?_ ?_;· first|trivial|omega|(intro hg;simp only[Ky,JH,Jh,VH,VI,VJ,decide_eq_true_eq,decide_eq_false_iff_not,qR]at hg;omega))
    apply hK;clear hK K;refine QL ?_;refine XI [11,12] (fun g:LtG=>[(11, .slice (.own k12q0) 0 4 (.exact 4)),(12, .int .i64 g.i)]) (fun g:LtG=>g.H) (fun g:LtG=>g.i<=4/\Sub h g.H/\g.H k12q0=some ⟨lvT.map AVal.str,0⟩) (fun g:LtG=>4-g.i) ⟨0, .nilSlice,emp,_⟩ (by rfl) (Vg _) ⟨Jq _,zqB,zqA⟩ ?_;rintro⟨i,rv,rp,H⟩ ⟨hi,hs_H,eb_12q0⟩;simp only at hi hs_H eb_12q0|-
    refine Qp ?_;refine awp_rseq [11,12,121] (by rfl) fun K hK=>?_;simp+decide only[qh,qi,qj,qo,ev,qZ,qY,putD,Vz,VA,VB,Ka,VC,VD,Kb,and_true,↓qW,qU,↓Qj,Qa,Qm,cond_false,Qh,Zo,decide_true,decide_false,VL,VM,Qc,Qb,forall_const,false_implies,Qk,Qf,J4,VN,VO,VP,VQ,VS,VT,VU,QI,cond_true,cond_false,qM,ne_eq,not_false_eq_true,qO w0 eb_12q0,qN,qJ,VE,setAt,VF,Kj,qC,VG,Kn,Jp,Nat.reduceAdd,qF,qG,qI,qf,qK,qa,qz,qd,qE,qc,qA,qg,qH,qy,allLive,J4,tokV,posV,faultV,hvla,hvna,hvlb,hvnb,hvlc,hvnc,hvld,hvnd,hvlr,hvnr];repeat (with_reducible refine And.intro ?_ ?_;· first|trivial|omega|(intro hg;simp only[Ky,JH,Jh,VH,VI,VJ,decide_eq_true_eq,decide_eq_false_iff_not,qR]at hg;omega))
    apply hK;clear hK K;refine Qw (b:=_) rfl (fun hb4=>?_) (fun hb4=>?_)
    ·try simp only[decide_eq_true_eq,decide_eq_false_iff_not,Jh,VJ,Ky,VH,JH,VI,VV,VW,reduceCtorEq]at hb4
     have hi':i<4:=by omega
     obtain⟨s,hs⟩:∃s,s=lvT.getD i []:=⟨_,rfl⟩
     obtain⟨ln,hln⟩:∃ln,ln=lvL.getD i 0:=⟨_,rfl⟩
     have es:=qfi (w0:=w0) eb_12q0 hi';rw[<-hs,qO w0 eb_12q0]at es;have hbad:=Jz.1 lv_bad i (List.mem_range.2 hi');rw[<-hs,<-hln,Ky,Ky,decide_eq_true_eq]at hbad;obtain⟨hbad,hsl,hsa⟩:=hbad;have hi4:((i:Int)<4)=True:=eq_true (by omega);have hwi:IntKind.i64.wrap ((i:Int)+1)=((i+1:Nat):Int):=by rw[wrap_i64 (by omega) (by omega)];omega
     have hcell:([AVal.int .i64 5, .int .i64 1, .int .i64 1, .int .i64 1]:List AVal).getD i .dead= .int .i64 ln:=by
      rw[hln];have q:i=0\/i=1\/i=2\/i=3:=by omega
      rcases q with rfl|rfl|rfl|rfl<;>rfl
     refine QJ ?_;change Awp _ _ _ _ _ _ _;refine Qp ?_;refine QL ?_;refine awp_rseq [11,12,14] (by rfl) fun K hK=>?_;simp+decide only[qh,qi,qj,qo,ev,qZ,qY,putD,Vz,VA,VB,Ka,VC,VD,Kb,and_true,↓qW,qU,↓QV,QM,Ql Tryd.underlying22 sz9,↓Qu,Qi ag9,decide_true,decide_false,VL,VM,Qc,Qb,forall_const,false_implies,Qk,Qf,J4,VN,VO,VP,VQ,VS,VT,VU,QI,cond_true,cond_false,qM,ne_eq,not_false_eq_true,qO w0 eb_12q0,qN,qJ,VE,setAt,VF,Kj,qC,VG,Kn,Jp,Nat.reduceAdd,qF,qG,qI,qf,qK,qa,qz,qd,qE,qc,qA,qg,qH,qy,allLive,J4,tokV,posV,faultV,hvla,hvna,hvlb,hvnb,hvlc,hvnc,hvld,hvnd,hvlr,hvnr,es,hi4,VX,V6,Jp];repeat (with_reducible refine And.intro ?_ ?_;· first|trivial|omega|(intro hg;simp only[Ky,JH,Jh,VH,VI,VJ,decide_eq_true_eq,decide_eq_false_iff_not,qR]at hg;omega))
     refine QN (by rfl) (by rfl) (qbf w0 hm ha _ s (by omega) hsa) fun x16q4 h16q4 hx16q4=>?_;obtain⟨ht16,hsT16⟩:=hx16q4;have hs_h16q4:Sub h h16q4:=Bq zqC hsT16;have hr_h16q4:Sub H h16q4:=Bq zqC hsT16;have eb_12q0:=hsT16 k12q0 _ zqA;refine QN (by rfl) (by rfl) (qcF w0 hm ha (Zg s) (UH (by omega)) (WF (by omega)) _ x16q4 ht16) fun x16q5 h16q5 hx16q5=>?_;obtain⟨hsP16,e16⟩:=qpk hbad hx16q5;subst e16;have hs_h16q5:Sub h h16q5:=Bq zqC hsP16;have hr_h16q5:Sub h16q4 h16q5:=Bq zqC hsP16;have eb_12q0:=hsP16 k12q0 _ zqA;simp+decide only[qh,qi,qj,qo,ev,qZ,qY,putD,Vz,VA,VB,Ka,VC,VD,Kb,and_true,↓qW,qU,↓Zl,XY,Zp,KX,JD,VG,Kn,decide_true,decide_false,VL,VM,Qc,Qb,forall_const,false_implies,Qk,Qf,J4,VN,VO,VP,VQ,VS,VT,VU,QI,cond_true,cond_false,qM,ne_eq,not_false_eq_true,qO w0 eb_12q0,qN,qJ,VE,setAt,VF,Kj,qC,VG,Kn,Jp,Nat.reduceAdd,qF,qG,qI,qf,qK,qa,qz,qd,qE,qc,qA,qg,qH,qy,allLive,J4,tokV,posV,faultV,hvla,hvna,hvlb,hvnb,hvlc,hvnc,hvld,hvnd,hvlr,hvnr,es,hi4,VX,V6,Jp];repeat (with_reducible refine And.intro ?_ ?_;· first|trivial|omega|(intro hg;simp only[Ky,JH,Jh,VH,VI,VJ,decide_eq_true_eq,decide_eq_false_iff_not,qR]at hg;omega))
     refine XL qje (cs:=[.int .i64 0, .int .i64 0, .int .i64 0]) (by rfl) fun k16q9 hk16q9=>?_;have hn_16q9:h16q5 k16q9=none:=by first|assumption|(simp only[V7]at hk16q9;simp only[hk16q9])
     have hf_16q9:h k16q9=none:=Bh hs_h16q5 hn_16q9;have ne_16q9_12q0:k16q9≠k12q0:=BG hn_16q9 eb_12q0;simp+decide only[qh,qi,qj,qo,ev,qZ,qY,putD,Vz,VA,VB,Ka,VC,VD,Kb,and_true,↓qV,qP,decide_true,decide_false,VL,VM,Qc,Qb,forall_const,false_implies,Qk,Qf,J4,VN,VO,VP,VQ,VS,VT,VU,QI,cond_true,cond_false,qM,ne_eq,not_false_eq_true,ne_16q9_12q0,ne_16q9_12q0.symm,qO w0 eb_12q0,qN,qJ,VE,setAt,VF,Kj,qC,VG,Kn,Jp,Nat.reduceAdd,qF,qG,qI,qf,qK,qa,qz,qd,qE,qc,qA,qg,qH,qy,allLive,J4,tokV,posV,faultV,hvla,hvna,hvlb,hvnb,hvlc,hvnc,hvld,hvnd,hvlr,hvnr,es,hi4,VX,V6,Jp];repeat (with_reducible refine And.intro ?_ ?_;· first|trivial|omega|(intro hg;simp only[Ky,JH,Jh,VH,VI,VJ,decide_eq_true_eq,decide_eq_false_iff_not,qR]at hg;omega))
     refine QR (by rfl) (by rfl) zqA qdt (by rfl) (by rfl) zqD (Jq _) (by rfl) ?_;simp only[Bi,setAt,VE,VF,Kj,Jp,Nat.reduceAdd];simp+decide only[qh,qi,qj,qo,ev,qZ,qY,putD,Vz,VA,VB,Ka,VC,VD,Kb,and_true,decide_true,decide_false,VL,VM,Qc,Qb,forall_const,false_implies,Qk,Qf,J4,VN,VO,VP,VQ,VS,VT,VU,QI,cond_true,cond_false,qM,ne_eq,not_false_eq_true,ne_16q9_12q0,ne_16q9_12q0.symm,qO w0 eb_12q0,qN,qJ,VE,setAt,VF,Kj,qC,VG,Kn,Jp,Nat.reduceAdd,qF,qG,qI,qf,qK,qa,qz,qd,qE,qc,qA,qg,qH,qy,allLive,J4,tokV,posV,faultV,hvla,hvna,hvlb,hvnb,hvlc,hvnc,hvld,hvnd,hvlr,hvnr,es,hi4,VX,V6,Jp];repeat (with_reducible refine And.intro ?_ ?_;· first|trivial|omega|(intro hg;simp only[Ky,JH,Jh,VH,VI,VJ,decide_eq_true_eq,decide_eq_false_iff_not,qR]at hg;omega))
     apply hK;clear hK K;refine qbg 8 [] [11,12,140] mixed (by kernel_rfl) (by rfl) fun K hK=>?_;simp only[Ki,Bj,List.drop_succ_cons,Vk,List.take_nil,List.drop_nil];simp+decide only[qh,qi,qj,qo,ev,qZ,qY,putD,Vz,VA,VB,Ka,VC,VD,Kb,and_true,↓qbm,Yg,Xy qmr qdt,decide_true,decide_false,VL,VM,Qc,Qb,forall_const,false_implies,Qk,Qf,J4,VN,VO,VP,VQ,VS,VT,VU,QI,cond_true,cond_false,qM,ne_eq,not_false_eq_true,ne_16q9_12q0,ne_16q9_12q0.symm,qO w0 eb_12q0,qN,qJ,VE,setAt,VF,Kj,qC,VG,Kn,Jp,Nat.reduceAdd,qF,qG,qI,qf,qK,qa,qz,qd,qE,qc,qA,qg,qH,qy,allLive,J4,tokV,posV,faultV,hvla,hvna,hvlb,hvnb,hvlc,hvnc,hvld,hvnd,hvlr,hvnr,hi4,hcell,VX,V6,Jp];repeat (with_reducible refine And.intro ?_ ?_;· first|trivial|omega|(intro hg;simp only[Ky,JH,Jh,VH,VI,VJ,decide_eq_true_eq,decide_eq_false_iff_not,qR]at hg;omega))
     refine qaM (by rfl) ?_;refine QS (cs:=[.int .i64 5, .int .i64 1, .int .i64 1, .int .i64 1]) (by kernel_rfl) fun k17q1 hk17q1=>?_;have ne_17q1_16q9:k17q1≠k16q9:=by simp only[V7]at hk17q1;simp only[hk17q1,ne_eq,not_false_eq_true]
     have hn_17q1:h16q5 k17q1=none:=by first|assumption|(simp only[V7]at hk17q1;simp only[hk17q1])
     have hf_17q1:h k17q1=none:=Bh hs_h16q5 hn_17q1;have ne_17q1_12q0:k17q1≠k12q0:=BG hn_17q1 eb_12q0;rw[qh];simp+decide only[qh,qi,qj,qo,ev,qZ,qY,putD,Vz,VA,VB,Ka,VC,VD,Kb,and_true,↓qbl,qU,↓WV,Yg,Ql Tryd.underlying70 sz3,ZH,↓qbm,Qi ag3,↓qis,ZU,↓Zz,qgZ,evP,Ke,Vh,Ym,Zr,ZV,Ue,ZA,Wt,ZW,qjU,↓qfT,Qa,Qz,cond_false,qjy,ne28,decide_true,decide_false,VL,VM,Qc,Qb,forall_const,false_implies,Qk,Qf,J4,VN,VO,VP,VQ,VS,VT,VU,QI,cond_true,cond_false,qM,ne_eq,not_false_eq_true,ne_16q9_12q0,ne_16q9_12q0.symm,ne_17q1_16q9,ne_17q1_16q9.symm,ne_17q1_12q0,ne_17q1_12q0.symm,qO w0 eb_12q0,qN,qJ,VE,setAt,VF,Kj,qC,VG,Kn,Jp,Nat.reduceAdd,qF,qG,qI,qf,qK,qa,qz,qd,qE,qc,qA,qg,qH,qy,allLive,J4,tokV,posV,faultV,hvla,hvna,hvlb,hvnb,hvlc,hvnc,hvld,hvnd,hvlr,hvnr,hi4,hcell,VX,V6,Jp];repeat (with_reducible refine And.intro ?_ ?_;· first|trivial|omega|(intro hg;simp only[Ky,JH,Jh,VH,VI,VJ,decide_eq_true_eq,decide_eq_false_iff_not,qR]at hg;omega))
     apply hK;clear hK K;refine Qw (b:=_) rfl (fun hb5=>?_) (fun hb5=>?_)
     ·simp at hb5
     ·try simp only[decide_eq_true_eq,decide_eq_false_iff_not,Jh,VJ,Ky,VH,JH,VI,VV,VW,reduceCtorEq]at hb5
      refine QJ ?_;change Awp _ _ _ _ _ _ _;refine XZ [11,12] (by rfl) ?_;simp+decide only[qh,qi,qj,qo,ev,qZ,qY,putD,Vz,VA,VB,Ka,VC,VD,Kb,and_true,↓qW,qU,↓Qj,Qa,Qm,cond_false,Qh,XM,↓qV,qP,decide_true,decide_false,VL,VM,Qc,Qb,forall_const,false_implies,Qk,Qf,J4,VN,VO,VP,VQ,VS,VT,VU,QI,cond_true,cond_false,qM,ne_eq,not_false_eq_true,ne_16q9_12q0,ne_16q9_12q0.symm,ne_17q1_16q9,ne_17q1_16q9.symm,ne_17q1_12q0,ne_17q1_12q0.symm,qO w0 eb_12q0,qN,qJ,VE,setAt,VF,Kj,qC,VG,Kn,Jp,Nat.reduceAdd,qF,qG,qI,qf,qK,qa,qz,qd,qE,qc,qA,qg,qH,qy,allLive,J4,tokV,posV,faultV,hvla,hvna,hvlb,hvnb,hvlc,hvnc,hvld,hvnd,hvlr,hvnr,hwi];try simp(disch:=omega)only[wrap_i64,wrap_u8]
      repeat (with_reducible refine And.intro ?_ ?_;· first|trivial|omega|(intro hg;simp only[Ky,JH,Jh,VH,VI,VJ,decide_eq_true_eq,decide_eq_false_iff_not,qR]at hg;omega))
      try simp only[QK,Qt]
      exact⟨⟨i+1, .nilSlice,emp,_⟩,rfl,Vg _,⟨hi',zqB,zqA⟩,by simp only;omega⟩
    ·try simp only[decide_eq_true_eq,decide_eq_false_iff_not,Jh,VJ,Ky,VH,JH,VI,VV,VW,reduceCtorEq]at hb4
     refine XJ ?_;change Awp _ _ _ _ _ _ _;refine awp_rseq [0] (by rfl) fun K hK=>?_;simp+decide only[qh,qi,qj,qo,ev,qZ,qY,putD,Vz,VA,VB,Ka,VC,VD,Kb,and_true,↓qV,qP,decide_true,decide_false,VL,VM,Qc,Qb,forall_const,false_implies,Qk,Qf,J4,VN,VO,VP,VQ,VS,VT,VU,QI,cond_true,cond_false,qM,ne_eq,not_false_eq_true,qO w0 eb_12q0,qN,qJ,VE,setAt,VF,Kj,qC,VG,Kn,Jp,Nat.reduceAdd,qF,qG,qI,qf,qK,qa,qz,qd,qE,qc,qA,qg,qH,qy,allLive,J4,tokV,posV,faultV,hvla,hvna,hvlb,hvnb,hvlc,hvnc,hvld,hvnd,hvlr,hvnr];repeat (with_reducible refine And.intro ?_ ?_;· first|trivial|omega|(intro hg;simp only[Ky,JH,Jh,VH,VI,VJ,decide_eq_true_eq,decide_eq_false_iff_not,qR]at hg;omega))
     apply hK;clear hK K;refine Xd ?_;try simp only[QF,Qn]
     refine XV h zqC (Qr (Qv)) ?_;simp+decide only[qh,qi,qj,qo,ev,qZ,qY,putD,Vz,VA,VB,Ka,VC,VD,Kb,and_true,QU,decide_true,decide_false,VL,VM,Qc,Qb,forall_const,false_implies,Qk,Qf,J4,VN,VO,VP,VQ,VS,VT,VU,QI,cond_true,cond_false,qM,ne_eq,not_false_eq_true,qO w0 eb_12q0,qN,qJ,VE,setAt,VF,Kj,qC,VG,Kn,Jp,Nat.reduceAdd,qF,qG,qI,qf,qK,qa,qz,qd,qE,qc,qA,qg,qH,qy,allLive,J4,tokV,posV,faultV,hvla,hvna,hvlb,hvnb,hvlc,hvnc,hvld,hvnd,hvlr,hvnr];exact Vg _
end Go.Proofs.YtgiadjbiimkbiaaDoor
namespace Go.Stm
open Go.Col (Str)
open Go.Tok
def qmw:Str:=[69,78,68,45]
def qaA:TokC:=⟨6,[46],0,0,false⟩
def qfa(v:Str):TokC:=⟨1,v,0,0,false⟩
def spT2(w:Str):TokC:=⟨if w=[61]then 5 else 1,w,0,0,false⟩
def qdZ(s:Str):List TokC:=(Lib.fields s).map spT2
def hasEnd(v:Str):Bool:= !Lib.contains v [32] && Lib.contains qdh ([32]++v++[32])
def qmC(out:List TokC)(p:PhrC):List TokC:=out++qdZ p.words++p.toks
def qmD(W:List TokC->List StC->List TokC)(out:List TokC)(b:BodC):List TokC:=W (out++qdZ b.1++b.2.1) b.2.2
def qgr(v:Str)(o:List TokC):List TokC:=if hasEnd v=true then o++qdZ (qmw++v)else o
def qhN(W:List TokC->List StC->List TokC)(out:List TokC)(s:StC):List TokC:=qgr s.verb (s.bodies.foldl (qmD W) (s.phrases.foldl qmC (out++[qfa s.verb])))
def Ws(W:List TokC->List StC->List TokC):List TokC->List StC->List TokC
 |out,[]=>out
 |out,s::l=>if 65536<out.length then out else Ws W (qhN W out s) l
def ZC:Nat->List TokC->List StC->List TokC
 |0=>fun out _=>out
 |m+1=>Ws (ZC m)
theorem qal{α:Type}{f:List TokC->α->List TokC}(hf:∀o x,o<+:f o x):∀(l:List α) (o:List TokC),o<+:l.foldl f o
 |[],o=>En o
 |x::l,o=>(hf o x).trans (qal hf l (f o x))
theorem qki(o:List TokC)(p:PhrC):o<+:qmC o p:=⟨qdZ p.words++p.toks,by unfold qmC;simp⟩
theorem qhG(v:Str)(o:List TokC):o<+:qgr v o:=by
 unfold qgr;split
 ·exact Eo _ _
 ·exact En _
theorem qgA{W:List TokC->List StC->List TokC}(hW:∀o l,o<+:W o l):∀(l:List StC) (o:List TokC),o<+:Ws W o l
 |[],o=>En o
 |s::l,o=>by
  rw[Ws];split
  ·exact En _
  ·refine List.IsPrefix.trans ?_ (qgA hW l _)
   unfold qhN;refine List.IsPrefix.trans ?_ (qhG _ _);refine List.IsPrefix.trans ?_ (qal (fun o b=>?_) _ _)
   ·exact(Eo _ _).trans (qal qki _ _)
   ·exact(List.IsPrefix.trans (Eo _ _) (Eo _ _)).trans (hW _ _)
theorem qaZ:∀(m:Nat) (o:List TokC) (l:List StC),o<+:ZC m o l
 |0,o,l=>En o
 |m+1,o,l=>qgA (fun o l=>qaZ m o l) l o
theorem qkj(m:Nat)(o:List TokC)(b:BodC):o<+:qmD (ZC m) o b:=(List.IsPrefix.trans (Eo _ _) (Eo _ _)).trans (qaZ m _ _)
end Go.Stm
namespace Go.AM
theorem Sub.set_of{B h:AHeap}{k:Nat}{X:Blk}(hs:Sub B h)(hk:h k=some X):Sub (B.set k X) h:=fun j c hj=>by
 by_cases e:j=k
 ·subst e;rw[Vf]at hj;rw[hk];exact hj
 ·rw[AHeap.set_ne _ _ e]at hj;exact hs _ _ hj
end Go.AM
namespace Go.Proofs.YtgiadjbiimkbiaaDoor
open Go.AM
open Go.Proofs
open Go.Col (Str FaultC okF)
open Go.Tok (TokC)
open Go.Stm
open Go.RowKit (Below)
set_option maxRecDepth 100000
theorem qnP{v:Str}(h:asciiB v=true):asciiB (qmw++v)=true:=by
 unfold asciiB at*
 rw[List.all_append,h];rfl
theorem qjs(s:Str):qdZ s=UY s:=rfl
def qoe:Nat->List StC->Prop
 |0,_=>True
 |m+1,l=>∀s∈l,(asciiB s.verb=true/\s.verb.length<=1000)/\(∀p∈s.phrases,asciiB p.words=true)/\∀b∈s.bodies,asciiB b.1=true/\qoe m b.2.2
structure WrG where
 j:Nat
 xs:List TokC
 rv:AVal
 rp:AHeap
 H:AHeap
def qiP(w0:World)(h:AHeap)(zs:List TokC):AVal->AHeap->Prop:=fun r h'=>∃p,GrowV 5 r p (zs.map Zh)/\isG r=true/\AM.Sep [h,p] h'
theorem qfP{R o:List TokC}(h:o<+:R)(hR:R.length<=1000000000):o.length<=1000000000:=Nat.le_trans h.length_le hR
theorem qiC{α β:Type}{qs:List (α×β)}{j:Nat}{d:α×β}(hj:j<qs.length):(qs.drop j).map (·.1)=(qs.getD j d).1::(qs.drop (j+1)).map (·.1):=by
 rw[J9 hj,Ke];simp[Ko,hj]
theorem qsv(w0:World)(h:AHeap)(v ov:AVal)(op H:AHeap)(xs:List TokC)(hv:IsL w0 h 5 v [])(hrow:GrowV 5 ov op (xs.map Zh))(hG:isG ov=true)(hS:AM.Sep [h,op] H):ACall Tryd.prog w0 34 [ov,v] H (qiP w0 h (ZC 0 xs [])):=by
 have nL:∀H:AHeap,YZ Tryd.prog H 23 v=⟨True, .int .i64 0⟩:=fun H=>hv.len Tryd.underlying23 H;have hlv:=hv.live;have hrl:=hrow.live;refine Xf (n:=81) (rs:=[.tmp 4]) Tryd.func34 rfl rfl rfl rfl (Vy rfl) ?_;simp only[Xe];refine awp_rseq [0,1] (by rfl) fun K hK=>?_;simp+decide only[qh,qi,qj,qo,ev,qZ,qY,putD,Vz,VA,VB,Ka,VC,VD,Kb,and_true,↓qV,qP,qM,ne_eq,not_false_eq_true,qN,qJ,VE,setAt,VF,Kj,qC,VG,Kn,Jp,Nat.reduceAdd,qF,qG,qI,qf,qK,qa,qz,qd,qE,qc,qA,qg,qH,qy,allLive,J4,tokV,nL,hlv,hrl];repeat (with_reducible refine And.intro ?_ ?_;· first|trivial|omega|(intro hg;simp only[Ky,JH,Jh,VH,VI,VJ,decide_eq_true_eq,decide_eq_false_iff_not,qR]at hg;omega))
 apply hK;clear hK K;refine Qp ?_;refine awp_rseq [0,11,12,13] (by rfl) fun K hK=>?_;simp+decide only[qh,qi,qj,qo,ev,qZ,qY,putD,Vz,VA,VB,Ka,VC,VD,Kb,and_true,↓qW,qU,↓XG,Xh,QE Tryd.underlying23,QT Tryd.underlying23,qM,ne_eq,not_false_eq_true,qN,qJ,VE,setAt,VF,Kj,qC,VG,Kn,Jp,Nat.reduceAdd,qF,qG,qI,qf,qK,qa,qz,qd,qE,qc,qA,qg,qH,qy,allLive,J4,tokV,nL,hlv,hrl];repeat (with_reducible refine And.intro ?_ ?_;· first|trivial|omega|(intro hg;simp only[Ky,JH,Jh,VH,VI,VJ,decide_eq_true_eq,decide_eq_false_iff_not,qR]at hg;omega))
 apply hK;clear hK K;refine QL ?_;refine XI [0,11,12,13] (fun z:Unit=>[(0,ov),(11,v),(12, .int .i64 0),(13, .int .i64 0)]) (fun z:Unit=>H) (fun z:Unit=>True) (fun z:Unit=>0) () (by rfl) (Vg _) trivial ?_;intro z _;refine awp_rseq [0,11,12,13,14] (by rfl) fun K hK=>?_;simp+decide only[qh,qi,qj,qo,ev,qZ,qY,putD,Vz,VA,VB,Ka,VC,VD,Kb,and_true,↓Qj,Qa,Qz,cond_false,Qh,Zo,qM,ne_eq,not_false_eq_true,qN,qJ,VE,setAt,VF,Kj,qC,VG,Kn,Jp,Nat.reduceAdd,qF,qG,qI,qf,qK,qa,qz,qd,qE,qc,qA,qg,qH,qy,allLive,J4,tokV,nL,hlv,hrl];repeat (with_reducible refine And.intro ?_ ?_;· first|trivial|omega|(intro hg;simp only[Ky,JH,Jh,VH,VI,VJ,decide_eq_true_eq,decide_eq_false_iff_not,qR]at hg;omega))
 apply hK;clear hK K;refine Qp (Qw (b:=_) rfl (fun hb1=>?_) (fun hb1=>?_))
 ·cases hb1
 ·try simp only[decide_eq_true_eq,decide_eq_false_iff_not,Jh,VJ,Ky,VH,JH,VI,VV,VW,reduceCtorEq]at hb1
  refine XJ ?_;change Awp _ _ _ _ _ _ _;refine awp_rseq [4] (by rfl) fun K hK=>?_;simp+decide only[qh,qi,qj,qo,ev,qZ,qY,putD,Vz,VA,VB,Ka,VC,VD,Kb,and_true,↓qW,qU,↓qV,qP,qM,ne_eq,not_false_eq_true,qN,qJ,VE,setAt,VF,Kj,qC,VG,Kn,Jp,Nat.reduceAdd,qF,qG,qI,qf,qK,qa,qz,qd,qE,qc,qA,qg,qH,qy,allLive,J4,tokV,nL,hlv,hrl];repeat (with_reducible refine And.intro ?_ ?_;· first|trivial|omega|(intro hg;simp only[Ky,JH,Jh,VH,VI,VJ,decide_eq_true_eq,decide_eq_false_iff_not,qR]at hg;omega))
  apply hK;clear hK K;refine Xd ?_;try simp only[QF,Qn]
  refine XV H zqC (Qr (Qv)) ?_;simp+decide only[qh,qi,qj,qo,ev,qZ,qY,putD,Vz,VA,VB,Ka,VC,VD,Kb,and_true,QU,qM,ne_eq,not_false_eq_true,qN,qJ,VE,setAt,VF,Kj,qC,VG,Kn,Jp,Nat.reduceAdd,qF,qG,qI,qf,qK,qa,qz,qd,qE,qc,qA,qg,qH,qy,allLive,J4,tokV,nL,hlv,hrl];exact⟨op,hrow,hG,hS⟩
set_option maxHeartbeats 16000000 in
theorem qsu(w0:World)(hm:MaxL w0)(hsp:Asp w0)(m:Nat)(h:AHeap)(v ov:AVal)(op H₀:AHeap)(xs:List TokC)(l:List StC)(hs:StsV w0 (m+1) h v l)(hsm:SmallS (m+1) l)(htx:TxS (m+1) l)(hac:qoe (m+1) l)
 (hrow:GrowV 5 ov op (xs.map Zh)) (hG:isG ov=true) (hS:AM.Sep [h,op] H₀) (hT:(ZC (m+1) xs l).length<=1000000000)
 (ih:∀(h':AHeap) (v ov:AVal) (op H':AHeap) (xs:List TokC) (l:List StC),StsV w0 m h' v l->SmallS m l->TxS m l->qoe m l->GrowV 5 ov op (xs.map Zh)->isG ov=true->AM.Sep [h',op] H'->(ZC m xs l).length<=1000000000->ACall Tryd.prog w0 34 [ov,v] H' (qiP w0 h' (ZC m xs l))):
 ACall Tryd.prog w0 34 [ov,v] H₀ (qiP w0 h (ZC (m+1) xs l)):=by
 obtain⟨qs,hqe,hqL,hels⟩:=qez hs hsm;rw[Eh]at hels;have nL:=qgu hqL;have hlv:=hqL.live;have hrl:=hrow.live;have hln:qs.length<=1000000:=by have:=hsm.len;rw[hqe,Jn]at this;exact this
 have hR:ZC (m+1) xs l=Ws (ZC m) xs ((qs.drop 0).map (·.1)):=by rw[Vk,<-hqe];rfl
 unfold qiP;obtain⟨R,hRR⟩:∃R,R=ZC (m+1) xs l:=⟨_,rfl⟩
 rw[<-hRR]at hR hT|-
 refine Xf (n:=81) (rs:=[.tmp 4]) Tryd.func34 rfl rfl rfl rfl (Vy rfl) ?_;simp only[Xe];refine awp_rseq [0,1] (by rfl) fun K hK=>?_;simp+decide only[qh,qi,qj,qo,ev,qZ,qY,putD,Vz,VA,VB,Ka,VC,VD,Kb,and_true,↓qV,qP,qM,ne_eq,not_false_eq_true,qN,qJ,VE,setAt,VF,Kj,qC,VG,Kn,Jp,Nat.reduceAdd,qF,qG,qI,qf,qK,qa,qz,qd,qE,qc,qA,qg,qH,qy,allLive,J4,tokV,nL,hlv,hrl];repeat (with_reducible refine And.intro ?_ ?_;· first|trivial|omega|(intro hg;simp only[Ky,JH,Jh,VH,VI,VJ,decide_eq_true_eq,decide_eq_false_iff_not,qR]at hg;omega))
 apply hK;clear hK K;refine Qp ?_;refine awp_rseq [0,11,12,13] (by rfl) fun K hK=>?_;simp+decide only[qh,qi,qj,qo,ev,qZ,qY,putD,Vz,VA,VB,Ka,VC,VD,Kb,and_true,↓qW,qU,↓XG,Xh,QE Tryd.underlying23,QT Tryd.underlying23,qM,ne_eq,not_false_eq_true,qN,qJ,VE,setAt,VF,Kj,qC,VG,Kn,Jp,Nat.reduceAdd,qF,qG,qI,qf,qK,qa,qz,qd,qE,qc,qA,qg,qH,qy,allLive,J4,tokV,nL,hlv];repeat (with_reducible refine And.intro ?_ ?_;· first|trivial|omega|(intro hg;simp only[Ky,JH,Jh,VH,VI,VJ,decide_eq_true_eq,decide_eq_false_iff_not,qR]at hg;omega))
 apply hK;clear hK K;refine QL ?_;refine XI [0,11,12,13] (fun g:WrG=>[(0,g.rv),(11,v),(12, .int .i64 qs.length),(13, .int .i64 g.j)]) (fun g:WrG=>g.H) (fun g:WrG=>AM.Sep [h,g.rp] g.H/\g.j<=qs.length/\GrowV 5 g.rv g.rp (g.xs.map Zh)/\isG g.rv=true/\R=Ws (ZC m) g.xs ((qs.drop g.j).map (·.1))) (fun g:WrG=>qs.length-g.j) ⟨0,xs,ov,op,H₀⟩ (by rfl) (Vg _) ⟨hS,Jq _,hrow,hG,hR⟩ ?_;rintro⟨j,xs,rv,rp,H⟩ ⟨hS,hj,hrow,hG,hg⟩;simp only at hS hj hrow hG hg|-
 have hs_H:Sub h H:=hS.in_ (i:=0) rfl;have hrl:=hrow.live;have nr:=Yl (hrow.isL (w0:=w0) (hS.in_ (i:=1) rfl));refine awp_rseq [0,11,12,13,14] (by rfl) fun K hK=>?_;simp+decide only[qh,qi,qj,qo,ev,qZ,qY,putD,Vz,VA,VB,Ka,VC,VD,Kb,and_true,↓Qj,Qa,Qz,cond_false,Qh,Zo,qM,ne_eq,not_false_eq_true,qN,qJ,VE,setAt,VF,Kj,qC,VG,Kn,Jp,Nat.reduceAdd,qF,qG,qI,qf,qK,qa,qz,qd,qE,qc,qA,qg,qH,qy,allLive,J4,tokV,nL,hlv];repeat (with_reducible refine And.intro ?_ ?_;· first|trivial|omega|(intro hg;simp only[Ky,JH,Jh,VH,VI,VJ,decide_eq_true_eq,decide_eq_false_iff_not,qR]at hg;omega))
 apply hK;clear hK K;refine Qp (Qw (b:=_) rfl (fun hb1=>?_) (fun hb1=>?_))
 ·try simp only[decide_eq_true_eq,decide_eq_false_iff_not,Jh,VJ,Ky,VH,JH,VI,VV,VW,reduceCtorEq]at hb1
  have hj1:j<qs.length:=by omega
  obtain⟨q,hqj⟩:∃q,q=qs.getD j qdR:=⟨_,rfl⟩
  have hqm:q∈qs:=by rw[hqj,Ko,JB hj1];exact Vr hj1
  obtain⟨lc,o,cc,hpe⟩:=qeA hqL (by omega);have hq2:=hqL.mono hs_H;rw[hpe]at hq2;obtain⟨e0,e1,e2,e3,e4⟩:=qdW hq2 hj1;rw[<-hqj]at e0 e1 e2 e3 e4;obtain⟨hph,hbd,hbn,hpn,hpt,hbb⟩:=hels q hqm;obtain⟨hx1,hx2,hx3⟩:=htx q.1 (by rw[hqe];exact Ec (f:=(·.1)) hqm);obtain⟨⟨hy0,hy1⟩,hy2,hy3⟩:=hac q.1 (by rw[hqe];exact Ec (f:=(·.1)) hqm);have hst:=qiC (d:=qdR) hj1;rw[<-hqj]at hst;rw[hst,Ws]at hg;have hl1:=hph.live;have hs1:=hph.scal;have hl2:=hbd.live;have hs2:=hbd.scal;have hs5:=hs1;have hs6:=hs1;obtain⟨pl,hpl,hpq,hpr⟩:=id hph;obtain⟨ql,hql,hqb,hqq⟩:=id hbd;have np:=qie hpq;have nb:=qdJ hqb;have hbn2:ql.length<=1000000:=by rw[hql,Jn]at hbn;exact hbn
  have hpn2:pl.length<=1000000:=by rw[hpl,Jn]at hpn;exact hpn
  obtain⟨⟨qv,qln,qcl,qps,qbs⟩,qp,qb⟩:=q;simp only[El,StC.line,StC.col,Ei,Ej]at e0 e1 e2 e3 e4 hl1 hs1 hl2 hs2 hs5 hs6 np nb hpq hqb hpl hql hbb hpt hpr hqq hx1 hx2 hx3 hy0 hy1 hy2 hy3 hg;obtain⟨L,hL⟩:∃L,L=(qs.drop (j+1)).map (·.1):=⟨_,rfl⟩
  rw[<-hL]at hg;have hwj:IntKind.i64.wrap ((j:Int)+1)=((j+1:Nat):Int):=by rw[wrap_i64 (by omega) (by omega)];omega
  refine QJ ?_;change Awp _ _ _ _ _ _ _;refine Qp ?_;refine QL ?_;refine awp_rseq [0,6,11,12,13] (by rfl) fun K hK=>?_;simp+decide only[qh,qi,qj,qo,ev,qZ,qY,putD,Vz,VA,VB,Ka,VC,VD,Kb,and_true,↓QV,QM,Ql Tryd.underlying23 WJ,↓Qu,Xy qgm WJ,qM,ne_eq,not_false_eq_true,qN,qJ,VE,setAt,VF,Kj,qC,VG,Kn,Jp,Nat.reduceAdd,qF,qG,qI,qf,qK,qa,qz,qd,qE,qc,qA,qg,qH,qy,allLive,J4,tokV,nL,hlv,hpe,e0,e1,e2,e3,e4,hl1,hl2,VO,VX,K6];repeat (with_reducible refine And.intro ?_ ?_;· first|trivial|omega|(intro hg;simp only[Ky,JH,Jh,VH,VI,VJ,decide_eq_true_eq,decide_eq_false_iff_not,qR]at hg;omega))
  refine XL qka (cs:=[.str [], .int .i64 0, .int .i64 0, .nilSlice, .nilSlice]) (by rfl) fun k3q2 hk3q2=>?_;have hn_3q2:H k3q2=none:=by first|assumption|(simp only[V7]at hk3q2;simp only[hk3q2])
  have hf_3q2:h k3q2=none:=Bh hs_H hn_3q2;refine QR (by rfl) (by rfl) zqA WJ (by rfl) (by rfl) zqD (Jq _) (by first|rfl|(simp+decide only[ev,putD,Vz,VA,Ka,VE,XR,J4,VO,hs1,hs2,hs5,hs6,qaa,UZ,WH])) ?_;simp only[Bi,setAt,VE,VF,Kj,Jp,Nat.reduceAdd];simp+decide only[qh,qi,qj,qo,ev,qZ,qY,putD,Vz,VA,VB,Ka,VC,VD,Kb,and_true,qM,ne_eq,not_false_eq_true,qN,qJ,VE,setAt,VF,Kj,qC,VG,Kn,Jp,Nat.reduceAdd,qF,qG,qI,qf,qK,qa,qz,qd,qE,qc,qA,qg,qH,qy,allLive,J4,tokV,nL,hlv,hpe,e0,e1,e2,e3,e4,hl1,hl2,VO,VX,K6];repeat (with_reducible refine And.intro ?_ ?_;· first|trivial|omega|(intro hg;simp only[Ky,JH,Jh,VH,VI,VJ,decide_eq_true_eq,decide_eq_false_iff_not,qR]at hg;omega))
  apply hK;clear hK K;refine Qp ?_;have hS3:=Eb hS hn_3q2 (⟨[.str qv, .int .i64 qln, .int .i64 qcl,qp,qb],0⟩:Blk);simp only[Kh,Jd]at hS3;refine awp_rseq [0,6,11,12,13,19] (by rfl) fun K hK=>?_;simp+decide only[qh,qi,qj,qo,ev,qZ,qY,putD,Vz,VA,VB,Ka,VC,VD,Kb,and_true,↓qW,qU,↓XG,Xh,QE Tryd.underlying31,QT Tryd.underlying31,↓Qj,Qa,Qm,cond_false,Qh,UE,qM,ne_eq,not_false_eq_true,qN,qJ,VE,setAt,VF,Kj,qC,VG,Kn,Jp,Nat.reduceAdd,qF,qG,qI,qf,qK,qa,qz,qd,qE,qc,qA,qg,qH,qy,allLive,J4,tokV,nL,hlv,nr,hrl];repeat (with_reducible refine And.intro ?_ ?_;· first|trivial|omega|(intro hg;simp only[Ky,JH,Jh,VH,VI,VJ,decide_eq_true_eq,decide_eq_false_iff_not,qR]at hg;omega))
  apply hK;clear hK K;refine Qw (b:=_) rfl (fun hb2=>?_) (fun hb2=>?_)
  ·try simp only[decide_eq_true_eq,decide_eq_false_iff_not,Jh,VJ,Ky,VH,JH,VI,VV,VW,reduceCtorEq]at hb2
   refine awp_rseq [4] (by rfl) fun K hK=>?_;simp+decide only[qh,qi,qj,qo,ev,qZ,qY,putD,Vz,VA,VB,Ka,VC,VD,Kb,and_true,↓qW,qU,↓qV,qP,qM,ne_eq,not_false_eq_true,qN,qJ,VE,setAt,VF,Kj,qC,VG,Kn,Jp,Nat.reduceAdd,qF,qG,qI,qf,qK,qa,qz,qd,qE,qc,qA,qg,qH,qy,allLive,J4,tokV,nL,hlv];repeat (with_reducible refine And.intro ?_ ?_;· first|trivial|omega|(intro hg;simp only[Ky,JH,Jh,VH,VI,VJ,decide_eq_true_eq,decide_eq_false_iff_not,qR]at hg;omega))
   apply hK;clear hK K;refine Xd ?_;try simp only[QF,Qn]
   refine Xu (Qr (Qv)) ?_;simp+decide only[qh,qi,qj,qo,ev,qZ,qY,putD,Vz,VA,VB,Ka,VC,VD,Kb,and_true,QU,qM,ne_eq,not_false_eq_true,qN,qJ,VE,setAt,VF,Kj,qC,VG,Kn,Jp,Nat.reduceAdd,qF,qG,qI,qf,qK,qa,qz,qd,qE,qc,qA,qg,qH,qy,allLive,J4,tokV,nL,hlv];rw[hg,if_pos (by omega)];exact⟨_,Vg _,rp,hrow,hG,hS3.sub (by simp)⟩
  ·try simp only[decide_eq_true_eq,decide_eq_false_iff_not,Jh,VJ,Ky,VH,JH,VI,VV,VW,reduceCtorEq]at hb2
   rw[if_neg (by omega)]at hg;have hg6:R=Ws (ZC m) (qgr qv (((ql.drop 0).map (·.1)).foldl (qmD (ZC m)) (((pl.drop 0).map (·.1)).foldl qmC (xs++[qfa qv])))) L:=by rw[hg,qhN];simp only[El,Ei,Ej,Vk];rw[hpl,hql]
   have hp6:(xs++[qfa qv])<+:R:=by
    rw[hg6];exact(((qal qki _ _).trans (qal (qkj m) _ _)).trans (qhG _ _)).trans (qgA (qaZ m) _ _)
   have hn6:=qfP hp6 hT;rw[Jb,JF]at hn6;refine QJ ?_;change Awp _ _ _ _ _ _ _;refine awp_rseq [0,6,11,12,13] (by rfl) fun K hK=>?_;simp+decide only[qh,qi,qj,qo,ev,qZ,qY,putD,Vz,VA,VB,Ka,VC,VD,Kb,and_true,↓qW,qU,↓Qo,Qd,qcp,↓Qu,QM,Qi ag9,↓Wm,ZU,↓Zz,qgY,evP,Ke,Vh,Ym,Zr,ZV,Ue,ZA,Wt,ZW,qM,ne_eq,not_false_eq_true,qN,qJ,VE,setAt,VF,Kj,qC,VG,Kn,Jp,Nat.reduceAdd,qF,qG,qI,qf,qK,qa,qz,qd,qE,qc,qA,qg,qH,qy,allLive,J4,tokV,nL,hlv,hrl];repeat (with_reducible refine And.intro ?_ ?_;· first|trivial|omega|(intro hg;simp only[Ky,JH,Jh,VH,VI,VJ,decide_eq_true_eq,decide_eq_false_iff_not,qR]at hg;omega))
   refine QS (cs:=Zh (qfa qv)) (by kernel_rfl) fun k6q4 hk6q4=>?_;have ne_6q4_3q2:k6q4≠k3q2:=by simp only[V7]at hk6q4;simp only[hk6q4,ne_eq,not_false_eq_true]
   have hn_6q4:H k6q4=none:=by first|assumption|(simp only[V7]at hk6q4;simp only[hk6q4])
   have hf_6q4:h k6q4=none:=Bh hs_H hn_6q4;refine Ya (es:=5) (v:=rv) (p:=rp) (xs:=xs.map Zh) (ys:=[Zh (qfa qv)]) (i:=1) (by rfl) (by rfl) Tryd.underlying31 Tryd.underlying31 (fun k e=>by cases e) Yv qgg qdT (by rfl) (by decide) (by rfl) hrow hG rfl (hS3.forget (V8 hk6q4)) (by rfl) (V9 (Vf _ _ _) (fun x hx=>by rw[V4.1 hx];rfl) (by rfl) (by rfl) (.exact 1) (KL _)) (by rfl) (by simp only[Jn,JF];omega) (by simp only[Jn,JF];omega) fun rv6 rp6 h6 hrow6 hG6 hS6=>?_;have hrow6:GrowV 5 rv6 rp6 ((xs++[qfa qv]).map Zh):=by rw[VZ];exact hrow6
   simp only[Kj,VF]at hS6;have hS6:AM.Sep [h,one k3q2 ⟨[.str qv, .int .i64 qln, .int .i64 qcl,qp,qb],0⟩,rp6] h6:=hS6.perm (.cons _ (List.Perm.swap _ _ _));simp+decide only[qh,qi,qj,qo,ev,qZ,qY,putD,Vz,VA,VB,Ka,VC,VD,Kb,and_true,↓qV,qP,qM,ne_eq,not_false_eq_true,ne_6q4_3q2,ne_6q4_3q2.symm,qN,qJ,VE,setAt,VF,Kj,qC,VG,Kn,Jp,Nat.reduceAdd,qF,qG,qI,qf,qK,qa,qz,qd,qE,qc,qA,qg,qH,qy,allLive,J4,tokV,nL,hlv,hrl];repeat (with_reducible refine And.intro ?_ ?_;· first|trivial|omega|(intro hg;simp only[Ky,JH,Jh,VH,VI,VJ,decide_eq_true_eq,decide_eq_false_iff_not,qR]at hg;omega))
   apply hK;clear hK K;refine Qp ?_;have hrl6:=hrow6.live;have hs_h6:Sub h h6:=hS6.in_ (i:=0) rfl;have eb_3q2:h6 k3q2=some _:=hS6.at_ (i:=1) rfl;refine awp_rseq [0,6,11,12,13,28,29,30] (by rfl) fun K hK=>?_;simp+decide only[qh,qi,qj,qo,ev,qZ,qY,putD,Vz,VA,VB,Ka,VC,VD,Kb,and_true,↓Qo,Qd,UJ,↓Qu,QM,Qi qfv,↓XG,Xh,QE Tryd.underlying45,QT Tryd.underlying45,↓qW,qU,qM,ne_eq,not_false_eq_true,qO w0 eb_3q2,qN,qJ,VE,setAt,VF,Kj,qC,VG,Kn,Jp,Nat.reduceAdd,qF,qG,qI,qf,qK,qa,qz,qd,qE,qc,qA,qg,qH,qy,allLive,J4,tokV,nL,hlv,np,hl1,hl2,hrl6];repeat (with_reducible refine And.intro ?_ ?_;· first|trivial|omega|(intro hg;simp only[Ky,JH,Jh,VH,VI,VJ,decide_eq_true_eq,decide_eq_false_iff_not,qR]at hg;omega))
   apply hK;clear hK K;refine QL ?_;refine XI [0,6,11,12,13,28,29,30] (fun g:WrG=>[(0,g.rv),(6, .ptr (.own k3q2) 0),(11,v),(12, .int .i64 qs.length),(13, .int .i64 j),(28,qp),(29, .int .i64 pl.length),(30, .int .i64 g.j)]) (fun g:WrG=>g.H) (fun g:WrG=>AM.Sep [h,one k3q2 ⟨[.str qv, .int .i64 qln, .int .i64 qcl,qp,qb],0⟩,g.rp] g.H/\g.j<=pl.length/\GrowV 5 g.rv g.rp (g.xs.map Zh)/\isG g.rv=true/\R=Ws (ZC m) (qgr qv (((ql.drop 0).map (·.1)).foldl (qmD (ZC m)) (((pl.drop g.j).map (·.1)).foldl qmC g.xs))) L) (fun g:WrG=>pl.length-g.j) ⟨0,xs++[qfa qv],rv6,rp6,h6⟩ (by first|rfl|(rw[hpe];rfl)) (Vg _) ⟨hS6,Jq _,hrow6,hG6,hg6⟩ ?_;rintro⟨a,xs,rv,rp,H⟩ ⟨hS,ha,hrow,hG,hga⟩;simp only at hS ha hrow hG hga|-
   have hs_H:Sub h H:=hS.in_ (i:=0) rfl;have eb_3q2:H k3q2=some _:=hS.at_ (i:=1) rfl;have hrl:=hrow.live;refine awp_rseq [0,6,11,12,13,28,29,30,31] (by rfl) fun K hK=>?_;simp+decide only[qh,qi,qj,qo,ev,qZ,qY,putD,Vz,VA,VB,Ka,VC,VD,Kb,and_true,↓Qj,Qa,Qz,cond_false,Qh,Zo,qM,ne_eq,not_false_eq_true,qO w0 eb_3q2,qN,qJ,VE,setAt,VF,Kj,qC,VG,Kn,Jp,Nat.reduceAdd,qF,qG,qI,qf,qK,qa,qz,qd,qE,qc,qA,qg,qH,qy,allLive,J4,tokV,nL,hlv];repeat (with_reducible refine And.intro ?_ ?_;· first|trivial|omega|(intro hg;simp only[Ky,JH,Jh,VH,VI,VJ,decide_eq_true_eq,decide_eq_false_iff_not,qR]at hg;omega))
   apply hK;clear hK K;refine Qp (Qw (b:=_) rfl (fun hb3=>?_) (fun hb3=>?_))
   ·try simp only[decide_eq_true_eq,decide_eq_false_iff_not,Jh,VJ,Ky,VH,JH,VI,VV,VW,reduceCtorEq]at hb3
    have ha1:a<pl.length:=by omega
    obtain⟨p,hpj⟩:∃p,p=pl.getD a qeV:=⟨_,rfl⟩
    have hpm:p∈pl:=by rw[hpj,Ko,JB ha1];exact Vr ha1
    obtain⟨lp,op,cp,hpp⟩:=qdw hpq (by omega);have hp2:=hpq.mono hs_H;rw[hpp]at hp2;obtain⟨f0,f1⟩:=qfF hp2 ha1;rw[<-hpj]at f0 f1;have hpk:=hpr p hpm;obtain⟨hu1,hu2⟩:=hx2 p.1 (by rw[hpl];exact Ec (f:=(·.1)) hpm);have hu3:=hy2 p.1 (by rw[hpl];exact Ec (f:=(·.1)) hpm);have hst2:=qiC (d:=qeV) ha1;rw[<-hpj]at hst2;rw[hst2,Ep]at hga;have hl5:=hpk.live;have hs5:=hpk.scal;obtain⟨⟨pw,pt⟩,pv⟩:=p;simp only at f0 f1 hpk hl5 hs5 hu1 hu2 hu3 hga;have hwa:IntKind.i64.wrap ((a:Int)+1)=((a+1:Nat):Int):=by rw[wrap_i64 (by omega) (by omega)];omega
    have hp10:(xs++UY pw++pt)<+:R:=by
     rw[hga];exact(((qal qki _ _).trans (qal (qkj m) _ _)).trans (qhG _ _)).trans (qgA (qaZ m) _ _)
    have hn10:=qfP hp10 hT;rw[Jb,Jb]at hn10;refine QJ ?_;change Awp _ _ _ _ _ _ _;refine Qp ?_;refine QL ?_;refine awp_rseq [0,6,8,11,12,13,28,29,30] (by rfl) fun K hK=>?_;simp+decide only[qh,qi,qj,qo,ev,qZ,qY,putD,Vz,VA,VB,Ka,VC,VD,Kb,and_true,↓QV,QM,Ql Tryd.underlying45 qbn,↓Qu,Xy ag44 qbn,qM,ne_eq,not_false_eq_true,qO w0 eb_3q2,qN,qJ,VE,setAt,VF,Kj,qC,VG,Kn,Jp,Nat.reduceAdd,qF,qG,qI,qf,qK,qa,qz,qd,qE,qc,qA,qg,qH,qy,allLive,J4,tokV,nL,hlv,hpp,f0,f1,hl5,hl1,VO,VX,K6];repeat (with_reducible refine And.intro ?_ ?_;· first|trivial|omega|(intro hg;simp only[Ky,JH,Jh,VH,VI,VJ,decide_eq_true_eq,decide_eq_false_iff_not,qR]at hg;omega))
    refine XL qrc (cs:=[.str [], .nilSlice]) (by rfl) fun k9q2 hk9q2=>?_;have hn_9q2:H k9q2=none:=by first|assumption|(simp only[V7]at hk9q2;simp only[hk9q2])
    have hf_9q2:h k9q2=none:=Bh hs_H hn_9q2;have ne_9q2_3q2:k9q2≠k3q2:=BG hn_9q2 eb_3q2;refine QR (by rfl) (by rfl) zqA qbn (by rfl) (by rfl) zqD (Jq _) (by first|rfl|(simp+decide only[ev,putD,Vz,VA,Ka,VE,XR,J4,VO,hs1,hs2,hs5,hs6,qaa,UZ,WH])) ?_;simp only[Bi,setAt,VE,VF,Kj,Jp,Nat.reduceAdd];simp+decide only[qh,qi,qj,qo,ev,qZ,qY,putD,Vz,VA,VB,Ka,VC,VD,Kb,and_true,qM,ne_eq,not_false_eq_true,ne_9q2_3q2,ne_9q2_3q2.symm,qO w0 eb_3q2,qN,qJ,VE,setAt,VF,Kj,qC,VG,Kn,Jp,Nat.reduceAdd,qF,qG,qI,qf,qK,qa,qz,qd,qE,qc,qA,qg,qH,qy,allLive,J4,tokV,nL,hlv,hpp,f0,f1,hl5,hl1,VO,VX,K6];repeat (with_reducible refine And.intro ?_ ?_;· first|trivial|omega|(intro hg;simp only[Ky,JH,Jh,VH,VI,VJ,decide_eq_true_eq,decide_eq_false_iff_not,qR]at hg;omega))
    apply hK;clear hK K;have hS9:=Eb hS hn_9q2 (⟨[.str pw,pv],0⟩:Blk);simp only[Kh,Jd]at hS9;refine qfs [0,1,2,5,6,3,4,7,8] [0,0,0,2,2,0,0,0,0] [none,none,none,none,none,none,some 5,some 6,some 7] 6 (h.set k9q2 ⟨[.str pw,pv],0⟩) mixed (by kernel_rfl) (by rfl) (Er hs_H _ _) ?_;simp only[WM,Vt,Em,Kz,KM];simp+decide only[qh,qi,qj,qo,ev,qZ,qY,putD,Vz,VA,VB,Ka,VC,VD,Kb,and_true,YI,YH,Yp,Wi,YV,↓qW,qU,↓Qo,Qd,qkB,↓Qu,QM,Qi ag9,qcJ,Qi qbR,qM,ne_eq,not_false_eq_true,ne_9q2_3q2,ne_9q2_3q2.symm,qO w0 eb_3q2,qN,qJ,VE,setAt,VF,Kj,qC,VG,Kn,Jp,Nat.reduceAdd,qF,qG,qI,qf,qK,qa,qz,qd,qE,qc,qA,qg,qH,qy,allLive,J4,tokV,nL,hlv,hrl,hl5];repeat (with_reducible refine And.intro ?_ ?_;· first|trivial|omega|(intro hg;simp only[Ky,JH,Jh,VH,VI,VJ,decide_eq_true_eq,decide_eq_false_iff_not,qR]at hg;omega))
    refine QN (by rfl) (by rfl) (qkL w0 hsp _ pw hu1 hu3) fun x10q3 h10q3 hx10q3=>?_;obtain⟨hrS,hsA⟩:=hx10q3;have hSA:=hS9.forget hsA;rw[qh];refine And.intro (by first|exact Vg _|assumption|exact V8 (by assumption)) ?_;simp+decide only[qh,qi,qj,qo,ev,qZ,qY,putD,Vz,VA,VB,Ka,VC,VD,Kb,and_true,YI,YH,Yp,Wi,YV,qM,ne_eq,not_false_eq_true,ne_9q2_3q2,ne_9q2_3q2.symm,qO w0 eb_3q2,qN,qJ,VE,setAt,VF,Kj,qC,VG,Kn,Jp,Nat.reduceAdd,qF,qG,qI,qf,qK,qa,qz,qd,qE,qc,qA,qg,qH,qy,allLive,J4,tokV,nL,hlv,hrl,hl5];repeat (with_reducible refine And.intro ?_ ?_;· first|trivial|omega|(intro hg;simp only[Ky,JH,Jh,VH,VI,VJ,decide_eq_true_eq,decide_eq_false_iff_not,qR]at hg;omega))
    refine Ya (es:=5) (v:=rv) (p:=rp) (xs:=xs.map Zh) (ys:=(UY pw).map Zh) (i:=2) (by rfl) (by rfl) Tryd.underlying31 Tryd.underlying31 (fun k e=>by cases e) Yv qgg qdT (by rfl) (by decide) (by rfl) hrow hG rfl hSA (by rfl) hrS (qcS _) (by simp only[Jn];omega) (by simp only[Jn];omega) fun rv10 rp10 h10 hrow10 hG10 hS10=>?_;rw[<-VZ]at hrow10;simp only[Kj,VF]at hS10;have hrl10:=hrow10.live;have hsB:Sub (h.set k9q2 ⟨[.str pw,pv],0⟩) h10:=Sub.set_of (hS10.in_ (i:=0) rfl) (hS10.at_ (i:=3) rfl);rw[qh];refine And.intro (by first|exact Vg _|assumption|exact V8 (by assumption)) ?_;simp+decide only[qh,qi,qj,qo,ev,qZ,qY,putD,Vz,VA,VB,Ka,VC,VD,Kb,and_true,YI,YH,Yp,Wi,YV,qM,ne_eq,not_false_eq_true,ne_9q2_3q2,ne_9q2_3q2.symm,qO w0 eb_3q2,qN,qJ,VE,setAt,VF,Kj,qC,VG,Kn,Jp,Nat.reduceAdd,qF,qG,qI,qf,qK,qa,qz,qd,qE,qc,qA,qg,qH,qy,allLive,J4,tokV,nL,hlv,hrl,hl5];repeat (with_reducible refine And.intro ?_ ?_;· first|trivial|omega|(intro hg;simp only[Ky,JH,Jh,VH,VI,VJ,decide_eq_true_eq,decide_eq_false_iff_not,qR]at hg;omega))
    refine Ya (es:=5) (v:=rv10) (p:=rp10) (xs:=(xs++UY pw).map Zh) (ys:=pt.map Zh) (i:=2) (by rfl) (by rfl) Tryd.underlying31 Tryd.underlying31 (fun k e=>by cases e) Yv qgg qdT (by rfl) (by decide) (by rfl) hrow10 hG10 rfl hS10 (by rfl) (hpk.mono (hS10.in_ (i:=0) rfl)) (qcS _) (by simp only[Jn,Jb];omega) (by simp only[Jn,Jb];omega) fun rv11 rp11 h11 hrow11 hG11 hS11=>?_;rw[<-VZ]at hrow11;simp only[Kj,VF]at hS11;have hrl11:=hrow11.live;have hsC:Sub (h.set k9q2 ⟨[.str pw,pv],0⟩) h11:=Sub.set_of (hS11.in_ (i:=0) rfl) (hS11.at_ (i:=3) rfl);rw[qh];refine And.intro (by first|exact Vg _|assumption|exact V8 (by assumption)) ?_;simp+decide only[qh,qi,qj,qo,ev,qZ,qY,putD,Vz,VA,VB,Ka,VC,VD,Kb,and_true,YI,YH,Yp,Wi,YV,↓qV,qP,qM,ne_eq,not_false_eq_true,ne_9q2_3q2,ne_9q2_3q2.symm,qO w0 eb_3q2,qN,qJ,VE,setAt,VF,Kj,qC,VG,Kn,Jp,Nat.reduceAdd,qF,qG,qI,qf,qK,qa,qz,qd,qE,qc,qA,qg,qH,qy,allLive,J4,tokV,nL,hlv,hrl,hl5];repeat (with_reducible refine And.intro ?_ ?_;· first|trivial|omega|(intro hg;simp only[Ky,JH,Jh,VH,VI,VJ,decide_eq_true_eq,decide_eq_false_iff_not,qR]at hg;omega))
    change Awp _ _ _ _ _ _ _;refine XZ [0,6,11,12,13,28,29,30] (by rfl) ?_;simp+decide only[qh,qi,qj,qo,ev,qZ,qY,putD,Vz,VA,VB,Ka,VC,VD,Kb,and_true,↓Qj,Qa,Qm,cond_false,Qh,XM,↓qW,qU,qM,ne_eq,not_false_eq_true,ne_9q2_3q2,ne_9q2_3q2.symm,qO w0 eb_3q2,qN,qJ,VE,setAt,VF,Kj,qC,VG,Kn,Jp,Nat.reduceAdd,qF,qG,qI,qf,qK,qa,qz,qd,qE,qc,qA,qg,qH,qy,allLive,J4,tokV,nL,hlv,hwa];try simp(disch:=omega)only[wrap_i64,wrap_u8]
    repeat (with_reducible refine And.intro ?_ ?_;· first|trivial|omega|(intro hg;simp only[Ky,JH,Jh,VH,VI,VJ,decide_eq_true_eq,decide_eq_false_iff_not,qR]at hg;omega))
    try simp only[QK,Qt]
    exact⟨⟨a+1,xs++UY pw++pt,rv11,rp11,h11⟩,by first|rfl|(rw[hpe,hpp];rfl),Vg _,⟨hS11.sub (by simp),ha1,hrow11,hG11,hga⟩,by simp only;omega⟩
   ·try simp only[decide_eq_true_eq,decide_eq_false_iff_not,Jh,VJ,Ky,VH,JH,VI,VV,VW,reduceCtorEq]at hb3
    have haq:a=pl.length:=by omega
    rw[haq,J8]at hga;have hg12:R=Ws (ZC m) (qgr qv (((ql.drop 0).map (·.1)).foldl (qmD (ZC m)) xs)) L:=hga;refine XJ ?_;change Awp _ _ _ _ _ _ _;refine Qp ?_;refine awp_rseq [0,6,11,12,13,44,45,46] (by rfl) fun K hK=>?_;simp+decide only[qh,qi,qj,qo,ev,qZ,qY,putD,Vz,VA,VB,Ka,VC,VD,Kb,and_true,↓Qo,Qd,WG,↓Qu,QM,Qi qdL,↓XG,Xh,QE Tryd.underlying46,QT Tryd.underlying46,↓qW,qU,qM,ne_eq,not_false_eq_true,qO w0 eb_3q2,qN,qJ,VE,setAt,VF,Kj,qC,VG,Kn,Jp,Nat.reduceAdd,qF,qG,qI,qf,qK,qa,qz,qd,qE,qc,qA,qg,qH,qy,allLive,J4,tokV,nL,hlv,nb,hl1,hl2,hrl];repeat (with_reducible refine And.intro ?_ ?_;· first|trivial|omega|(intro hg;simp only[Ky,JH,Jh,VH,VI,VJ,decide_eq_true_eq,decide_eq_false_iff_not,qR]at hg;omega))
    apply hK;clear hK K;refine QL ?_;refine XI [0,6,11,12,13,44,45,46] (fun g:WrG=>[(0,g.rv),(6, .ptr (.own k3q2) 0),(11,v),(12, .int .i64 qs.length),(13, .int .i64 j),(44,qb),(45, .int .i64 ql.length),(46, .int .i64 g.j)]) (fun g:WrG=>g.H) (fun g:WrG=>AM.Sep [h,one k3q2 ⟨[.str qv, .int .i64 qln, .int .i64 qcl,qp,qb],0⟩,g.rp] g.H/\g.j<=ql.length/\GrowV 5 g.rv g.rp (g.xs.map Zh)/\isG g.rv=true/\R=Ws (ZC m) (qgr qv (((ql.drop g.j).map (·.1)).foldl (qmD (ZC m)) g.xs)) L) (fun g:WrG=>ql.length-g.j) ⟨0,xs,rv,rp,H⟩ (by first|rfl|(rw[hpe];rfl)) (Vg _) ⟨hS,Jq _,hrow,hG,hg12⟩ ?_;rintro⟨a,xs,rv,rp,H⟩ ⟨hS,ha,hrow,hG,hga⟩;simp only at hS ha hrow hG hga|-
    have hs_H:Sub h H:=hS.in_ (i:=0) rfl;have eb_3q2:H k3q2=some _:=hS.at_ (i:=1) rfl;have hrl:=hrow.live;refine awp_rseq [0,6,11,12,13,44,45,46,47] (by rfl) fun K hK=>?_;simp+decide only[qh,qi,qj,qo,ev,qZ,qY,putD,Vz,VA,VB,Ka,VC,VD,Kb,and_true,↓Qj,Qa,Qz,cond_false,Qh,Zo,qM,ne_eq,not_false_eq_true,qO w0 eb_3q2,qN,qJ,VE,setAt,VF,Kj,qC,VG,Kn,Jp,Nat.reduceAdd,qF,qG,qI,qf,qK,qa,qz,qd,qE,qc,qA,qg,qH,qy,allLive,J4,tokV,nL,hlv];repeat (with_reducible refine And.intro ?_ ?_;· first|trivial|omega|(intro hg;simp only[Ky,JH,Jh,VH,VI,VJ,decide_eq_true_eq,decide_eq_false_iff_not,qR]at hg;omega))
    apply hK;clear hK K;refine Qp (Qw (b:=_) rfl (fun hb4=>?_) (fun hb4=>?_))
    ·try simp only[decide_eq_true_eq,decide_eq_false_iff_not,Jh,VJ,Ky,VH,JH,VI,VV,VW,reduceCtorEq]at hb4
     have ha1:a<ql.length:=by omega
     obtain⟨p,hpj⟩:∃p,p=ql.getD a qdc:=⟨_,rfl⟩
     have hpm:p∈ql:=by rw[hpj,Ko,JB ha1];exact Vr ha1
     obtain⟨lp,op,cp,hpp⟩:=qbO hqb (by omega);have hp2:=hqb.mono hs_H;rw[hpp]at hp2;obtain⟨f0,f1,f2⟩:=qer hp2 ha1;rw[<-hpj]at f0 f1 f2;obtain⟨hpk,hps⟩:=hqq p hpm;obtain⟨hu1,hu2,hu4⟩:=hx3 p.1 (by rw[hql];exact Ec (f:=(·.1)) hpm);obtain⟨hu3,hu5⟩:=hy3 p.1 (by rw[hql];exact Ec (f:=(·.1)) hpm);obtain⟨-,hu6⟩:=hbb p.1 (by rw[hql];exact Ec (f:=(·.1)) hpm);have hst2:=qiC (d:=qdc) ha1;rw[<-hpj]at hst2;rw[hst2,Ep]at hga;have hl5:=hpk.live;have hs5:=hpk.scal;obtain⟨hl6,hs6,-⟩:=hps.shape;obtain⟨⟨pw,pt,pL⟩,pv,pLv⟩:=p;simp only at f0 f1 f2 hpk hps hl5 hs5 hl6 hs6 hu1 hu2 hu3 hu4 hu5 hu6 hga;have hwa:IntKind.i64.wrap ((a:Int)+1)=((a+1:Nat):Int):=by rw[wrap_i64 (by omega) (by omega)];omega
     have hp15:ZC m (xs++UY pw++pt) pL<+:R:=by
      rw[hga];exact((qal (qkj m) _ _).trans (qhG _ _)).trans (qgA (qaZ m) _ _)
     have hn15:=qfP hp15 hT;have hn16:=qfP ((qaZ m (xs++UY pw++pt) pL).trans hp15) hT;rw[Jb,Jb]at hn16;refine QJ ?_;change Awp _ _ _ _ _ _ _;refine Qp ?_;refine QL ?_;refine awp_rseq [0,6,10,11,12,13,44,45,46] (by rfl) fun K hK=>?_;simp+decide only[qh,qi,qj,qo,ev,qZ,qY,putD,Vz,VA,VB,Ka,VC,VD,Kb,and_true,↓QV,QM,Ql Tryd.underlying46 UW,↓Qu,Xy qmp UW,qM,ne_eq,not_false_eq_true,qO w0 eb_3q2,qN,qJ,VE,setAt,VF,Kj,qC,VG,Kn,Jp,Nat.reduceAdd,qF,qG,qI,qf,qK,qa,qz,qd,qE,qc,qA,qg,qH,qy,allLive,J4,tokV,nL,hlv,hpp,f0,f1,f2,hl5,hl6,hl2,VO,VX,K6];repeat (with_reducible refine And.intro ?_ ?_;· first|trivial|omega|(intro hg;simp only[Ky,JH,Jh,VH,VI,VJ,decide_eq_true_eq,decide_eq_false_iff_not,qR]at hg;omega))
     refine XL qjZ (cs:=[.str [], .nilSlice, .nilSlice]) (by rfl) fun k14q2 hk14q2=>?_;have hn_14q2:H k14q2=none:=by first|assumption|(simp only[V7]at hk14q2;simp only[hk14q2])
     have hf_14q2:h k14q2=none:=Bh hs_H hn_14q2;have ne_14q2_3q2:k14q2≠k3q2:=BG hn_14q2 eb_3q2;refine QR (by rfl) (by rfl) zqA UW (by rfl) (by rfl) zqD (Jq _) (by first|rfl|(simp+decide only[ev,putD,Vz,VA,Ka,VE,XR,J4,VO,hs1,hs2,hs5,hs6,qaa,UZ,WH])) ?_;simp only[Bi,setAt,VE,VF,Kj,Jp,Nat.reduceAdd];simp+decide only[qh,qi,qj,qo,ev,qZ,qY,putD,Vz,VA,VB,Ka,VC,VD,Kb,and_true,qM,ne_eq,not_false_eq_true,ne_14q2_3q2,ne_14q2_3q2.symm,qO w0 eb_3q2,qN,qJ,VE,setAt,VF,Kj,qC,VG,Kn,Jp,Nat.reduceAdd,qF,qG,qI,qf,qK,qa,qz,qd,qE,qc,qA,qg,qH,qy,allLive,J4,tokV,nL,hlv,hpp,f0,f1,f2,hl5,hl6,hl2,VO,VX,K6];repeat (with_reducible refine And.intro ?_ ?_;· first|trivial|omega|(intro hg;simp only[Ky,JH,Jh,VH,VI,VJ,decide_eq_true_eq,decide_eq_false_iff_not,qR]at hg;omega))
     apply hK;clear hK K;have hS9:=Eb hS hn_14q2 (⟨[.str pw,pv,pLv],0⟩:Blk);simp only[Kh,Jd]at hS9;refine qfs [0,1,2,5,6,8,9,3,4,7,10,11] [0,0,0,2,2,2,2,0,0,0,0,0] [none,none,none,none,none,none,none,none,some 7,some 8,some 9,some 10] 8 (h.set k14q2 ⟨[.str pw,pv,pLv],0⟩) mixed (by kernel_rfl) (by rfl) (Er hs_H _ _) ?_;simp only[WM,Vt,Em,Kz,KM];simp+decide only[qh,qi,qj,qo,ev,qZ,qY,putD,Vz,VA,VB,Ka,VC,VD,Kb,and_true,YI,YH,Yp,Wi,YV,↓qW,qU,↓Qo,Qd,qgP,↓Qu,QM,Qi ag9,qdF,Qi qbR,qdE,Qi qhb,qM,ne_eq,not_false_eq_true,ne_14q2_3q2,ne_14q2_3q2.symm,qO w0 eb_3q2,qN,qJ,VE,setAt,VF,Kj,qC,VG,Kn,Jp,Nat.reduceAdd,qF,qG,qI,qf,qK,qa,qz,qd,qE,qc,qA,qg,qH,qy,allLive,J4,tokV,nL,hlv,hrl,hl5,hl6];repeat (with_reducible refine And.intro ?_ ?_;· first|trivial|omega|(intro hg;simp only[Ky,JH,Jh,VH,VI,VJ,decide_eq_true_eq,decide_eq_false_iff_not,qR]at hg;omega))
     refine QN (by rfl) (by rfl) (qkL w0 hsp _ pw hu1 hu3) fun x15q3 h15q3 hx15q3=>?_;obtain⟨hrS,hsA⟩:=hx15q3;have hSA:=hS9.forget hsA;rw[qh];refine And.intro (by first|exact Vg _|assumption|exact V8 (by assumption)) ?_;simp+decide only[qh,qi,qj,qo,ev,qZ,qY,putD,Vz,VA,VB,Ka,VC,VD,Kb,and_true,YI,YH,Yp,Wi,YV,qM,ne_eq,not_false_eq_true,ne_14q2_3q2,ne_14q2_3q2.symm,qO w0 eb_3q2,qN,qJ,VE,setAt,VF,Kj,qC,VG,Kn,Jp,Nat.reduceAdd,qF,qG,qI,qf,qK,qa,qz,qd,qE,qc,qA,qg,qH,qy,allLive,J4,tokV,nL,hlv,hrl,hl5,hl6];repeat (with_reducible refine And.intro ?_ ?_;· first|trivial|omega|(intro hg;simp only[Ky,JH,Jh,VH,VI,VJ,decide_eq_true_eq,decide_eq_false_iff_not,qR]at hg;omega))
     refine Ya (es:=5) (v:=rv) (p:=rp) (xs:=xs.map Zh) (ys:=(UY pw).map Zh) (i:=2) (by rfl) (by rfl) Tryd.underlying31 Tryd.underlying31 (fun k e=>by cases e) Yv qgg qdT (by rfl) (by decide) (by rfl) hrow hG rfl hSA (by rfl) hrS (qcS _) (by simp only[Jn];omega) (by simp only[Jn];omega) fun rv10 rp10 h10 hrow10 hG10 hS10=>?_;rw[<-VZ]at hrow10;simp only[Kj,VF]at hS10;have hrl10:=hrow10.live;have hsB:Sub (h.set k14q2 ⟨[.str pw,pv,pLv],0⟩) h10:=Sub.set_of (hS10.in_ (i:=0) rfl) (hS10.at_ (i:=3) rfl);rw[qh];refine And.intro (by first|exact Vg _|assumption|exact V8 (by assumption)) ?_;simp+decide only[qh,qi,qj,qo,ev,qZ,qY,putD,Vz,VA,VB,Ka,VC,VD,Kb,and_true,YI,YH,Yp,Wi,YV,qM,ne_eq,not_false_eq_true,ne_14q2_3q2,ne_14q2_3q2.symm,qO w0 eb_3q2,qN,qJ,VE,setAt,VF,Kj,qC,VG,Kn,Jp,Nat.reduceAdd,qF,qG,qI,qf,qK,qa,qz,qd,qE,qc,qA,qg,qH,qy,allLive,J4,tokV,nL,hlv,hrl,hl5,hl6];repeat (with_reducible refine And.intro ?_ ?_;· first|trivial|omega|(intro hg;simp only[Ky,JH,Jh,VH,VI,VJ,decide_eq_true_eq,decide_eq_false_iff_not,qR]at hg;omega))
     refine Ya (es:=5) (v:=rv10) (p:=rp10) (xs:=(xs++UY pw).map Zh) (ys:=pt.map Zh) (i:=2) (by rfl) (by rfl) Tryd.underlying31 Tryd.underlying31 (fun k e=>by cases e) Yv qgg qdT (by rfl) (by decide) (by rfl) hrow10 hG10 rfl hS10 (by rfl) (hpk.mono (hS10.in_ (i:=0) rfl)) (qcS _) (by simp only[Jn,Jb];omega) (by simp only[Jn,Jb];omega) fun rv11 rp11 h11 hrow11 hG11 hS11=>?_;rw[<-VZ]at hrow11;simp only[Kj,VF]at hS11;have hrl11:=hrow11.live;have hsC:Sub (h.set k14q2 ⟨[.str pw,pv,pLv],0⟩) h11:=Sub.set_of (hS11.in_ (i:=0) rfl) (hS11.at_ (i:=3) rfl);have hS12:AM.Sep ([h,one k3q2 ⟨[.str qv, .int .i64 qln, .int .i64 qcl,qp,qb],0⟩,one k14q2 ⟨[.str pw,pv,pLv],0⟩]++[rp11]) h11:=hS11.perm (.cons _ (.cons _ (List.Perm.swap _ _ _)));have hB12:=hS12.left;have hF12:=Sep.fold hS12;rw[qh];refine And.intro (by first|exact Vg _|assumption|exact V8 (by assumption)) ?_;simp+decide only[qh,qi,qj,qo,ev,qZ,qY,putD,Vz,VA,VB,Ka,VC,VD,Kb,and_true,YI,YH,Yp,Wi,YV,qM,ne_eq,not_false_eq_true,ne_14q2_3q2,ne_14q2_3q2.symm,qO w0 eb_3q2,qN,qJ,VE,setAt,VF,Kj,qC,VG,Kn,Jp,Nat.reduceAdd,qF,qG,qI,qf,qK,qa,qz,qd,qE,qc,qA,qg,qH,qy,allLive,J4,tokV,nL,hlv,hrl,hl5,hl6];repeat (with_reducible refine And.intro ?_ ?_;· first|trivial|omega|(intro hg;simp only[Ky,JH,Jh,VH,VI,VJ,decide_eq_true_eq,decide_eq_false_iff_not,qR]at hg;omega))
     refine QN (by rfl) (by rfl) (ih (qaY [h,one k3q2 ⟨[.str qv, .int .i64 qln, .int .i64 qcl,qp,qb],0⟩,one k14q2 ⟨[.str pw,pv,pLv],0⟩]) pLv rv11 rp11 h11 (xs++UY pw++pt) pL (hps.mono (Yb hB12 _ (by simp))) hu6 hu4 hu5 hrow11 hG11 hF12 hn15) fun x15q10 h15q10 hx15q10=>?_;obtain⟨rp13,hrow13,hG13,hS13⟩:=hx15q10;have hS14:=Sep.unfold hB12 hS13;simp only[Kh,Jd]at hS14;have hrl13:=hrow13.live;have hsD:Sub (h.set k14q2 ⟨[.str pw,pv,pLv],0⟩) h15q10:=Sub.set_of (hS14.in_ (i:=0) rfl) (hS14.at_ (i:=2) rfl);rw[qh];refine And.intro (by first|exact Vg _|assumption|exact V8 (by assumption)) ?_;simp+decide only[qh,qi,qj,qo,ev,qZ,qY,putD,Vz,VA,VB,Ka,VC,VD,Kb,and_true,YI,YH,Yp,Wi,YV,↓qV,qP,qM,ne_eq,not_false_eq_true,ne_14q2_3q2,ne_14q2_3q2.symm,qO w0 eb_3q2,qN,qJ,VE,setAt,VF,Kj,qC,VG,Kn,Jp,Nat.reduceAdd,qF,qG,qI,qf,qK,qa,qz,qd,qE,qc,qA,qg,qH,qy,allLive,J4,tokV,nL,hlv,hrl,hl5,hl6];repeat (with_reducible refine And.intro ?_ ?_;· first|trivial|omega|(intro hg;simp only[Ky,JH,Jh,VH,VI,VJ,decide_eq_true_eq,decide_eq_false_iff_not,qR]at hg;omega))
     change Awp _ _ _ _ _ _ _;refine XZ [0,6,11,12,13,44,45,46] (by rfl) ?_;simp+decide only[qh,qi,qj,qo,ev,qZ,qY,putD,Vz,VA,VB,Ka,VC,VD,Kb,and_true,↓Qj,Qa,Qm,cond_false,Qh,XM,↓qW,qU,qM,ne_eq,not_false_eq_true,ne_14q2_3q2,ne_14q2_3q2.symm,qO w0 eb_3q2,qN,qJ,VE,setAt,VF,Kj,qC,VG,Kn,Jp,Nat.reduceAdd,qF,qG,qI,qf,qK,qa,qz,qd,qE,qc,qA,qg,qH,qy,allLive,J4,tokV,nL,hlv,hwa];try simp(disch:=omega)only[wrap_i64,wrap_u8]
     repeat (with_reducible refine And.intro ?_ ?_;· first|trivial|omega|(intro hg;simp only[Ky,JH,Jh,VH,VI,VJ,decide_eq_true_eq,decide_eq_false_iff_not,qR]at hg;omega))
     try simp only[QK,Qt]
     exact⟨⟨a+1,ZC m (xs++UY pw++pt) pL,x15q10,rp13,h15q10⟩,by first|rfl|(rw[hpe,hpp];rfl),Vg _,⟨hS14.sub (by simp),ha1,hrow13,hG13,hga⟩,by simp only;omega⟩
    ·try simp only[decide_eq_true_eq,decide_eq_false_iff_not,Jh,VJ,Ky,VH,JH,VI,VV,VW,reduceCtorEq]at hb4
     have haq:a=ql.length:=by omega
     rw[haq,J8]at hga;have hg17:R=Ws (ZC m) (qgr qv xs) L:=hga;have hp17:qgr qv xs<+:R:=by rw[hg17];exact qgA (qaZ m) _ _
     have hn17:=qfP hp17 hT;refine XJ ?_;change Awp _ _ _ _ _ _ _;have hcd:hasEnd qv=(!Lib.contains qv [32] && Lib.contains qdh ([32]++qv++[32])):=rfl;cases z1:Lib.contains qv [32];all_goals
      refine awp_rseq [0,6,11,12,13,72] (by rfl) fun K hK=>?_;simp+decide only[qh,qi,qj,qo,ev,qZ,qY,putD,Vz,VA,VB,Ka,VC,VD,Kb,and_true,↓Qo,Qd,qcp,↓Qu,QM,Qi ag9,qM,ne_eq,not_false_eq_true,qO w0 eb_3q2,qN,qJ,VE,setAt,VF,Kj,qC,VG,Kn,Jp,Nat.reduceAdd,qF,qG,qI,qf,qK,qa,qz,qd,qE,qc,qA,qg,qH,qy,allLive,J4,tokV,nL,hlv,hl1,hrl];repeat (with_reducible refine And.intro ?_ ?_;· first|trivial|omega|(intro hg;simp only[Ky,JH,Jh,VH,VI,VJ,decide_eq_true_eq,decide_eq_false_iff_not,qR]at hg;omega))
      refine XD (V:= .bool (Lib.contains qv [32])) (by rfl) (by rfl) (YT w0 hm _ qv [32] (by omega)) ?_;simp+decide only[qh,qi,qj,qo,ev,qZ,qY,putD,Vz,VA,VB,Ka,VC,VD,Kb,and_true,↓qeS,YB,UD,↓qW,qU,↓XW,Qd,agP,Xw,gv,QB,QD,QC,Qs,Qg,Qe,Zk,implies_true,VK,decide_true,decide_false,VL,VM,Qc,Qb,forall_const,false_implies,Qk,Qf,J4,VN,VO,VP,VQ,VS,VT,VU,qcp,XN,XO,Xb,Xc,Xa,↓ZG,QM,Zt,Wn,ZP,ZO,ZN,ZM,ZL,ZK,Qi ag9,ZI,ZJ,↓XT,Qa,Qz,cond_false,Zb,Za,Zd,Zc,XC,qci,XK,qM,ne_eq,not_false_eq_true,qO w0 eb_3q2,qN,qJ,VE,setAt,VF,Kj,qC,VG,Kn,Jp,Nat.reduceAdd,qF,qG,qI,qf,qK,qa,qz,qd,qE,qc,qA,qg,qH,qy,allLive,J4,tokV,nL,hlv,hl1,hrl,z1,KX,Jb,JD];try simp(disch:=omega)only[wrap_i64,wrap_u8]
      repeat (with_reducible refine And.intro ?_ ?_;· first|trivial|omega|(intro hg;simp only[Ky,JH,Jh,VH,VI,VJ,decide_eq_true_eq,decide_eq_false_iff_not,qR]at hg;omega))
      first
      |(refine Zf (by rfl) ?_;refine XD (V:= .bool (Lib.contains qdh ([32]++qv++[32]))) (by rfl) (by rfl) (YT w0 hm _ qdh ([32]++qv++[32]) (by decide)) ?_)
      |(refine WI (by rfl) (by rfl) ?_)
      |(refine Wo (V:= .bool (Lib.contains qdh ([32]++qv++[32]))) (f:=_) (cap:=_) (xs:=_) (by first|rfl|(simp+decide only[gv,QB,VA,Ka,QC,QD])) (fun hg=>⟨rfl,?_⟩) (fun hg=>YT w0 hm _ qdh ([32]++qv++[32]) (by decide)) ?_;· (simp+decide only[gv,QB,putD,Vz,VA,Ka,Qg,Qe,Qs,VK]at hg;simp+decide only[evs,ev,putD,Vz,VA,Ka,hg,Qc,JE,Ke,Vh,qZ,qY]<;>try rfl))
      simp+decide only[qh,qi,qj,qo,ev,qZ,qY,putD,Vz,VA,VB,Ka,VC,VD,Kb,and_true,gv,QB,Qg,Qe,Qs,↓XH,Xj,QO,QH,QG,QA,Xo,Xn,Xm,Xl,QZ,Xk,qM,ne_eq,not_false_eq_true,qO w0 eb_3q2,qN,qJ,VE,setAt,VF,Kj,qC,VG,Kn,Jp,Nat.reduceAdd,qF,qG,qI,qf,qK,qa,qz,qd,qE,qc,qA,qg,qH,qy,allLive,J4,tokV,nL,hlv,hl1,hrl,z1,KX,Jb,JD];repeat (with_reducible refine And.intro ?_ ?_;· first|trivial|omega|(intro hg;simp only[Ky,JH,Jh,VH,VI,VJ,decide_eq_true_eq,decide_eq_false_iff_not,qR]at hg;omega))
      apply hK;clear hK K;refine Qw (b:=_) rfl (fun hb5=>?_) (fun hb5=>?_)
      ·try (cases hb5;done)
       all_goals have hh:hasEnd qv=true:=by rw[hcd,z1];exact hb5
       all_goals clear hb5
       all_goals unfold qgr at hg17 hn17
       all_goals rw[if_pos hh,Jb]at hn17
       all_goals rw[if_pos hh]at hg17
       all_goals
        try simp only[decide_eq_true_eq,decide_eq_false_iff_not,Jh,VJ,Ky,VH,JH,VI,VV,VW,reduceCtorEq]at hb5
        refine XZ [0,11,12,13] (by rfl) ?_;simp+decide only[qh,qi,qj,qo,ev,qZ,qY,putD,Vz,VA,VB,Ka,VC,VD,Kb,and_true,↓qW,qU,↓Qo,Qd,qcp,↓Qu,QM,Qi ag9,↓Qj,Qa,Qz,cond_false,XC,qci,qM,ne_eq,not_false_eq_true,qO w0 eb_3q2,qN,qJ,VE,setAt,VF,Kj,qC,VG,Kn,Jp,Nat.reduceAdd,qF,qG,qI,qf,qK,qa,qz,qd,qE,qc,qA,qg,qH,qy,allLive,J4,tokV,nL,hlv,hrl,KX,Jb,JD];repeat (with_reducible refine And.intro ?_ ?_;· first|trivial|omega|(intro hg;simp only[Ky,JH,Jh,VH,VI,VJ,decide_eq_true_eq,decide_eq_false_iff_not,qR]at hg;omega))
        refine QN (by rfl) (by rfl) (qkL w0 hsp _ (qmw++qv) (by unfold qmw;simp only[Jb,KX,JD];omega) (qnP hy0)) fun x18q4 h18q4 hx18q4=>?_;obtain⟨hrS,hsA⟩:=hx18q4;have hSA:=hS.forget hsA;refine Ya (es:=5) (v:=rv) (p:=rp) (xs:=xs.map Zh) (ys:=(UY (qmw++qv)).map Zh) (i:=2) (by rfl) (by rfl) Tryd.underlying31 Tryd.underlying31 (fun k e=>by cases e) Yv qgg qdT (by rfl) (by decide) (by rfl) hrow hG rfl hSA (by rfl) hrS (qcS _) (by simp only[Jn];rw[<-qjs];omega) (by simp only[Jn];rw[<-qjs];omega) fun rv18 rp18 h18 hrow18 hG18 hS18=>?_;rw[<-VZ]at hrow18;simp only[Kj,VF]at hS18;simp+decide only[qh,qi,qj,qo,ev,qZ,qY,putD,Vz,VA,VB,Ka,VC,VD,Kb,and_true,↓qV,qP,qM,ne_eq,not_false_eq_true,qO w0 eb_3q2,qN,qJ,VE,setAt,VF,Kj,qC,VG,Kn,Jp,Nat.reduceAdd,qF,qG,qI,qf,qK,qa,qz,qd,qE,qc,qA,qg,qH,qy,allLive,J4,tokV,nL,hlv,hrl,KX,Jb,JD];repeat (with_reducible refine And.intro ?_ ?_;· first|trivial|omega|(intro hg;simp only[Ky,JH,Jh,VH,VI,VJ,decide_eq_true_eq,decide_eq_false_iff_not,qR]at hg;omega))
        change Awp _ _ _ _ _ _ _;refine XZ [0,11,12,13] (by rfl) ?_;simp+decide only[qh,qi,qj,qo,ev,qZ,qY,putD,Vz,VA,VB,Ka,VC,VD,Kb,and_true,↓Qj,Qa,Qm,cond_false,Qh,XM,↓qW,qU,qM,ne_eq,not_false_eq_true,qO w0 eb_3q2,qN,qJ,VE,setAt,VF,Kj,qC,VG,Kn,Jp,Nat.reduceAdd,qF,qG,qI,qf,qK,qa,qz,qd,qE,qc,qA,qg,qH,qy,allLive,J4,tokV,nL,hlv,hwj];try simp(disch:=omega)only[wrap_i64,wrap_u8]
        repeat (with_reducible refine And.intro ?_ ?_;· first|trivial|omega|(intro hg;simp only[Ky,JH,Jh,VH,VI,VJ,decide_eq_true_eq,decide_eq_false_iff_not,qR]at hg;omega))
        try simp only[QK,Qt]
        first
        |exact⟨⟨j+1,xs++UY (qmw++qv),rv18,rp18,h18⟩,by first|rfl|(rw[hpe];rfl),Vg _,⟨hS18.sub (by simp),hj1,hrow18,hG18,by simp only;rw[<-hL];exact hg17⟩,by simp only;omega⟩
        |exact⟨⟨j+1,xs,rv,rp,H⟩,by first|rfl|(rw[hpe];rfl),Vg _,⟨hS.sub (by simp),hj1,hrow,hG,by simp only;rw[<-hL];exact hg17⟩,by simp only;omega⟩
      ·have hh:hasEnd qv=false:=by
        rw[hcd,z1];first
         |rfl
         |(have q:Lib.contains qdh ([32]++qv++[32])=false:=hb5
           rw[q];rfl)
       clear hb5;unfold qgr at hg17;rw[if_neg (by rw[hh];decide)]at hg17;all_goals
        try simp only[decide_eq_true_eq,decide_eq_false_iff_not,Jh,VJ,Ky,VH,JH,VI,VV,VW,reduceCtorEq]at hb5
        refine QJ ?_;change Awp _ _ _ _ _ _ _;refine XZ [0,11,12,13] (by rfl) ?_;simp+decide only[qh,qi,qj,qo,ev,qZ,qY,putD,Vz,VA,VB,Ka,VC,VD,Kb,and_true,↓Qj,Qa,Qm,cond_false,Qh,XM,↓qW,qU,qM,ne_eq,not_false_eq_true,qO w0 eb_3q2,qN,qJ,VE,setAt,VF,Kj,qC,VG,Kn,Jp,Nat.reduceAdd,qF,qG,qI,qf,qK,qa,qz,qd,qE,qc,qA,qg,qH,qy,allLive,J4,tokV,nL,hlv,hwj];try simp(disch:=omega)only[wrap_i64,wrap_u8]
        repeat (with_reducible refine And.intro ?_ ?_;· first|trivial|omega|(intro hg;simp only[Ky,JH,Jh,VH,VI,VJ,decide_eq_true_eq,decide_eq_false_iff_not,qR]at hg;omega))
        try simp only[QK,Qt]
        first
        |exact⟨⟨j+1,xs++UY (qmw++qv),rv18,rp18,h18⟩,by first|rfl|(rw[hpe];rfl),Vg _,⟨hS18.sub (by simp),hj1,hrow18,hG18,by simp only;rw[<-hL];exact hg17⟩,by simp only;omega⟩
        |exact⟨⟨j+1,xs,rv,rp,H⟩,by first|rfl|(rw[hpe];rfl),Vg _,⟨hS.sub (by simp),hj1,hrow,hG,by simp only;rw[<-hL];exact hg17⟩,by simp only;omega⟩
 ·try simp only[decide_eq_true_eq,decide_eq_false_iff_not,Jh,VJ,Ky,VH,JH,VI,VV,VW,reduceCtorEq]at hb1
  have hjq:j=qs.length:=by omega
  rw[hjq,J8]at hg;have hgR:R=xs:=hg;refine XJ ?_;change Awp _ _ _ _ _ _ _;refine awp_rseq [4] (by rfl) fun K hK=>?_;simp+decide only[qh,qi,qj,qo,ev,qZ,qY,putD,Vz,VA,VB,Ka,VC,VD,Kb,and_true,↓qW,qU,↓qV,qP,qM,ne_eq,not_false_eq_true,qN,qJ,VE,setAt,VF,Kj,qC,VG,Kn,Jp,Nat.reduceAdd,qF,qG,qI,qf,qK,qa,qz,qd,qE,qc,qA,qg,qH,qy,allLive,J4,tokV,nL,hlv,hrl];repeat (with_reducible refine And.intro ?_ ?_;· first|trivial|omega|(intro hg;simp only[Ky,JH,Jh,VH,VI,VJ,decide_eq_true_eq,decide_eq_false_iff_not,qR]at hg;omega))
  apply hK;clear hK K;refine Xd ?_;try simp only[QF,Qn]
  refine Xu (Qr (Qv)) ?_;simp+decide only[qh,qi,qj,qo,ev,qZ,qY,putD,Vz,VA,VB,Ka,VC,VD,Kb,and_true,QU,qM,ne_eq,not_false_eq_true,qN,qJ,VE,setAt,VF,Kj,qC,VG,Kn,Jp,Nat.reduceAdd,qF,qG,qI,qf,qK,qa,qz,qd,qE,qc,qA,qg,qH,qy,allLive,J4,tokV,nL,hlv];exact⟨H,Vg _,rp,by rw[hgR];exact hrow,hG,hS⟩
theorem qoK(w0:World)(hm:MaxL w0)(hsp:Asp w0):∀(m:Nat) (h:AHeap) (v ov:AVal) (op H:AHeap) (xs:List TokC) (l:List StC),StsV w0 m h v l->SmallS m l->TxS m l->qoe m l->GrowV 5 ov op (xs.map Zh)->isG ov=true->AM.Sep [h,op] H->(ZC m xs l).length<=1000000000->ACall Tryd.prog w0 34 [ov,v] H (qiP w0 h (ZC m xs l))
 |0,h,v,ov,op,H,xs,l,hs,_,_,_,hrow,hG,hS,_=>by
  obtain⟨rfl,hv⟩:=qth hs;exact qsv w0 h v ov op H xs hv hrow hG hS
 |m+1,h,v,ov,op,H,xs,l,hs,hsm,htx,hac,hrow,hG,hS,hT=>qsu w0 hm hsp m h v ov op H xs l hs hsm htx hac hrow hG hS hT fun h' v ov op H' xs l a b c d e f g i=>qoK w0 hm hsp m h' v ov op H' xs l a b c d e f g i
end Go.Proofs.YtgiadjbiimkbiaaDoor
namespace Go.Stm
open Go.Col (Str FaultC okF)
open Go.Tok
set_option maxRecDepth 100000
theorem qdi(l:List TokC)(i j:Nat):(l.drop i).getD j noT=l.getD (i+j) noT:=by
 rw[Ko,Ko,List.getElem?_drop]
theorem qeR(l:List TokC)(i j:Nat):j<(l.drop i).length↔i+j<l.length:=by rw[List.length_drop];omega
theorem qpH(l:List TokC)(i j:Nat)(w:Str):qji (l.drop i) j w=qji l (i+j) w:=by
 unfold qji;rw[qdi];by_cases h:i+j<l.length
 ·rw[if_pos ((qeR l i j).2 h),if_pos h]
 ·rw[if_neg (fun q=>h ((qeR l i j).1 q)),if_neg h]
theorem qef(l:List TokC)(i:Nat):∀(ws:List Str) (j:Nat),WO l ws (i+j)=(WO (l.drop i) ws j).map (i+ ·)
 |[],j=>rfl
 |w::ws,j=>by
  rw[WO,WO,qpH];split
  ·rw[Kw,qef l i ws (j+1)]
  ·split
   ·rfl
   ·exact qef l i ws j
theorem qnt(l:List TokC)(i:Nat)(f:Str):qaW l i f=qaW (l.drop i) 0 f:=by
 unfold qaW;have:=qef l i (Lib.fields f) 0;rw[K6]at this;rw[this];cases WO (l.drop i) (Lib.fields f) 0 with
 |none=>rfl
 |some j=>simp
theorem WS(l:List TokC)(i:Nat)(F:Str):Xr l i F=Xr (l.drop i) 0 F:=by
 unfold Xr;simp only[qnt l i]
theorem qaJ(l:List TokC)(i:Nat):isE l i=isE (l.drop i) 0:=by
 unfold isE;rw[qdi,K6];by_cases h:i<l.length
 ·rw[if_pos h,if_pos ((qeR l i 0).2 (by omega))]
 ·rw[if_neg h,if_neg (fun q=>h (by have:=(qeR l i 0).1 q;omega))]
theorem qcn(l:List TokC)(i:Nat):isV l i=isV (l.drop i) 0:=by
 unfold isV;rw[qdi,K6];by_cases h:i<l.length
 ·rw[if_pos h,if_pos ((qeR l i 0).2 (by omega))]
 ·rw[if_neg h,if_neg (fun q=>h (by have:=(qeR l i 0).1 q;omega))]
theorem UM(l:List TokC)(i:Nat):qae l i=qae (l.drop i) 0:=by
 unfold qae;rw[qdi,K6]
theorem UN{l:List TokC}{i:Nat}{t:TokC}{R:List TokC}(h:l.drop i=t::R):l.drop (i+1)=R:=by
 have:=congrArg (List.drop 1) h;rw[Eg]at this;exact this
theorem YJ{l:List TokC}{i:Nat}{t:TokC}{R:List TokC}(h:l.drop i=t::R):l.getD i noT=t:=by
 have:=qdi l i 0;rw[h,K6]at this;exact this.symm
def TEf:Str:=[84,72,69,78,59,69,76,83,69]
def EVf:Str:=[87,72,69,78,32,79,84,72,69,82,59,87,72,69,78]
def qaU:Str:=[67,79,78,84,73,78,85,69]
def qaT:Str:=[85,78,84,73,76]
def Aw:Str:=[65]
def Bw:Str:=[66]
def qod:Str:=[69,78,68,45,73,70]
def ENDPERw:Str:=[69,78,68,45,80,69,82,70,79,82,77]
def ENDEVAw:Str:=[69,78,68,45,69,86,65,76,85,65,84,69]
def Wd:List Str:=[[],TEf,EVf]
theorem qlM:Xi IFv=([],TEf):=by kernel_rfl
theorem qpK:Xi YF=(qno,[]):=by kernel_rfl
theorem qpL:Xi YP=([],EVf):=by kernel_rfl
theorem qnr:Xi qaU=([],[]):=by kernel_rfl
structure WordAt(l:List TokC)(i:Nat):Prop where
 e:isE l i=false
 n:qae l i=[]
 v:isV l i=false
 f:∀F∈Wd,(Xr l i F).2=0
structure VerbAt(l:List TokC)(i:Nat):Prop where
 e:isE l i=false
 n:qae l i=[]
 v:isV l i=true
 f:∀F∈Wd,(Xr l i F).2=0
structure EndAt(l:List TokC)(i:Nat)(w:Str):Prop where
 e:isE l i=false
 n:qae l i=w
 v:isV l i=false
theorem qjA{p:Str->Prop}(h0:p [])(h1:p TEf)(h2:p EVf):∀F∈Wd,p F:=fun F hF=>by
 simp only[Wd,List.mem_cons,List.not_mem_nil,or_false]at hF;rcases hF with rfl|rfl|rfl<;>assumption
theorem word_at{l:List TokC}{i:Nat}{w:Str}{a b:Int}{c:Bool}{R:List TokC}(h:l.drop i=⟨1,w,a,b,c⟩::R)(hw:w=Aw\/w=qaT\/w=Bw):WordAt l i:=by
 rcases hw with rfl|rfl|rfl;all_goals refine⟨by rw[qaJ,h];kernel_rfl,by rw[UM,h];kernel_rfl,by rw[qcn,h];kernel_rfl,qjA ?_ ?_ ?_⟩
 all_goals (rw[WS,h];kernel_rfl)
theorem qtb{l:List TokC}{i:Nat}{w:Str}{a b:Int}{c:Bool}{R:List TokC}(h:l.drop i=⟨1,w,a,b,c⟩::R)(hw:w=qaU\/w=IFv\/w=YF\/w=YP):VerbAt l i:=by
 rcases hw with rfl|rfl|rfl|rfl;all_goals refine⟨by rw[qaJ,h];kernel_rfl,by rw[UM,h];kernel_rfl,by rw[qcn,h];kernel_rfl,qjA ?_ ?_ ?_⟩
 all_goals (rw[WS,h];kernel_rfl)
def qbC:Nat->Str
 |1=>ENDPERw
 |2=>ENDEVAw
 |_=>qod
def qoy:Nat->Str
 |1=>YF
 |2=>YP
 |_=>IFv
theorem qsm{l:List TokC}{i k:Nat}{a b:Int}{c:Bool}{R:List TokC}(h:l.drop i=⟨1,qbC k,a,b,c⟩::R):EndAt l i (qoy k):=by
 match k,h with
 |0,h=>exact⟨by rw[qaJ,h];kernel_rfl,by rw[UM,h];kernel_rfl,by rw[qcn,h];kernel_rfl⟩
 |1,h=>exact⟨by rw[qaJ,h];kernel_rfl,by rw[UM,h];kernel_rfl,by rw[qcn,h];kernel_rfl⟩
 |2,h=>exact⟨by rw[qaJ,h];kernel_rfl,by rw[UM,h];kernel_rfl,by rw[qcn,h];kernel_rfl⟩
 |k+3,h=>exact⟨by rw[qaJ,h];kernel_rfl,by rw[UM,h];kernel_rfl,by rw[qcn,h];kernel_rfl⟩
theorem UL(O:List Str)(F:Str):(O++[F]).getLastD []=F:=by simp
theorem qfJ{l:List TokC}{i:Nat}{O:List Str}(F:Str)(hO:∀f∈O,f∈Wd)(h:∀f∈Wd,(Xr l i f).2=0):qcj l (O++[F]) i=false:=by
 unfold qcj;rw[List.dropLast_concat,List.any_eq_false];intro f hf;rw[h f (hO f hf)];decide
theorem qjB{O:List Str}{F:Str}(hO:∀f∈O,f∈Wd)(hF:F∈Wd):∀f∈O++[F],f∈Wd:=fun f hf=>by
 rcases JS.1 hf with h|h
 ·exact hO f h
 ·rw[V4.1 h];exact hF
theorem qgs{l:List TokC}{c:Cur}{i:Nat}{ph:Str}(hb:c.bodies=[])(h:(Xr l i ph).2=0):qas l c ph i= .ok {c with phrases:=qnR c.phrases (l.getD i noT)} (i+1):=by
 unfold qas;rw[if_neg (by rw[hb];simp),if_pos h]
section
variable {l:List TokC} {d i:Nat} {O:List Str}
theorem qlG{s:StC}{j:Nat}(hv:isV l i=true)(h:StR QY l Xi d O i (.ok s j))(hn:isV l j=false):ListR QY l Xi d O i [] (.ok [s] j):=
 ListR.next hv h (ListR.stop hn)
def qiD(t u:TokC):Cur:=⟨t.text,t.line,t.col,[⟨[],[u]⟩],[]⟩
theorem qkk{t u:TokC}{R:List TokC}{a b a' b':Int}{c c':Bool}(hO:∀f∈O,f∈Wd)(ht:t=⟨1,IFv,a,b,c⟩)(hu:u=⟨1,Aw,a',b',c'⟩)(h:l.drop i=t::u::R){r:Rs (Cur×Bool)}
 (hr:LoopR QY l Xi d (O++[TEf]) [] (qiD t u) (i+2) r):LoopR QY l Xi d (O++[TEf]) [] (qbM l i) (i+1) r:=by
 have h1:=UN h;subst ht hu;have w1:=word_at h1 (.inl rfl);refine Es w1.e w1.n (by rw[UL];exact w1.f _ (by simp[Wd])) w1.v (qfJ _ hO w1.f) (qgs rfl (w1.f [] (by simp[Wd]))) ?_;rw[YJ h1];unfold qbM;rw[YJ h];exact hr
theorem qoB(t u:TokC)(ht:t.text=IFv):Yc QY (qiD t u)=some Wu:=by
 unfold Yc qiD;rw[if_neg (by simp),if_pos ht]
def qkI(t u:TokC):Cur:=⟨t.text,t.line,t.col,[⟨[],[]⟩,⟨qaT,[u]⟩],[]⟩
theorem qrg{w:TokC}{R:List TokC}{a b:Int}{c:Bool}(hw:w=⟨1,qaT,a,b,c⟩)(h:l.drop i=w::R):Xr l i qno=(qaT,1):=by subst hw;rw[WS,h];kernel_rfl
theorem b_at{w:TokC}{R:List TokC}{a b:Int}{c:Bool}(hw:w=⟨1,Bw,a,b,c⟩)(h:l.drop i=w::R):(Xr l i qno).2=0:=by subst hw;rw[WS,h];kernel_rfl
theorem qot{t w u:TokC}{R:List TokC}{a b a' b' a2 b2:Int}{c c' c2:Bool}(hO:∀f∈O,f∈Wd)(ht:t=⟨1,YF,a,b,c⟩)(hw:w=⟨1,qaT,a2,b2,c2⟩)(hu:u=⟨1,Bw,a',b',c'⟩)(h:l.drop i=t::w::u::R){r:Rs (Cur×Bool)}
 (hr:LoopR QY l Xi d (O++[[]]) qno (qkI t u) (i+3) r):LoopR QY l Xi d (O++[[]]) qno (qbM l i) (i+1) r:=by
 have h1:=UN h;have h2:=UN h1;have u1:=qrg hw h1;have b1:=b_at hu h2;subst ht hw hu;have w1:=word_at h1 (.inr (.inl rfl));have w2:=word_at h2 (.inr (.inr rfl));refine Es (c':=⟨YF,a,b,[⟨[],[]⟩,⟨qaT,[]⟩],[]⟩) (j:=i+1+1) w1.e w1.n (by rw[UL];exact w1.f _ (by simp[Wd])) w1.v (qfJ _ hO w1.f) ?_ ?_
 ·unfold qas qbM
  rw[u1,YJ h,if_neg (by simp),if_neg (by simp),if_pos (by simp[qaT])];rfl
 ·refine Es w2.e w2.n (by rw[UL];exact w2.f _ (by simp[Wd])) w2.v (qfJ _ hO w2.f) (qgs rfl b1) ?_
  rw[YJ h2];exact hr
theorem qlK(t u:TokC)(ht:t.text=YF):Yc QY (qkI t u)=some []:=by
 unfold Yc qkI;rw[if_neg (by simp),if_neg (fun e=>absurd (ht.symm.trans e) (by decide)),if_pos ⟨ht,rfl⟩]
theorem qou{t u:TokC}{R:List TokC}{a b a' b':Int}{c c':Bool}(hO:∀f∈O,f∈Wd)(ht:t=⟨1,YP,a,b,c⟩)(hu:u=⟨1,Aw,a',b',c'⟩)(h:l.drop i=t::u::R){r:Rs (Cur×Bool)}
 (hr:LoopR QY l Xi d (O++[EVf]) [] (qiD t u) (i+2) r):LoopR QY l Xi d (O++[EVf]) [] (qbM l i) (i+1) r:=by
 have h1:=UN h;subst ht hu;have w1:=word_at h1 (.inl rfl);refine Es w1.e w1.n (by rw[UL];exact w1.f _ (by simp[Wd])) w1.v (qfJ _ hO w1.f) (qgs rfl (w1.f [] (by simp[Wd]))) ?_;rw[YJ h1];unfold qbM;rw[YJ h];exact hr
theorem qsZ{w u:TokC}{R:List TokC}{a b a' b':Int}{c c':Bool}(hw:w=⟨1,ZZ,a,b,c⟩)(hu:u=⟨2,[49],a',b',c'⟩)(h:l.drop i=w::u::R):isE l i=false/\qae l i=[]/\Xr l i EVf=(ZZ,1):=by
 subst hw hu;refine⟨by rw[qaJ,h];kernel_rfl,by rw[UM,h];kernel_rfl,by rw[WS,h];kernel_rfl⟩
theorem one_at{u:TokC}{R:List TokC}{a b:Int}{c:Bool}(hu:u=⟨2,[49],a,b,c⟩)(h:l.drop i=u::R):isE l i=false/\isV l i=false/\qae l i=[]/\(Xr l i EVf).2=0:=by
 subst hu;refine⟨by rw[qaJ,h];kernel_rfl,by rw[qcn,h];kernel_rfl,by rw[UM,h];kernel_rfl,by rw[WS,h];kernel_rfl⟩
theorem qtd{w:TokC}{R:List TokC}{a b:Int}{c:Bool}(hw:w=⟨1,Wu,a,b,c⟩)(h:l.drop i=w::R):isE l i=false/\qae l i=[]/\Xr l i TEf=(Wu,1):=by
 subst hw;refine⟨by rw[qaJ,h];kernel_rfl,by rw[UM,h];kernel_rfl,by rw[WS,h];kernel_rfl⟩
theorem qsd{u:TokC}{R:List TokC}{a b:Int}{c:Bool}(hu:u=⟨2,[49],a,b,c⟩)(h:l.drop (i+1)=u::R)(hv:VerbAt l (i+2)):headW l (O++[EVf]) ZZ 1 i=([u],i+2):=by
 obtain⟨o1,o2,o3,o4⟩:=one_at hu h;have hlen:i+2<l.length:=by
  have:=hv.v;unfold isV at this;by_cases z:i+2<l.length
  ·exact z
  ·rw[if_neg z]at this;cases this
 unfold headW qof;rw[if_pos rfl,UL];obtain⟨m,hm⟩:∃m,l.length-(i+1)=m+1+1:=⟨l.length-(i+1)-2,by omega⟩
 rw[hm,qcb,if_neg (by rw[o1,o2,o3,o4];simp),qcb,if_pos (.inr (.inl hv.v)),YJ h];rfl
end
section
variable {l:List TokC} {d i:Nat} {O:List Str}
theorem qkv(F w:Str)(hw:w≠ZZ)(n p:Nat):headW l (O++[F]) w n p=([],p+n):=by unfold headW;rw[if_neg hw]
theorem qtk{t u:TokC}{R:List TokC}{a b a' b':Int}{c c':Bool}(hd:¬32<d)(hO:∀f∈O,f∈Wd)(ht:t=⟨1,IFv,a,b,c⟩)(hu:u=⟨1,Aw,a',b',c'⟩)(h:l.drop i=t::u::R)(hv:VerbAt l (i+2)):
 (∀s q,ListR QY l Xi (d+1) (O++[TEf]) (i+2) [] (.ok [s] q)->EndAt l q IFv->StR QY l Xi d O i (.ok (.mk IFv t.line t.col [⟨[],[u]⟩] [(Wu,[],[s])]) (q+1)))/\
 (∀e,ListR QY l Xi (d+1) (O++[TEf]) (i+2) [] (.bad e)->StR QY l Xi d O i (.bad e)):=by
 have hf:Xi (l.getD i noT).text=([],TEf):=by rw[YJ h,ht];exact qlM
 have htx:t.text=IFv:=by rw[ht]
 have hst:(Xr l (i+2) ((O++[TEf]).getLastD [])).2=0:=by rw[UL];exact hv.f _ (by simp[Wd])
 have hh:=qkv (l:=l) (O:=O) TEf Wu (by decide) 0 (i+2);have h2:¬(Wu=ZZ/\(headW l (O++[TEf]) Wu 0 (i+2)).1=[]):=fun z=>absurd z.1 (by decide);have h1:twice (qiD t u) Wu=false:=rfl;refine⟨fun s q hl he=>?_,fun e hl=>?_⟩
 ·have hb:=Et (W:=QY) (forms:=Xi) (L:=[s]) (k:=q) h1 h2 (by rw[hh];exact hl) (by unfold qcK;rfl)
  rw[hh]at hb;refine Eu (c:=⟨t.text,t.line,t.col,[⟨[],[u]⟩],[(Wu,[],[s])]⟩) (b:=true) hd ?_ (by unfold qca;rw[if_pos htx];rfl) |> fun z=>by rw[<-htx];exact z
  rw[hf];refine qkk hO ht hu h (Ev hv.e hv.n hst hv.v (qoB t u htx) hb ?_);exact Ew he.e (he.n.trans htx.symm) (by rw[he.n];decide)
 ·refine Ex hd ?_
  rw[hf];exact qkk hO ht hu h (Ey hv.e hv.n hst hv.v (qoB t u htx) (Ez h1 h2 (by rw[hh];exact hl)))
theorem qpd{t u w:TokC}{R:List TokC}{a b a' b' a2 b2:Int}{c c' c2:Bool}(hd:¬32<d)(hO:∀f∈O,f∈Wd)(ht:t=⟨1,IFv,a,b,c⟩)(hu:u=⟨1,Aw,a',b',c'⟩)(hw:w=⟨1,Wu,a2,b2,c2⟩)(h:l.drop i=t::u::w::R):
 (∀s q,ListR QY l Xi (d+1) (O++[TEf]) (i+3) [] (.ok [s] q)->EndAt l q IFv->StR QY l Xi d O i (.ok (.mk IFv t.line t.col [⟨[],[u]⟩] [(Wu,[],[s])]) (q+1)))/\
 (∀e,ListR QY l Xi (d+1) (O++[TEf]) (i+3) [] (.bad e)->StR QY l Xi d O i (.bad e)):=by
 have hf:Xi (l.getD i noT).text=([],TEf):=by rw[YJ h,ht];exact qlM
 have htx:t.text=IFv:=by rw[ht]
 obtain⟨w1,w2,w3⟩:=qtd hw (UN (UN h));have hst:Xr l (i+1+1) ((O++[TEf]).getLastD [])=(Wu,1):=by rw[UL];exact w3
 have hh:=qkv (l:=l) (O:=O) TEf Wu (by decide) 1 (i+1+1);have h2:¬(Wu=ZZ/\(headW l (O++[TEf]) Wu 1 (i+1+1)).1=[]):=fun z=>absurd z.1 (by decide);have h1:twice (qiD t u) Wu=false:=rfl;refine⟨fun s q hl he=>?_,fun e hl=>?_⟩
 ·have hb:=Et (W:=QY) (forms:=Xi) (L:=[s]) (k:=q) h1 h2 (by rw[hh];exact hl) (by unfold qcK;rfl)
  rw[hh]at hb;refine Eu (c:=⟨t.text,t.line,t.col,[⟨[],[u]⟩],[(Wu,[],[s])]⟩) (b:=true) hd ?_ (by unfold qca;rw[if_pos htx];rfl) |> fun z=>by rw[<-htx];exact z
  rw[hf];refine qkk hO ht hu h (EA w1 w2 (by rw[hst];decide) (by rw[hst];exact hb) ?_);exact Ew he.e (he.n.trans htx.symm) (by rw[he.n];decide)
 ·refine Ex hd ?_
  rw[hf];exact qkk hO ht hu h (EB w1 w2 (by rw[hst];decide) (by rw[hst];exact Ez h1 h2 (by rw[hh];exact hl)))
theorem qrt{t w u:TokC}{R:List TokC}{a b a' b' a2 b2:Int}{c c' c2:Bool}(hd:¬32<d)(hO:∀f∈O,f∈Wd)(ht:t=⟨1,YF,a,b,c⟩)(hw:w=⟨1,qaT,a2,b2,c2⟩)(hu:u=⟨1,Bw,a',b',c'⟩)(h:l.drop i=t::w::u::R)(hv:VerbAt l (i+3)):
 (∀s q,ListR QY l Xi (d+1) (O++[[]]) (i+3) [] (.ok [s] q)->EndAt l q YF->StR QY l Xi d O i (.ok (.mk YF t.line t.col [⟨[],[]⟩,⟨qaT,[u]⟩] [([],[],[s])]) (q+1)))/\
 (∀e,ListR QY l Xi (d+1) (O++[[]]) (i+3) [] (.bad e)->StR QY l Xi d O i (.bad e)):=by
 have hf:Xi (l.getD i noT).text=(qno,[]):=by rw[YJ h,ht];exact qpK
 have htx:t.text=YF:=by rw[ht]
 have hst:(Xr l (i+3) ((O++[[]]).getLastD [])).2=0:=by rw[UL];exact hv.f _ (by simp[Wd])
 have hh:=qkv (l:=l) (O:=O) [] [] (by decide) 0 (i+3);have h2:¬(([]:Str)=ZZ/\(headW l (O++[[]]) [] 0 (i+3)).1=[]):=fun z=>absurd z.1 (by decide);have h1:twice (qkI t u) []=false:=rfl;refine⟨fun s q hl he=>?_,fun e hl=>?_⟩
 ·have hb:=Et (W:=QY) (forms:=Xi) (L:=[s]) (k:=q) h1 h2 (by rw[hh];exact hl) (by unfold qcK;rfl)
  rw[hh]at hb;refine Eu (c:=⟨t.text,t.line,t.col,[⟨[],[]⟩,⟨qaT,[u]⟩],[([],[],[s])]⟩) (b:=true) hd ?_ (by unfold qca;rw[htx];rfl) |> fun z=>by rw[<-htx];exact z
  rw[hf];refine qot hO ht hw hu h (Ev hv.e hv.n hst hv.v (qlK t u htx) hb ?_);exact Ew he.e (he.n.trans htx.symm) (by rw[he.n];decide)
 ·refine Ex hd ?_
  rw[hf];exact qot hO ht hw hu h (Ey hv.e hv.n hst hv.v (qlK t u htx) (Ez h1 h2 (by rw[hh];exact hl)))
theorem qru{t u w o:TokC}{R:List TokC}{a b a' b' a2 b2 a3 b3:Int}{c c' c2 c3:Bool}(hd:¬32<d)(hO:∀f∈O,f∈Wd)(ht:t=⟨1,YP,a,b,c⟩)(hu:u=⟨1,Aw,a',b',c'⟩)(hw:w=⟨1,ZZ,a2,b2,c2⟩)(ho:o=⟨2,[49],a3,b3,c3⟩)(h:l.drop i=t::u::w::o::R)(hv:VerbAt l (i+4)):
 (∀s q,ListR QY l Xi (d+1) (O++[EVf]) (i+4) [] (.ok [s] q)->EndAt l q YP->StR QY l Xi d O i (.ok (.mk YP t.line t.col [⟨[],[u]⟩] [(ZZ,[o],[s])]) (q+1)))/\
 (∀e,ListR QY l Xi (d+1) (O++[EVf]) (i+4) [] (.bad e)->StR QY l Xi d O i (.bad e)):=by
 have hf:Xi (l.getD i noT).text=([],EVf):=by rw[YJ h,ht];exact qpL
 have htx:t.text=YP:=by rw[ht]
 have h2':=UN (UN h);obtain⟨w1,w2,w3⟩:=qsZ hw ho h2';have hst:Xr l (i+1+1) ((O++[EVf]).getLastD [])=(ZZ,1):=by rw[UL];exact w3
 have hh:headW l (O++[EVf]) ZZ 1 (i+1+1)=([o],i+4):=qsd (i:=i+1+1) ho (UN h2') hv;have h2:¬(ZZ=ZZ/\(headW l (O++[EVf]) ZZ 1 (i+1+1)).1=[]):=fun z=>by rw[hh]at z;exact absurd z.2 (by simp)
 have h1:twice (qiD t u) ZZ=false:=rfl;refine⟨fun s q hl he=>?_,fun e hl=>?_⟩
 ·have hb:=Et (W:=QY) (forms:=Xi) (L:=[s]) (k:=q) h1 h2 (by rw[hh];exact hl) (by unfold qcK;rfl)
  rw[hh]at hb;refine Eu (c:=⟨t.text,t.line,t.col,[⟨[],[u]⟩],[(ZZ,[o],[s])]⟩) (b:=true) hd ?_ (by unfold qca;rw[htx];rfl) |> fun z=>by rw[<-htx];exact z
  rw[hf];refine qou hO ht hu h (EA w1 w2 (by rw[hst];decide) (by rw[hst];exact hb) ?_);exact Ew he.e (he.n.trans htx.symm) (by rw[he.n];decide)
 ·refine Ex hd ?_
  rw[hf];exact qou hO ht hu h (EB w1 w2 (by rw[hst];decide) (by rw[hst];exact Ez h1 h2 (by rw[hh];exact hl)))
end
def kt(t:TokC):UInt8×Str:=(t.kind,t.text)
def qaH:Nat->List (UInt8×Str)
 |0=>[(1,IFv),(1,Aw)]
 |1=>[(1,YF),(1,qaT),(1,Bw)]
 |2=>[(1,YP),(1,Aw),(1,ZZ),(2,[49])]
 |_=>[(1,IFv),(1,Aw),(1,Wu)]
def UR:List Nat->List (UInt8×Str)
 |[]=>[(1,qaU)]
 |k::ks=>qaH k++(UR ks++[(1,qbC k)])
def Shp:List Nat->StC->Prop
 |[],s=>∃ln cl,s= .mk qaU ln cl [⟨[],[]⟩] []
 |1::ks,s=>∃s' ln cl u,Shp ks s'/\kt u=(1,Bw)/\s= .mk YF ln cl [⟨[],[]⟩,⟨qaT,[u]⟩] [([],[],[s'])]
 |2::ks,s=>∃s' ln cl u o,Shp ks s'/\kt u=(1,Aw)/\kt o=(2,[49])/\s= .mk YP ln cl [⟨[],[u]⟩] [(ZZ,[o],[s'])]
 |_::ks,s=>∃s' ln cl u,Shp ks s'/\kt u=(1,Aw)/\s= .mk IFv ln cl [⟨[],[u]⟩] [(Wu,[],[s'])]
theorem UV{t:TokC}{k:UInt8}{w:Str}(h:kt t=(k,w)):t=⟨k,w,t.line,t.col,t.left⟩:=by
 cases t;simp only[kt,Prod.mk.injEq]at h;rw[h.1,h.2]
theorem qjC{toks:List TokC}{a b:List (UInt8×Str)}{c:UInt8×Str}(h:toks.map kt=a++(b++[c])):∃ta tb tc,toks=ta++(tb++[tc])/\ta.map kt=a/\tb.map kt=b/\kt tc=c:=by
 obtain⟨ta,tr,e1,e2,e3⟩:=EC.1 h;obtain⟨tb,tz,f1,f2,f3⟩:=EC.1 e3;match tz,f3 with
 |[tc],f3=>
  simp only[Ke,Vh,List.cons.injEq,and_true]at f3;exact⟨ta,tb,tc,by rw[e1,f1],e2,f2,f3⟩
theorem qpB(ks:List Nat):∃v r,UR ks=(1,v)::r/\(v=qaU\/v=IFv\/v=YF\/v=YP):=by
 match ks with
 |[]=>exact⟨_,_,rfl, .inl rfl⟩
 |0::ks=>exact⟨_,_,rfl, .inr (.inl rfl)⟩
 |1::ks=>exact⟨_,_,rfl, .inr (.inr (.inl rfl))⟩
 |2::ks=>exact⟨_,_,rfl, .inr (.inr (.inr rfl))⟩
 |(k+3)::ks=>exact⟨_,_,rfl, .inr (.inl rfl)⟩
theorem qgF{l:List TokC}{p:Nat}{ks:List Nat}{tb R:List TokC}(h:l.drop p=tb++R)(ht:tb.map kt=UR ks):VerbAt l p:=by
 obtain⟨v,r,e,hv⟩:=qpB ks;rw[e]at ht;match tb,ht with
 |t::tb,ht=>
  simp only[Ke,List.cons.injEq]at ht;rw[UV ht.1]at h;exact qtb h hv
theorem qdj{l:List TokC}{p:Nat}{a b:List TokC}(h:l.drop p=a++b):l.drop (p+a.length)=b:=by
 rw[<-Eg,h,List.drop_left]
def qoY(l:List TokC)(j:Nat):Prop:=isE l j=true\/(isE l j=false/\∃k,qae l j=qoy k)
section
variable {ta:List TokC} {x y z u:UInt8×Str}
theorem map1(h:ta.map kt=[x]):∃a,ta=[a]/\kt a=x:=by
 match ta,h with
 |[a],h=>simp only[Ke,Vh,List.cons.injEq,and_true]at h;exact⟨a,rfl,h⟩
theorem map2(h:ta.map kt=[x,y]):∃a b,ta=[a,b]/\kt a=x/\kt b=y:=by
 match ta,h with
 |[a,b],h=>simp only[Ke,Vh,List.cons.injEq,and_true]at h;exact⟨a,b,rfl,h.1,h.2⟩
theorem map3(h:ta.map kt=[x,y,z]):∃a b c,ta=[a,b,c]/\kt a=x/\kt b=y/\kt c=z:=by
 match ta,h with
 |[a,b,c],h=>simp only[Ke,Vh,List.cons.injEq,and_true]at h;exact⟨a,b,c,rfl,h.1,h.2.1,h.2.2⟩
theorem map4(h:ta.map kt=[x,y,z,u]):∃a b c d,ta=[a,b,c,d]/\kt a=x/\kt b=y/\kt c=z/\kt d=u:=by
 match ta,h with
 |[a,b,c,d],h=>simp only[Ke,Vh,List.cons.injEq,and_true]at h;exact⟨a,b,c,d,rfl,h.1,h.2.1,h.2.2.1,h.2.2.2⟩
end
theorem qlD(k:Nat):qoy k≠[]/\qoy k≠qaU:=by
 match k with
 |0=>decide
 |1=>decide
 |2=>decide
 |k+3=>exact⟨by show IFv≠[];decide,by show IFv≠qaU;decide⟩
theorem qpe{l:List TokC}{d i:Nat}{O:List Str}{t:TokC}{R:List TokC}{a b:Int}{c:Bool}(hd:¬32<d)(ht:t=⟨1,qaU,a,b,c⟩)(h:l.drop i=t::R)(hA:qoY l (i+1)):StR QY l Xi d O i (.ok (.mk qaU t.line t.col [⟨[],[]⟩] []) (i+1)):=by
 have hf:Xi (l.getD i noT).text=([],[]):=by rw[YJ h,ht];exact qnr
 have htx:t.text=qaU:=by rw[ht]
 refine Eu (c:=⟨t.text,t.line,t.col,[⟨[],[]⟩],[]⟩) (b:=false) hd ?_ (by unfold qca;rw[htx];rfl) |> fun z=>by rw[<-htx];exact z
 rw[hf];unfold qbM;rw[YJ h];rcases hA with z|⟨z,k,e⟩
 ·exact LoopR.stop z
 ·exact LoopR.endO z (by rw[e,htx];exact(qlD k).2) (by rw[e];exact(qlD k).1)
theorem qjz{l:List TokC}{d i:Nat}{O:List Str}(k:Nat)(ks:List Nat){ta tb R:List TokC}{tc:TokC}(hd:¬32<d)(hO:∀f∈O,f∈Wd)(h:l.drop i=ta++(tb++(tc::R)))(ha:ta.map kt=qaH k)(hb:tb.map kt=UR ks)(hc:kt tc=(1,qbC k)):
 ∃F∈Wd,(∀s,Shp ks s->StR QY l Xi (d+1) (O++[F]) (i+ta.length) (.ok s (i+ta.length+tb.length))->∃s',StR QY l Xi d O i (.ok s' (i+ta.length+tb.length+1))/\Shp (k::ks) s')/\
  (∀e,StR QY l Xi (d+1) (O++[F]) (i+ta.length) (.bad e)->StR QY l Xi d O i (.bad e)):=by
 have hp:=qdj h;have hv:=qgF hp hb;have hq:=qdj hp;rw[UV hc]at hq;have he:=qsm hq;have hone:∀F s,StR QY l Xi (d+1) (O++[F]) (i+ta.length) (.ok s (i+ta.length+tb.length))->ListR QY l Xi (d+1) (O++[F]) (i+ta.length) [] (.ok [s] (i+ta.length+tb.length)):=fun F s z=>qlG hv.v z he.v;have hbad:∀F e,StR QY l Xi (d+1) (O++[F]) (i+ta.length) (.bad e)->ListR QY l Xi (d+1) (O++[F]) (i+ta.length) [] (.bad e):=fun F e z=>ListR.bad hv.v z;match k,ha,he with
 |0,ha,he=>
  obtain⟨t,u,rfl,a1,a2⟩:=map2 (show ta.map kt=[(1,IFv),(1,Aw)]from ha);obtain⟨p,q⟩:=qtk hd hO (UV a1) (UV a2) h hv;exact⟨TEf,by simp[Wd],fun s hs z=>⟨_,p s _ (hone TEf s z) he,s,_,_,u,hs,a2,rfl⟩,fun e z=>q e (hbad TEf e z)⟩
 |1,ha,he=>
  obtain⟨t,w,u,rfl,a1,a2,a3⟩:=map3 (show ta.map kt=[(1,YF),(1,qaT),(1,Bw)]from ha);obtain⟨p,q⟩:=qrt hd hO (UV a1) (UV a2) (UV a3) h hv;exact⟨[],by simp[Wd],fun s hs z=>⟨_,p s _ (hone [] s z) he,s,_,_,u,hs,a3,rfl⟩,fun e z=>q e (hbad [] e z)⟩
 |2,ha,he=>
  obtain⟨t,u,w,o,rfl,a1,a2,a3,a4⟩:=map4 (show ta.map kt=[(1,YP),(1,Aw),(1,ZZ),(2,[49])]from ha);obtain⟨p,q⟩:=qru hd hO (UV a1) (UV a2) (UV a3) (UV a4) h hv;exact⟨EVf,by simp[Wd],fun s hs z=>⟨_,p s _ (hone EVf s z) he,s,_,_,u,o,hs,a2,a4,rfl⟩,fun e z=>q e (hbad EVf e z)⟩
 |k+3,ha,he=>
  obtain⟨t,u,w,rfl,a1,a2,a3⟩:=map3 (show ta.map kt=[(1,IFv),(1,Aw),(1,Wu)]from ha);obtain⟨p,q⟩:=qpd hd hO (UV a1) (UV a2) (UV a3) h;exact⟨TEf,by simp[Wd],fun s hs z=>⟨_,p s _ (hone TEf s z) he,s,_,_,u,hs,a2,rfl⟩,fun e z=>q e (hbad TEf e z)⟩
theorem qow{l:List TokC}:∀(ks:List Nat) (d i:Nat) (O:List Str) (toks R:List TokC),d+ks.length<=32->(∀f∈O,f∈Wd)->l.drop i=toks++R->toks.map kt=UR ks->qoY l (i+toks.length)->
 ∃s,StR QY l Xi d O i (.ok s (i+toks.length))/\Shp ks s
 |[],d,i,O,toks,R,hd,hO,h,ht,hA=>by
  obtain⟨t,rfl,a1⟩:=map1 (show toks.map kt=[(1,qaU)]from ht);exact⟨_,qpe (by simp only[JD]at hd;omega) (UV a1) h hA,_,_,rfl⟩
 |k::ks,d,i,O,toks,R,hd,hO,h,ht,hA=>by
  obtain⟨ta,tb,tc,rfl,ha,hb,hc⟩:=qjC (show toks.map kt=qaH k++(UR ks++[(1,qbC k)])from ht);rw[KX]at hd;have h':l.drop i=ta++(tb++(tc::R)):=by rw[h];simp
  obtain⟨F,hF,hs,-⟩:=qjz (d:=d) k ks (by omega) hO h' ha hb hc;have hp:=qdj h';have hq:=qdj hp;rw[UV hc]at hq;have he:=qsm hq;obtain⟨s,hst,hsh⟩:=qow ks (d+1) (i+ta.length) (O++[F]) tb (tc::R) (by omega) (qjB hO hF) hp hb (.inr ⟨he.e,k,he.n⟩);obtain⟨s',a,b⟩:=hs s hsh hst;refine⟨s',?_,b⟩;have e:i+(ta++(tb++[tc])).length=i+ta.length+tb.length+1:=by simp only[Jb,JF];omega
  rw[e];exact a
def UF(ks:List Nat):Nat:=(ks.map fun k=>(qaH k).length).sum
theorem qlC{l:List TokC}:∀(n:Nat) (ks:List Nat) (d i:Nat) (O:List Str) (toks R:List TokC),d+n=33->n<=ks.length->(∀f∈O,f∈Wd)->l.drop i=toks++R->toks.map kt=UR ks->
 StR QY l Xi d O i (.bad (UI l 3 (i+UF (ks.take n))))
 |0,ks,d,i,O,toks,R,hd,hn,hO,h,ht=>by
  rw[Bj,UF,Vh,List.sum_nil,K6];exact StR.deep (by omega)
 |n+1,[],d,i,O,toks,R,hd,hn,hO,h,ht=>by cases hn
 |n+1,k::ks,d,i,O,toks,R,hd,hn,hO,h,ht=>by
  obtain⟨ta,tb,tc,rfl,ha,hb,hc⟩:=qjC (show toks.map kt=qaH k++(UR ks++[(1,qbC k)])from ht);have h':l.drop i=ta++(tb++(tc::R)):=by rw[h];simp
  obtain⟨F,hF,-,hs⟩:=qjz (d:=d) k ks (by omega) hO h' ha hb hc;have:=qlC n ks (d+1) (i+ta.length) (O++[F]) tb (tc::R) (by omega) (Nat.le_of_succ_le_succ hn) (qjB hO hF) (qdj h') hb;have hl:ta.length=(qaH k).length:=by rw[<-ha,Jn]
  rw[Ki,UF,Ke,List.sum_cons];rw[hl,Kw]at this;exact hs _ (by rw[hl];exact this)
theorem qfm{l toks:List TokC}{pt:TokC}{ks:List Nat}(hl:l=toks++[pt])(ht:toks.map kt=UR ks)(hp:pt.kind=6)(h6:l.length<=65536)(hk:ks.length<=31):∃s,ParseR QY l Xi (.ok [s] l.length)/\Shp ks s:=by
 have h0:l.drop 0=toks++[pt]:=hl;have hlen:l.length=toks.length+1:=by rw[hl,Jb,JF]
 have hq:=qdj h0;rw[Jp]at hq;have hpt:l.getD toks.length noT=pt:=YJ hq;have hE:isE l toks.length=true:=by
  unfold isE;rw[if_pos (by omega),hpt,hp];rfl
 have hnv:isV l toks.length=false:=by
  unfold isV;rw[if_pos (by omega),hpt];unfold Uh;rw[hp];rfl
 obtain⟨s,hs,hsh⟩:=qow ks 1 0 [] toks [pt] (by omega) (fun f hf=>by cases hf) h0 ht (.inl (by rw[Jp];exact hE));rw[Jp]at hs;have hv:=qgF h0 ht;refine⟨s,Ea (by omega) (SentR.next (by omega) (qlG hv.v hs hnv) (by rw[hpt,hp];simp;omega) ?_),hsh⟩;have e:l.length=toks.length+1:=hlen;rw[e,Jd];exact SentR.stop (by omega)
theorem qnb{l toks:List TokC}{pt:TokC}{ks:List Nat}(hl:l=toks++[pt])(ht:toks.map kt=UR ks)(h6:l.length<=65536)(hk:32<=ks.length):ParseR QY l Xi (.bad (UI l 3 (UF (ks.take 32)))):=by
 have h0:l.drop 0=toks++[pt]:=hl;have hlen:l.length=toks.length+1:=by rw[hl,Jb,JF]
 have:=qlC 32 ks 1 0 [] toks [pt] rfl hk (fun f hf=>by cases hf) h0 ht;rw[Jp]at this;exact Ea (by omega) (SentR.bad (by omega) (ListR.bad (qgF h0 ht).v this))
end Go.Stm
namespace Go.Stm
open Go.Col (Str)
open Go.Tok
theorem qgy{α β γ:Type}{f:α->α->Bool}{qs:List (α×β)}{ts:List (α×γ)}{j:Nat}{d:α×β}{e:α×γ}(hq:j<qs.length)(ht:j<ts.length):
 rowE f ((qs.drop j).map (·.1)) ((ts.drop j).map (·.1))=(f (qs.getD j d).1 (ts.getD j e).1 && rowE f ((qs.drop (j+1)).map (·.1)) ((ts.drop (j+1)).map (·.1))):=by
 rw[J9 hq,J9 ht,Ke,Ke,rowE];simp[Ko,hq,ht]
theorem qkg{α:Type}{f:α->α->Bool}{a b:List α}(h:a.length≠b.length):rowE f a b=false:=by
 cases e:rowE f a b with
 |false=>rfl
 |true=>exact absurd (qlk e) h
def qfC(m:Nat)(x y:BodC):Bool:=decide (x.1=y.1) && (YR x.2.1 y.2.1 && qay m x.2.2 y.2.2)
def qjt(m:Nat)(s t:StC):Bool:=decide (s.verb=t.verb) && (rowE qcf s.phrases t.phrases && rowE (qfC m) s.bodies t.bodies)
theorem qrw(m:Nat)(a b:List StC):qay (m+1) a b=rowE (qjt m) a b:=rfl
end Go.Stm
namespace Go.Proofs.YtgiadjbiimkbiaaDoor
open Go.AM
open Go.Proofs
open Go.Col (Str FaultC okF)
open Go.Tok (TokC)
open Go.Stm
open Go.RowKit (Below)
set_option maxRecDepth 100000
structure SaG where
 j:Nat
 H:AHeap
theorem c_same0(w0:World)(d:Nat)(h:AHeap)(v w:AVal)(b:List StC)(hv:IsL w0 h 5 v [])(hw:StsV w0 d h w b):ACall Tryd.prog w0 36 [v,w] h (fun r h'=>r= .bool (qay 0 [] b)/\Sub h h'):=by
 have nL:∀H:AHeap,YZ Tryd.prog H 23 v=⟨True, .int .i64 0⟩:=fun H=>hv.len Tryd.underlying23 H;have nW:=qau hw;have hlv:=hv.live;have hlw:=hw.shape.1;have hR:qay 0 [] b=decide ([].length=b.length):=rfl;rw[hR];refine Xf (n:=118) (rs:=[.tmp 4]) Tryd.func36 rfl rfl rfl rfl (Vy rfl) ?_;simp only[Xe];refine awp_rseq [0,1] (by rfl) fun K hK=>?_;simp+decide only[qh,qi,qj,qo,ev,qZ,qY,putD,Vz,VA,VB,Ka,VC,VD,Kb,and_true,↓qV,qP,qM,ne_eq,not_false_eq_true,qN,qJ,VE,setAt,VF,Kj,qC,VG,Kn,Jp,Nat.reduceAdd,qF,qG,qI,qf,qK,qa,qz,qd,qE,qc,qA,qg,qH,qy,allLive,J4,tokV,nL,nW,hlv,hlw];repeat (with_reducible refine And.intro ?_ ?_;· first|trivial|omega|(intro hg;simp only[Ky,JH,Jh,VH,VI,VJ,decide_eq_true_eq,decide_eq_false_iff_not,qR]at hg;omega))
 apply hK;clear hK K;refine Qp ?_;refine awp_rseq [0,1,17] (by rfl) fun K hK=>?_;simp+decide only[qh,qi,qj,qo,ev,qZ,qY,putD,Vz,VA,VB,Ka,VC,VD,Kb,and_true,↓qW,qU,↓XG,Xh,QE Tryd.underlying23,QT Tryd.underlying23,↓Qj,Qa,Qz,cond_false,Qh,qai,qM,ne_eq,not_false_eq_true,qN,qJ,VE,setAt,VF,Kj,qC,VG,Kn,Jp,Nat.reduceAdd,qF,qG,qI,qf,qK,qa,qz,qd,qE,qc,qA,qg,qH,qy,allLive,J4,tokV,nL,nW,hlv,hlw];repeat (with_reducible refine And.intro ?_ ?_;· first|trivial|omega|(intro hg;simp only[Ky,JH,Jh,VH,VI,VJ,decide_eq_true_eq,decide_eq_false_iff_not,qR]at hg;omega))
 apply hK;clear hK K;refine Qw (b:=_) rfl (fun hb1=>?_) (fun hb1=>?_)
 ·try simp only[decide_eq_true_eq,decide_eq_false_iff_not,Jh,VJ,Ky,VH,JH,VI,VV,VW,reduceCtorEq]at hb1
  refine awp_rseq [4] (by rfl) fun K hK=>?_;simp+decide only[qh,qi,qj,qo,ev,qZ,qY,putD,Vz,VA,VB,Ka,VC,VD,Kb,and_true,↓qV,qP,qM,ne_eq,not_false_eq_true,qN,qJ,VE,setAt,VF,Kj,qC,VG,Kn,Jp,Nat.reduceAdd,qF,qG,qI,qf,qK,qa,qz,qd,qE,qc,qA,qg,qH,qy,allLive,J4,tokV,nL,nW,hlv,hlw];repeat (with_reducible refine And.intro ?_ ?_;· first|trivial|omega|(intro hg;simp only[Ky,JH,Jh,VH,VI,VJ,decide_eq_true_eq,decide_eq_false_iff_not,qR]at hg;omega))
  apply hK;clear hK K;refine Xd ?_;try simp only[QF,Qn]
  refine XV h zqC (Qr (Qv)) ?_;simp+decide only[qh,qi,qj,qo,ev,qZ,qY,putD,Vz,VA,VB,Ka,VC,VD,Kb,and_true,QU,qM,ne_eq,not_false_eq_true,qN,qJ,VE,setAt,VF,Kj,qC,VG,Kn,Jp,Nat.reduceAdd,qF,qG,qI,qf,qK,qa,qz,qd,qE,qc,qA,qg,qH,qy,allLive,J4,tokV,nL,nW,hlv,hlw];refine⟨?_,Vg _⟩;first
  |(rw[decide_eq_false (by simp only[JD];omega)];done)
  |(rw[hb0];rfl)
 ·try simp only[decide_eq_true_eq,decide_eq_false_iff_not,Jh,VJ,Ky,VH,JH,VI,VV,VW,reduceCtorEq]at hb1
  have hb0:b.length=0:=by omega
  refine QJ ?_;change Awp _ _ _ _ _ _ _;refine Qp ?_;refine awp_rseq [1,18,19,20] (by rfl) fun K hK=>?_;simp+decide only[qh,qi,qj,qo,ev,qZ,qY,putD,Vz,VA,VB,Ka,VC,VD,Kb,and_true,↓qW,qU,↓XG,Xh,QE Tryd.underlying23,QT Tryd.underlying23,qM,ne_eq,not_false_eq_true,qN,qJ,VE,setAt,VF,Kj,qC,VG,Kn,Jp,Nat.reduceAdd,qF,qG,qI,qf,qK,qa,qz,qd,qE,qc,qA,qg,qH,qy,allLive,J4,tokV,nL,nW,hlv,hlw];repeat (with_reducible refine And.intro ?_ ?_;· first|trivial|omega|(intro hg;simp only[Ky,JH,Jh,VH,VI,VJ,decide_eq_true_eq,decide_eq_false_iff_not,qR]at hg;omega))
  apply hK;clear hK K;refine QL ?_;refine XI [1,18,19,20] (fun z:Unit=>[(1,w),(18,v),(19, .int .i64 0),(20, .int .i64 0)]) (fun z:Unit=>h) (fun z:Unit=>True) (fun z:Unit=>0) () (by rfl) (Vg _) trivial ?_;intro z _;refine awp_rseq [1,18,19,20,21] (by rfl) fun K hK=>?_;simp+decide only[qh,qi,qj,qo,ev,qZ,qY,putD,Vz,VA,VB,Ka,VC,VD,Kb,and_true,↓Qj,Qa,Qz,cond_false,Qh,Zo,qM,ne_eq,not_false_eq_true,qN,qJ,VE,setAt,VF,Kj,qC,VG,Kn,Jp,Nat.reduceAdd,qF,qG,qI,qf,qK,qa,qz,qd,qE,qc,qA,qg,qH,qy,allLive,J4,tokV,nL,nW,hlv,hlw];repeat (with_reducible refine And.intro ?_ ?_;· first|trivial|omega|(intro hg;simp only[Ky,JH,Jh,VH,VI,VJ,decide_eq_true_eq,decide_eq_false_iff_not,qR]at hg;omega))
  apply hK;clear hK K;refine Qp (Qw (b:=_) rfl (fun hb2=>?_) (fun hb2=>?_))
  ·cases hb2
  ·try simp only[decide_eq_true_eq,decide_eq_false_iff_not,Jh,VJ,Ky,VH,JH,VI,VV,VW,reduceCtorEq]at hb2
   refine XJ ?_;change Awp _ _ _ _ _ _ _;refine awp_rseq [4] (by rfl) fun K hK=>?_;simp+decide only[qh,qi,qj,qo,ev,qZ,qY,putD,Vz,VA,VB,Ka,VC,VD,Kb,and_true,↓qV,qP,qM,ne_eq,not_false_eq_true,qN,qJ,VE,setAt,VF,Kj,qC,VG,Kn,Jp,Nat.reduceAdd,qF,qG,qI,qf,qK,qa,qz,qd,qE,qc,qA,qg,qH,qy,allLive,J4,tokV,nL,nW,hlv,hlw];repeat (with_reducible refine And.intro ?_ ?_;· first|trivial|omega|(intro hg;simp only[Ky,JH,Jh,VH,VI,VJ,decide_eq_true_eq,decide_eq_false_iff_not,qR]at hg;omega))
   apply hK;clear hK K;refine Xd ?_;try simp only[QF,Qn]
   refine XV h zqC (Qr (Qv)) ?_;simp+decide only[qh,qi,qj,qo,ev,qZ,qY,putD,Vz,VA,VB,Ka,VC,VD,Kb,and_true,QU,qM,ne_eq,not_false_eq_true,qN,qJ,VE,setAt,VF,Kj,qC,VG,Kn,Jp,Nat.reduceAdd,qF,qG,qI,qf,qK,qa,qz,qd,qE,qc,qA,qg,qH,qy,allLive,J4,tokV,nL,nW,hlv,hlw];refine⟨?_,Vg _⟩;first
   |(rw[decide_eq_false (by simp only[JD];omega)];done)
   |(rw[hb0];rfl)
set_option maxHeartbeats 16000000 in
theorem c_sameS(w0:World)(m d:Nat)(h:AHeap)(v w:AVal)(a b:List StC)(hs:StsV w0 (m+1) h v a)(hw:StsV w0 d h w b)(hsm:SmallS (m+1) a)(hsw:SmallS d b)
 (ih:∀(h':AHeap) (v w:AVal) (a b:List StC),StsV w0 m h' v a->StsV w0 (d-1) h' w b->SmallS m a->SmallS (d-1) b->ACall Tryd.prog w0 36 [v,w] h' (fun r h''=>r= .bool (qay m a b)/\Sub h' h'')):
 ACall Tryd.prog w0 36 [v,w] h (fun r h'=>r= .bool (qay (m+1) a b)/\Sub h h'):=by
 obtain⟨qs,hqe,hqL,hels⟩:=qez hs hsm;obtain⟨ts,hte,htL,htls⟩:=qez hw hsw;rw[Eh]at hels;have nL:=qgu hqL;have nW:=qgu htL;have hlv:=hqL.live;have hlw:=htL.live;have hln:qs.length<=1000000:=by have:=hsm.len;rw[hqe,Jn]at this;exact this
 have hR:qay (m+1) a b=rowE (qjt m) ((qs.drop 0).map (·.1)) ((ts.drop 0).map (·.1)):=by rw[qrw,hqe,hte];rfl
 obtain⟨R,hRR⟩:∃R,R=qay (m+1) a b:=⟨_,rfl⟩
 rw[<-hRR]at hR|-
 refine Xf (n:=118) (rs:=[.tmp 4]) Tryd.func36 rfl rfl rfl rfl (Vy rfl) ?_;simp only[Xe];refine awp_rseq [0,1] (by rfl) fun K hK=>?_;simp+decide only[qh,qi,qj,qo,ev,qZ,qY,putD,Vz,VA,VB,Ka,VC,VD,Kb,and_true,↓qV,qP,qM,ne_eq,not_false_eq_true,qN,qJ,VE,setAt,VF,Kj,qC,VG,Kn,Jp,Nat.reduceAdd,qF,qG,qI,qf,qK,qa,qz,qd,qE,qc,qA,qg,qH,qy,allLive,J4,tokV,nL,nW,hlv,hlw];repeat (with_reducible refine And.intro ?_ ?_;· first|trivial|omega|(intro hg;simp only[Ky,JH,Jh,VH,VI,VJ,decide_eq_true_eq,decide_eq_false_iff_not,qR]at hg;omega))
 apply hK;clear hK K;refine Qp ?_;refine awp_rseq [0,1,17] (by rfl) fun K hK=>?_;simp+decide only[qh,qi,qj,qo,ev,qZ,qY,putD,Vz,VA,VB,Ka,VC,VD,Kb,and_true,↓qW,qU,↓XG,Xh,QE Tryd.underlying23,QT Tryd.underlying23,↓Qj,Qa,Qz,cond_false,Qh,qai,qM,ne_eq,not_false_eq_true,qN,qJ,VE,setAt,VF,Kj,qC,VG,Kn,Jp,Nat.reduceAdd,qF,qG,qI,qf,qK,qa,qz,qd,qE,qc,qA,qg,qH,qy,allLive,J4,tokV,nL,nW,hlv,hlw];repeat (with_reducible refine And.intro ?_ ?_;· first|trivial|omega|(intro hg;simp only[Ky,JH,Jh,VH,VI,VJ,decide_eq_true_eq,decide_eq_false_iff_not,qR]at hg;omega))
 apply hK;clear hK K;refine Qw (b:=_) rfl (fun hb1=>?_) (fun hb1=>?_)
 ·try simp only[decide_eq_true_eq,decide_eq_false_iff_not,Jh,VJ,Ky,VH,JH,VI,VV,VW,reduceCtorEq]at hb1
  refine awp_rseq [4] (by rfl) fun K hK=>?_;simp+decide only[qh,qi,qj,qo,ev,qZ,qY,putD,Vz,VA,VB,Ka,VC,VD,Kb,and_true,↓qV,qP,qM,ne_eq,not_false_eq_true,qN,qJ,VE,setAt,VF,Kj,qC,VG,Kn,Jp,Nat.reduceAdd,qF,qG,qI,qf,qK,qa,qz,qd,qE,qc,qA,qg,qH,qy,allLive,J4,tokV,nL,nW,hlv,hlw];repeat (with_reducible refine And.intro ?_ ?_;· first|trivial|omega|(intro hg;simp only[Ky,JH,Jh,VH,VI,VJ,decide_eq_true_eq,decide_eq_false_iff_not,qR]at hg;omega))
  apply hK;clear hK K;refine Xd ?_;try simp only[QF,Qn]
  refine XV h zqC (Qr (Qv)) ?_;simp+decide only[qh,qi,qj,qo,ev,qZ,qY,putD,Vz,VA,VB,Ka,VC,VD,Kb,and_true,QU,qM,ne_eq,not_false_eq_true,qN,qJ,VE,setAt,VF,Kj,qC,VG,Kn,Jp,Nat.reduceAdd,qF,qG,qI,qf,qK,qa,qz,qd,qE,qc,qA,qg,qH,qy,allLive,J4,tokV,nL,nW,hlv,hlw];refine⟨?_,Vg _⟩;rw[hR,qkg (by simp only[Vk,Jn];omega)]
 ·try simp only[decide_eq_true_eq,decide_eq_false_iff_not,Jh,VJ,Ky,VH,JH,VI,VV,VW,reduceCtorEq]at hb1
  have heq:ts.length=qs.length:=by omega
  refine QJ ?_;change Awp _ _ _ _ _ _ _;refine Qp ?_;refine awp_rseq [1,18,19,20] (by rfl) fun K hK=>?_;simp+decide only[qh,qi,qj,qo,ev,qZ,qY,putD,Vz,VA,VB,Ka,VC,VD,Kb,and_true,↓qW,qU,↓XG,Xh,QE Tryd.underlying23,QT Tryd.underlying23,qM,ne_eq,not_false_eq_true,qN,qJ,VE,setAt,VF,Kj,qC,VG,Kn,Jp,Nat.reduceAdd,qF,qG,qI,qf,qK,qa,qz,qd,qE,qc,qA,qg,qH,qy,allLive,J4,tokV,nL,nW,hlv,hlw];repeat (with_reducible refine And.intro ?_ ?_;· first|trivial|omega|(intro hg;simp only[Ky,JH,Jh,VH,VI,VJ,decide_eq_true_eq,decide_eq_false_iff_not,qR]at hg;omega))
  apply hK;clear hK K;refine QL ?_;refine XI [1,18,19,20] (fun g:SaG=>[(1,w),(18,v),(19, .int .i64 qs.length),(20, .int .i64 g.j)]) (fun g:SaG=>g.H) (fun g:SaG=>Sub h g.H/\g.j<=qs.length/\R=rowE (qjt m) ((qs.drop g.j).map (·.1)) ((ts.drop g.j).map (·.1))) (fun g:SaG=>qs.length-g.j) ⟨0,h⟩ (by rfl) (Vg _) ⟨Vg _,Jq _,hR⟩ ?_;rintro⟨j,H⟩ ⟨hs_H,hj,hg⟩;simp only at hs_H hj hg|-
  refine awp_rseq [1,18,19,20,21] (by rfl) fun K hK=>?_;simp+decide only[qh,qi,qj,qo,ev,qZ,qY,putD,Vz,VA,VB,Ka,VC,VD,Kb,and_true,↓Qj,Qa,Qz,cond_false,Qh,Zo,qM,ne_eq,not_false_eq_true,qN,qJ,VE,setAt,VF,Kj,qC,VG,Kn,Jp,Nat.reduceAdd,qF,qG,qI,qf,qK,qa,qz,qd,qE,qc,qA,qg,qH,qy,allLive,J4,tokV,nL,nW,hlv,hlw];repeat (with_reducible refine And.intro ?_ ?_;· first|trivial|omega|(intro hg;simp only[Ky,JH,Jh,VH,VI,VJ,decide_eq_true_eq,decide_eq_false_iff_not,qR]at hg;omega))
  apply hK;clear hK K;refine Qp (Qw (b:=_) rfl (fun hb2=>?_) (fun hb2=>?_))
  ·try simp only[decide_eq_true_eq,decide_eq_false_iff_not,Jh,VJ,Ky,VH,JH,VI,VV,VW,reduceCtorEq]at hb2
   have hj1:j<qs.length:=by omega
   have hj2:j<ts.length:=by omega
   obtain⟨q,hqj⟩:∃q,q=qs.getD j qdR:=⟨_,rfl⟩
   obtain⟨t,htj⟩:∃t,t=ts.getD j qdR:=⟨_,rfl⟩
   have hqm:q∈qs:=by rw[hqj,Ko,JB hj1];exact Vr hj1
   have htm:t∈ts:=by rw[htj,Ko,JB hj2];exact Vr hj2
   obtain⟨lc,o,cc,hpe⟩:=qeA hqL (by omega);obtain⟨lw,ow,cw,hwe⟩:=qeA htL (by omega);have hq2:=hqL.mono hs_H;rw[hpe]at hq2;obtain⟨e0,e1,e2,e3,e4⟩:=qdW hq2 hj1;rw[<-hqj]at e0 e1 e2 e3 e4;have gq:∀(k:Nat) (X:Blk),H k=none->rd w0 (H.set k X) lw (ow+j*5)= .str t.1.verb/\rd w0 (H.set k X) lw (ow+j*5+1)= .int .i64 t.1.line/\rd w0 (H.set k X) lw (ow+j*5+2)= .int .i64 t.1.col/\rd w0 (H.set k X) lw (ow+j*5+3)=t.2.1/\rd w0 (H.set k X) lw (ow+j*5+4)=t.2.2:=fun k X hk=>by
    have ht2:=htL.mono (hs_H.trans (V8 (b:=X) hk));rw[hwe]at ht2;rw[htj];exact qdW ht2 hj2
   obtain⟨hph,hbd,hbn,hpn,hpt,hbb⟩:=hels q hqm;obtain⟨hphT,hbdT,hbnT,hpnT,hptT,hbbT⟩:=htls t htm;have hst:=qgy (f:=qjt m) (d:=qdR) (e:=qdR) hj1 hj2;rw[<-hqj,<-htj]at hst;rw[hst]at hg;have hl1:=hph.live;have hs1:=hph.scal;have hl2:=hbd.live;have hs2:=hbd.scal;have hl3:=hphT.live;have hs5:=hs1;have hs6:=hs1;have hs7:=hs1;have hs8:=hs1;have hs3:=hphT.scal;have hl4:=hbdT.live;have hs4:=hbdT.scal;obtain⟨pl,hpl,hpq,hpr⟩:=id hph;obtain⟨ul,hul,huq,hur⟩:=id hphT;obtain⟨ql,hql,hqb,hqq⟩:=id hbd;obtain⟨tl,htl,htb,htq⟩:=id hbdT;have np:=qie hpq;have nu:=qie huq;have nb:=qdJ hqb;have nt:=qdJ htb;have hbn2:ql.length<=1000000:=by rw[hql,Jn]at hbn;exact hbn
   have hpn2:pl.length<=1000000:=by rw[hpl,Jn]at hpn;exact hpn
   obtain⟨⟨qv,qln,qcl,qps,qbs⟩,qp,qb⟩:=q;obtain⟨⟨tv,tln,tcl,tps,tbs⟩,tp,tb⟩:=t;simp only[El,StC.line,StC.col,Ei,Ej]at e0 e1 e2 e3 e4 gq hl1 hs1 hl2 hs2 hl3 hs3 hl4 hs4 hs5 hs6 hs7 hs8 np nu nb nt hpq huq hqb htb hpl hul hql htl hbb hbbT hpt hptT hpr hur hqq htq hg;obtain⟨X,hX⟩:∃X,X=rowE (qjt m) ((qs.drop (j+1)).map (·.1)) ((ts.drop (j+1)).map (·.1)):=⟨_,rfl⟩
   rw[<-hX]at hg;have hwj:IntKind.i64.wrap ((j:Int)+1)=((j+1:Nat):Int):=by rw[wrap_i64 (by omega) (by omega)];omega
   have hgS:R=((decide (qv=tv) && (rowE qcf ((pl.drop 0).map (·.1)) ((ul.drop 0).map (·.1)) && rowE (qfC m) ((ql.drop 0).map (·.1)) ((tl.drop 0).map (·.1)))) && X):=by rw[hg,qjt];simp only[El,Ei,Ej];rw[hpl,hul,hql,htl];rfl
   refine QJ ?_;change Awp _ _ _ _ _ _ _;refine Qp ?_;refine QL ?_;refine awp_rseq [1,5,6,18,19,20] (by rfl) fun K hK=>?_;simp+decide only[qh,qi,qj,qo,ev,qZ,qY,putD,Vz,VA,VB,Ka,VC,VD,Kb,and_true,↓qW,qU,↓QV,QM,Ql Tryd.underlying23 WJ,↓Qu,Xy qgm WJ,qM,ne_eq,not_false_eq_true,qN,qJ,VE,setAt,VF,Kj,qC,VG,Kn,Jp,Nat.reduceAdd,qF,qG,qI,qf,qK,qa,qz,qd,qE,qc,qA,qg,qH,qy,allLive,J4,tokV,nL,nW,hlv,hlw,hpe,e0,e1,e2,e3,e4,hl1,hl2,VO,VX,K6];repeat (with_reducible refine And.intro ?_ ?_;· first|trivial|omega|(intro hg;simp only[Ky,JH,Jh,VH,VI,VJ,decide_eq_true_eq,decide_eq_false_iff_not,qR]at hg;omega))
   refine XL qka (cs:=[.str [], .int .i64 0, .int .i64 0, .nilSlice, .nilSlice]) (by rfl) fun k5q3 hk5q3=>?_;have hn_5q3:H k5q3=none:=by first|assumption|(simp only[V7]at hk5q3;simp only[hk5q3])
   have hf_5q3:h k5q3=none:=Bh hs_H hn_5q3;simp+decide only[qh,qi,qj,qo,ev,qZ,qY,putD,Vz,VA,VB,Ka,VC,VD,Kb,and_true,↓qV,qP,qM,ne_eq,not_false_eq_true,qN,qJ,VE,setAt,VF,Kj,qC,VG,Kn,Jp,Nat.reduceAdd,qF,qG,qI,qf,qK,qa,qz,qd,qE,qc,qA,qg,qH,qy,allLive,J4,tokV,nL,nW,hlv,hlw,hpe,e0,e1,e2,e3,e4,hl1,hl2,VO,VX,K6];repeat (with_reducible refine And.intro ?_ ?_;· first|trivial|omega|(intro hg;simp only[Ky,JH,Jh,VH,VI,VJ,decide_eq_true_eq,decide_eq_false_iff_not,qR]at hg;omega))
   refine QR (by rfl) (by rfl) zqA WJ (by rfl) (by rfl) zqD (Jq _) (by first|rfl|(simp+decide only[ev,putD,Vz,VA,Ka,VE,XR,J4,VO,hs1,hs2,hs3,hs4,hs5,hs6,hs7,hs8,qaa,UZ,WH])) ?_;simp only[Bi,setAt,VE,VF,Kj,Jp,Nat.reduceAdd];simp+decide only[qh,qi,qj,qo,ev,qZ,qY,putD,Vz,VA,VB,Ka,VC,VD,Kb,and_true,qM,ne_eq,not_false_eq_true,qN,qJ,VE,setAt,VF,Kj,qC,VG,Kn,Jp,Nat.reduceAdd,qF,qG,qI,qf,qK,qa,qz,qd,qE,qc,qA,qg,qH,qy,allLive,J4,tokV,nL,nW,hlv,hlw,hpe,e0,e1,e2,e3,e4,hl1,hl2,VO,VX,K6];repeat (with_reducible refine And.intro ?_ ?_;· first|trivial|omega|(intro hg;simp only[Ky,JH,Jh,VH,VI,VJ,decide_eq_true_eq,decide_eq_false_iff_not,qR]at hg;omega))
   apply hK;clear hK K;refine awp_rseq [1,6,7,18,19,20] (by rfl) fun K hK=>?_;simp+decide only[qh,qi,qj,qo,ev,qZ,qY,putD,Vz,VA,VB,Ka,VC,VD,Kb,and_true,↓qW,qU,↓QV,QM,Ql Tryd.underlying23 WJ,↓Qu,Xy qgm WJ,qM,ne_eq,not_false_eq_true,qN,qJ,VE,setAt,VF,Kj,qC,VG,Kn,Jp,Nat.reduceAdd,qF,qG,qI,qf,qK,qa,qz,qd,qE,qc,qA,qg,qH,qy,allLive,J4,tokV,nL,nW,hlv,hlw,hwe,(gq k5q3 _ hk5q3).1,(gq k5q3 _ hk5q3).2.1,(gq k5q3 _ hk5q3).2.2.1,(gq k5q3 _ hk5q3).2.2.2.1,(gq k5q3 _ hk5q3).2.2.2.2,hl3,hl4,VO,VX,K6];repeat (with_reducible refine And.intro ?_ ?_;· first|trivial|omega|(intro hg;simp only[Ky,JH,Jh,VH,VI,VJ,decide_eq_true_eq,decide_eq_false_iff_not,qR]at hg;omega))
   refine XL qka (cs:=[.str [], .int .i64 0, .int .i64 0, .nilSlice, .nilSlice]) (by rfl) fun k6q4 hk6q4=>?_;have ne_6q4_5q3:k6q4≠k5q3:=by simp only[V7]at hk6q4;simp only[hk6q4,ne_eq,not_false_eq_true]
   have hn_6q4:H k6q4=none:=by first|assumption|(simp only[V7]at hk6q4;simp only[hk6q4])
   have hf_6q4:h k6q4=none:=Bh hs_H hn_6q4;refine QR (by rfl) (by rfl) zqA WJ (by rfl) (by rfl) zqD (Jq _) (by first|rfl|(simp+decide only[ev,putD,Vz,VA,Ka,VE,XR,J4,VO,hs1,hs2,hs3,hs4,hs5,hs6,hs7,hs8,qaa,UZ,WH])) ?_;simp only[Bi,setAt,VE,VF,Kj,Jp,Nat.reduceAdd];simp+decide only[qh,qi,qj,qo,ev,qZ,qY,putD,Vz,VA,VB,Ka,VC,VD,Kb,and_true,qM,ne_eq,not_false_eq_true,ne_6q4_5q3,ne_6q4_5q3.symm,qN,qJ,VE,setAt,VF,Kj,qC,VG,Kn,Jp,Nat.reduceAdd,qF,qG,qI,qf,qK,qa,qz,qd,qE,qc,qA,qg,qH,qy,allLive,J4,tokV,nL,nW,hlv,hlw,hwe,(gq k5q3 _ hk5q3).1,(gq k5q3 _ hk5q3).2.1,(gq k5q3 _ hk5q3).2.2.1,(gq k5q3 _ hk5q3).2.2.2.1,(gq k5q3 _ hk5q3).2.2.2.2,hl3,hl4,VO,VX,K6];repeat (with_reducible refine And.intro ?_ ?_;· first|trivial|omega|(intro hg;simp only[Ky,JH,Jh,VH,VI,VJ,decide_eq_true_eq,decide_eq_false_iff_not,qR]at hg;omega))
   apply hK;clear hK K;refine Qp ?_;refine awp_rseq [1,6,7,18,19,20,51] (by rfl) fun K hK=>?_;simp+decide only[qh,qi,qj,qo,ev,qZ,qY,putD,Vz,VA,VB,Ka,VC,VD,Kb,and_true,↓Qo,Qd,qcp,↓Qu,QM,Qi ag9,↓Qj,Qa,Qz,cond_false,XC,qaB,↓qW,qU,↓XW,agP,Xw,gv,QB,QD,QC,Qs,Qg,Qe,Zk,implies_true,VK,decide_true,decide_false,VL,VM,Qc,Qb,forall_const,false_implies,Qk,Qf,J4,VN,VO,VP,VQ,VS,VT,VU,UJ,XN,XO,Xb,Xc,Xa,↓ZG,Zt,Wn,ZP,ZO,ZN,ZM,ZL,ZK,Qi qfv,ZI,ZJ,↓qet,Xh,QE Tryd.underlying45,QT Tryd.underlying45,qej,qel,↓XT,Zb,Za,Zd,Zc,Qh,qai,↓XH,Xj,QO,QH,QG,QA,Xo,Xn,Xm,Xl,QZ,Xk,WG,Qi qdL,QE Tryd.underlying46,QT Tryd.underlying46,qM,ne_eq,not_false_eq_true,ne_6q4_5q3,ne_6q4_5q3.symm,qN,qJ,VE,setAt,VF,Kj,qC,VG,Kn,Jp,Nat.reduceAdd,qF,qG,qI,qf,qK,qa,qz,qd,qE,qc,qA,qg,qH,qy,allLive,J4,tokV,nL,nW,hlv,hlw,np,nu,nb,nt,hl1,hl2,hl3,hl4];repeat (with_reducible refine And.intro ?_ ?_;· first|trivial|omega|(intro hg;simp only[Ky,JH,Jh,VH,VI,VJ,decide_eq_true_eq,decide_eq_false_iff_not,qR]at hg;omega))
   apply hK;clear hK K;refine Qw (b:=_) rfl (fun hb3=>?_) (fun hb3=>?_)
   ·try simp only[decide_eq_true_eq,decide_eq_false_iff_not,Jh,VJ,Ky,VH,JH,VI,VV,VW,reduceCtorEq]at hb3
    refine awp_rseq [4] (by rfl) fun K hK=>?_;simp+decide only[qh,qi,qj,qo,ev,qZ,qY,putD,Vz,VA,VB,Ka,VC,VD,Kb,and_true,↓qV,qP,qM,ne_eq,not_false_eq_true,ne_6q4_5q3,ne_6q4_5q3.symm,qN,qJ,VE,setAt,VF,Kj,qC,VG,Kn,Jp,Nat.reduceAdd,qF,qG,qI,qf,qK,qa,qz,qd,qE,qc,qA,qg,qH,qy,allLive,J4,tokV,nL,nW,hlv,hlw];repeat (with_reducible refine And.intro ?_ ?_;· first|trivial|omega|(intro hg;simp only[Ky,JH,Jh,VH,VI,VJ,decide_eq_true_eq,decide_eq_false_iff_not,qR]at hg;omega))
    apply hK;clear hK K;refine Xd ?_;try simp only[QF,Qn]
    refine Xu (Qr (Qv)) ?_;simp+decide only[qh,qi,qj,qo,ev,qZ,qY,putD,Vz,VA,VB,Ka,VC,VD,Kb,and_true,QU,qM,ne_eq,not_false_eq_true,ne_6q4_5q3,ne_6q4_5q3.symm,qN,qJ,VE,setAt,VF,Kj,qC,VG,Kn,Jp,Nat.reduceAdd,qF,qG,qI,qf,qK,qa,qz,qd,qE,qc,qA,qg,qH,qy,allLive,J4,tokV,nL,nW,hlv,hlw];refine⟨h,zqB,?_,Vg _⟩;rw[hgS];by_cases z1:qv=tv
    ·by_cases z2:pl.length=ul.length
     ·have z3:ql.length≠tl.length:=fun z3=>by simp[z1,z2,z3]at hb3
      rw[qkg (f:=qfC m) (by simpa using z3),VN,VN,VP]
     ·rw[qkg (f:=qcf) (by simpa using z2),VP,VN,VP]
    ·rw[decide_eq_false z1,VP,VP]
   ·try simp only[decide_eq_true_eq,decide_eq_false_iff_not,Jh,VJ,Ky,VH,JH,VI,VV,VW,reduceCtorEq]at hb3
    obtain⟨⟨z1,z2⟩,z3⟩:=hb3;have z2:pl.length=ul.length:=by omega
    have z3:ql.length=tl.length:=by omega
    rw[decide_eq_true z1,VO]at hgS;refine QJ ?_;change Awp _ _ _ _ _ _ _;refine Qp ?_;refine awp_rseq [1,6,7,18,19,20,53,54,55] (by rfl) fun K hK=>?_;simp+decide only[qh,qi,qj,qo,ev,qZ,qY,putD,Vz,VA,VB,Ka,VC,VD,Kb,and_true,↓Qo,Qd,UJ,↓Qu,QM,Qi qfv,↓XG,Xh,QE Tryd.underlying45,QT Tryd.underlying45,↓qW,qU,qM,ne_eq,not_false_eq_true,ne_6q4_5q3,ne_6q4_5q3.symm,qN,qJ,VE,setAt,VF,Kj,qC,VG,Kn,Jp,Nat.reduceAdd,qF,qG,qI,qf,qK,qa,qz,qd,qE,qc,qA,qg,qH,qy,allLive,J4,tokV,nL,nW,hlv,hlw,np,hl1,hl2];repeat (with_reducible refine And.intro ?_ ?_;· first|trivial|omega|(intro hg;simp only[Ky,JH,Jh,VH,VI,VJ,decide_eq_true_eq,decide_eq_false_iff_not,qR]at hg;omega))
    apply hK;clear hK K;refine QL ?_;refine XI [1,6,7,18,19,20,53,54,55] (fun g:SaG=>[(1,w),(6, .ptr (.own k5q3) 0),(7, .ptr (.own k6q4) 0),(18,v),(19, .int .i64 qs.length),(20, .int .i64 j),(53,qp),(54, .int .i64 pl.length),(55, .int .i64 g.j)]) (fun g:SaG=>g.H) (fun g:SaG=>Sub h g.H/\g.H k5q3=some ⟨[.str qv, .int .i64 qln, .int .i64 qcl,qp,qb],0⟩/\g.H k6q4=some ⟨[.str tv, .int .i64 tln, .int .i64 tcl,tp,tb],0⟩/\g.j<=pl.length/\R=((rowE qcf ((pl.drop g.j).map (·.1)) ((ul.drop g.j).map (·.1)) && rowE (qfC m) ((ql.drop 0).map (·.1)) ((tl.drop 0).map (·.1))) && X)) (fun g:SaG=>pl.length-g.j) ⟨0,_⟩ (by first|rfl|(rw[hpe,hwe];rfl)) (Vg _) ⟨zqB,zqA,zqA,Jq _,hgS⟩ ?_;rintro⟨a,H2⟩ ⟨hs_H2,eb_5q3,eb_6q4,ha,hga⟩;simp only at hs_H2 eb_5q3 eb_6q4 ha hga|-
    refine awp_rseq [1,6,7,18,19,20,53,54,55,56] (by rfl) fun K hK=>?_;simp+decide only[qh,qi,qj,qo,ev,qZ,qY,putD,Vz,VA,VB,Ka,VC,VD,Kb,and_true,↓Qj,Qa,Qz,cond_false,Qh,Zo,qM,ne_eq,not_false_eq_true,qO w0 eb_5q3,qO w0 eb_6q4,ne_6q4_5q3,ne_6q4_5q3.symm,qN,qJ,VE,setAt,VF,Kj,qC,VG,Kn,Jp,Nat.reduceAdd,qF,qG,qI,qf,qK,qa,qz,qd,qE,qc,qA,qg,qH,qy,allLive,J4,tokV,nL,nW,hlv,hlw];repeat (with_reducible refine And.intro ?_ ?_;· first|trivial|omega|(intro hg;simp only[Ky,JH,Jh,VH,VI,VJ,decide_eq_true_eq,decide_eq_false_iff_not,qR]at hg;omega))
    apply hK;clear hK K;refine Qp (Qw (b:=_) rfl (fun hb4=>?_) (fun hb4=>?_))
    ·try simp only[decide_eq_true_eq,decide_eq_false_iff_not,Jh,VJ,Ky,VH,JH,VI,VV,VW,reduceCtorEq]at hb4
     have ha1:a<pl.length:=by omega
     have ha2:a<ul.length:=by omega
     obtain⟨p,hpj⟩:∃p,p=pl.getD a qeV:=⟨_,rfl⟩
     obtain⟨u,huj⟩:∃u,u=ul.getD a qeV:=⟨_,rfl⟩
     have hpm:p∈pl:=by rw[hpj,Ko,JB ha1];exact Vr ha1
     have hum:u∈ul:=by rw[huj,Ko,JB ha2];exact Vr ha2
     obtain⟨lp,op,cp,hpp⟩:=qdw hpq (by omega);obtain⟨lu,ou,cu,hup⟩:=qdw huq (by omega);have hp2:=hpq.mono hs_H2;rw[hpp]at hp2;obtain⟨f0,f1⟩:=qfF hp2 ha1;rw[<-hpj]at f0 f1;have gu:∀(k:Nat) (X:Blk),H2 k=none->rd w0 (H2.set k X) lu (ou+a*2)= .str u.1.words/\rd w0 (H2.set k X) lu (ou+a*2+1)=u.2:=fun k X hk=>by
      have ht2:=huq.mono (hs_H2.trans (V8 (b:=X) hk));rw[hup]at ht2;rw[huj];exact qfF ht2 ha2
     have hpk:=hpr p hpm;have huk:=hur u hum;have hpkl:p.1.toks.length<=1000000:=hpt _ (by rw[hpl];exact Ec (f:=(·.1)) hpm);have hst2:=qgy (f:=qcf) (d:=qeV) (e:=qeV) ha1 ha2;rw[<-hpj,<-huj]at hst2;rw[hst2]at hga;have hl5:=hpk.live;have hs5:=hpk.scal;have hl6:=huk.live;obtain⟨⟨pw,pt⟩,pv⟩:=p;obtain⟨⟨uw,ut⟩,uv⟩:=u;simp only[qcf]at f0 f1 gu hpk huk hpkl hl5 hs5 hl6 hga;have hwa:IntKind.i64.wrap ((a:Int)+1)=((a+1:Nat):Int):=by rw[wrap_i64 (by omega) (by omega)];omega
     refine QJ ?_;change Awp _ _ _ _ _ _ _;refine Qp ?_;refine QL ?_;refine awp_rseq [1,6,7,8,9,18,19,20,53,54,55] (by rfl) fun K hK=>?_;simp+decide only[qh,qi,qj,qo,ev,qZ,qY,putD,Vz,VA,VB,Ka,VC,VD,Kb,and_true,↓qW,qU,↓QV,QM,Ql Tryd.underlying45 qbn,↓Qu,Xy ag44 qbn,qM,ne_eq,not_false_eq_true,qO w0 eb_5q3,qO w0 eb_6q4,ne_6q4_5q3,ne_6q4_5q3.symm,qN,qJ,VE,setAt,VF,Kj,qC,VG,Kn,Jp,Nat.reduceAdd,qF,qG,qI,qf,qK,qa,qz,qd,qE,qc,qA,qg,qH,qy,allLive,J4,tokV,nL,nW,hlv,hlw,hpp,f0,f1,hl5,hl1,VO,VX,K6];repeat (with_reducible refine And.intro ?_ ?_;· first|trivial|omega|(intro hg;simp only[Ky,JH,Jh,VH,VI,VJ,decide_eq_true_eq,decide_eq_false_iff_not,qR]at hg;omega))
     refine XL qrc (cs:=[.str [], .nilSlice]) (by rfl) fun k11q3 hk11q3=>?_;have hn_11q3:H2 k11q3=none:=by first|assumption|(simp only[V7]at hk11q3;simp only[hk11q3])
     have hf_11q3:h k11q3=none:=Bh hs_H2 hn_11q3;have ne_11q3_5q3:k11q3≠k5q3:=BG hn_11q3 eb_5q3;have ne_11q3_6q4:k11q3≠k6q4:=BG hn_11q3 eb_6q4;simp+decide only[qh,qi,qj,qo,ev,qZ,qY,putD,Vz,VA,VB,Ka,VC,VD,Kb,and_true,↓qV,qP,qM,ne_eq,not_false_eq_true,ne_11q3_5q3,ne_11q3_5q3.symm,ne_11q3_6q4,ne_11q3_6q4.symm,qO w0 eb_5q3,qO w0 eb_6q4,ne_6q4_5q3,ne_6q4_5q3.symm,qN,qJ,VE,setAt,VF,Kj,qC,VG,Kn,Jp,Nat.reduceAdd,qF,qG,qI,qf,qK,qa,qz,qd,qE,qc,qA,qg,qH,qy,allLive,J4,tokV,nL,nW,hlv,hlw,hpp,f0,f1,hl5,hl1,VO,VX,K6];repeat (with_reducible refine And.intro ?_ ?_;· first|trivial|omega|(intro hg;simp only[Ky,JH,Jh,VH,VI,VJ,decide_eq_true_eq,decide_eq_false_iff_not,qR]at hg;omega))
     refine QR (by rfl) (by rfl) zqA qbn (by rfl) (by rfl) zqD (Jq _) (by first|rfl|(simp+decide only[ev,putD,Vz,VA,Ka,VE,XR,J4,VO,hs1,hs2,hs3,hs4,hs5,hs6,hs7,hs8,qaa,UZ,WH])) ?_;simp only[Bi,setAt,VE,VF,Kj,Jp,Nat.reduceAdd];simp+decide only[qh,qi,qj,qo,ev,qZ,qY,putD,Vz,VA,VB,Ka,VC,VD,Kb,and_true,qM,ne_eq,not_false_eq_true,ne_11q3_5q3,ne_11q3_5q3.symm,ne_11q3_6q4,ne_11q3_6q4.symm,qO w0 eb_5q3,qO w0 eb_6q4,ne_6q4_5q3,ne_6q4_5q3.symm,qN,qJ,VE,setAt,VF,Kj,qC,VG,Kn,Jp,Nat.reduceAdd,qF,qG,qI,qf,qK,qa,qz,qd,qE,qc,qA,qg,qH,qy,allLive,J4,tokV,nL,nW,hlv,hlw,hpp,f0,f1,hl5,hl1,VO,VX,K6];repeat (with_reducible refine And.intro ?_ ?_;· first|trivial|omega|(intro hg;simp only[Ky,JH,Jh,VH,VI,VJ,decide_eq_true_eq,decide_eq_false_iff_not,qR]at hg;omega))
     apply hK;clear hK K;refine qgj [1,6,7,18,19,20,53,54,55,80] mixed (by kernel_rfl) (by rfl) fun K hK=>?_;simp+decide only[qh,qi,qj,qo,ev,qZ,qY,putD,Vz,VA,VB,Ka,VC,VD,Kb,and_true,↓Yr,Qd,qkB,↓qds,Yg,Qi ag9,UJ,Qi qfv,↓qkb,qU,↓qfw,Ql Tryd.underlying45 qbn,ZH,↓qlb,Qa,Qz,cond_false,XC,qaB,↓qfz,vgP,qhP,gv,QB,QD,QC,Qs,Qg,Qe,Zk,implies_true,VK,decide_true,decide_false,VL,VM,Qc,Qb,forall_const,false_implies,Qk,Qf,J4,VN,VO,VP,VQ,VS,VT,VU,qcJ,XN,XO,Xb,Xc,Xa,↓qoi,ZP,ZO,ZN,ZM,ZL,ZK,Qi qbR,ZI,ZJ,↓qoh,↓qfy,Uv,Uu,Ut,Us,Ur,Uo,Uj,Ui,Un,Um,Ul,Uk,YL,YK,YN,YM,qM,ne_eq,not_false_eq_true,ne_11q3_5q3,ne_11q3_5q3.symm,ne_11q3_6q4,ne_11q3_6q4.symm,qO w0 eb_5q3,qO w0 eb_6q4,ne_6q4_5q3,ne_6q4_5q3.symm,qN,qJ,VE,setAt,VF,Kj,qC,VG,Kn,Jp,Nat.reduceAdd,qF,qG,qI,qf,qK,qa,qz,qd,qE,qc,qA,qg,qH,qy,allLive,J4,tokV,nL,nW,hlv,hlw,hup,(gu k11q3 _ hk11q3).1,(gu k11q3 _ hk11q3).2,hl5,hl6,hl3,hl4,VO,VX,K6];repeat (with_reducible refine And.intro ?_ ?_;· first|trivial|omega|(intro hg;simp only[Ky,JH,Jh,VH,VI,VJ,decide_eq_true_eq,decide_eq_false_iff_not,qR]at hg;omega))
     refine qfh (V:= .bool (YR pt ut)) (f:=_) (cap:=_) (xs:=_) (by first|rfl|(simp+decide only[gv,QB,VA,Ka,QC,QD])) (fun hg=>⟨rfl,?_⟩) (fun hg=>qiE w0 _ pv uv pt ut (hpk.mono zqB) (huk.mono zqB) hpkl) ?_
     ·try simp+decide only[gv,QB,putD,Vz,VA,Ka,Qg,Qe,Qs,VK]at hg
      simp+decide only[evs,ev,putD,Vz,VA,Ka,hg,Qc,JE,Ke,Vh,qZ,qY]
     simp+decide only[qh,qi,qj,qo,ev,qZ,qY,putD,Vz,VA,VB,Ka,VC,VD,Kb,and_true,gv,QB,Qg,Qe,Qs,↓qta,YB,vgP,qhP,QD,QC,Zk,implies_true,VK,decide_true,decide_false,VL,VM,Qc,Qb,forall_const,false_implies,Qk,Qf,J4,VN,VO,VP,VQ,VS,VT,VU,UD,qei,qek,Xb,Xc,Xa,↓qog,Xj,QO,QH,QG,QA,Xo,Xn,Xm,Xl,QZ,Xk,qM,ne_eq,not_false_eq_true,ne_11q3_5q3,ne_11q3_5q3.symm,ne_11q3_6q4,ne_11q3_6q4.symm,qO w0 eb_5q3,qO w0 eb_6q4,ne_6q4_5q3,ne_6q4_5q3.symm,qN,qJ,VE,setAt,VF,Kj,qC,VG,Kn,Jp,Nat.reduceAdd,qF,qG,qI,qf,qK,qa,qz,qd,qE,qc,qA,qg,qH,qy,allLive,J4,tokV,nL,nW,hlv,hlw,hup,(gu k11q3 _ hk11q3).1,(gu k11q3 _ hk11q3).2,hl5,hl6,hl3,hl4,VO,VX,K6];try simp(disch:=omega)only[wrap_i64,wrap_u8]
     repeat (with_reducible refine And.intro ?_ ?_;· first|trivial|omega|(intro hg;simp only[Ky,JH,Jh,VH,VI,VJ,decide_eq_true_eq,decide_eq_false_iff_not,qR]at hg;omega))
     apply hK;clear hK K;refine Qw (b:=_) rfl (fun hb5=>?_) (fun hb5=>?_)
     ·try simp only[decide_eq_true_eq,decide_eq_false_iff_not,Jh,VJ,Ky,VH,JH,VI,VV,VW,reduceCtorEq]at hb5
      refine awp_rseq [4] (by rfl) fun K hK=>?_;simp+decide only[qh,qi,qj,qo,ev,qZ,qY,putD,Vz,VA,VB,Ka,VC,VD,Kb,and_true,↓qV,qP,qM,ne_eq,not_false_eq_true,ne_11q3_5q3,ne_11q3_5q3.symm,ne_11q3_6q4,ne_11q3_6q4.symm,qO w0 eb_5q3,qO w0 eb_6q4,ne_6q4_5q3,ne_6q4_5q3.symm,qN,qJ,VE,setAt,VF,Kj,qC,VG,Kn,Jp,Nat.reduceAdd,qF,qG,qI,qf,qK,qa,qz,qd,qE,qc,qA,qg,qH,qy,allLive,J4,tokV,nL,nW,hlv,hlw];repeat (with_reducible refine And.intro ?_ ?_;· first|trivial|omega|(intro hg;simp only[Ky,JH,Jh,VH,VI,VJ,decide_eq_true_eq,decide_eq_false_iff_not,qR]at hg;omega))
      apply hK;clear hK K;refine Xd ?_;try simp only[QF,Qn]
      refine Xu (Qr (Qv)) ?_;simp+decide only[qh,qi,qj,qo,ev,qZ,qY,putD,Vz,VA,VB,Ka,VC,VD,Kb,and_true,QU,qM,ne_eq,not_false_eq_true,ne_11q3_5q3,ne_11q3_5q3.symm,ne_11q3_6q4,ne_11q3_6q4.symm,qO w0 eb_5q3,qO w0 eb_6q4,ne_6q4_5q3,ne_6q4_5q3.symm,qN,qJ,VE,setAt,VF,Kj,qC,VG,Kn,Jp,Nat.reduceAdd,qF,qG,qI,qf,qK,qa,qz,qd,qE,qc,qA,qg,qH,qy,allLive,J4,tokV,nL,nW,hlv,hlw];refine⟨h,zqB,?_,Vg _⟩;rw[hga];by_cases y1:pw=uw
      ·have y2:YR pt ut=false:=by simpa[y1]using hb5
       rw[y2,VN,VP,VP,VP]
      ·rw[decide_eq_false y1,VP,VP,VP,VP]
     ·try simp only[decide_eq_true_eq,decide_eq_false_iff_not,Jh,VJ,Ky,VH,JH,VI,VV,VW,reduceCtorEq]at hb5
      obtain⟨y1,y2⟩:pw=uw/\YR pt ut=true:=by
       refine⟨Classical.byContradiction fun z=>by simp[z]at hb5,?_⟩;cases z:YR pt ut with
       |true=>rfl
       |false=>simp[z]at hb5
      rw[decide_eq_true y1,y2,VO,VO]at hga;refine QJ ?_;change Awp _ _ _ _ _ _ _;refine XZ [1,6,7,18,19,20,53,54,55] (by rfl) ?_;simp+decide only[qh,qi,qj,qo,ev,qZ,qY,putD,Vz,VA,VB,Ka,VC,VD,Kb,and_true,↓Qj,Qa,Qm,cond_false,Qh,XM,↓qW,qU,qM,ne_eq,not_false_eq_true,ne_11q3_5q3,ne_11q3_5q3.symm,ne_11q3_6q4,ne_11q3_6q4.symm,qO w0 eb_5q3,qO w0 eb_6q4,ne_6q4_5q3,ne_6q4_5q3.symm,qN,qJ,VE,setAt,VF,Kj,qC,VG,Kn,Jp,Nat.reduceAdd,qF,qG,qI,qf,qK,qa,qz,qd,qE,qc,qA,qg,qH,qy,allLive,J4,tokV,nL,nW,hlv,hlw,hwa];try simp(disch:=omega)only[wrap_i64,wrap_u8]
      repeat (with_reducible refine And.intro ?_ ?_;· first|trivial|omega|(intro hg;simp only[Ky,JH,Jh,VH,VI,VJ,decide_eq_true_eq,decide_eq_false_iff_not,qR]at hg;omega))
      try simp only[QK,Qt]
      exact⟨⟨a+1,_⟩,by first|rfl|(rw[hpe,hwe,hpp];rfl),Vg _,⟨zqB,zqA,zqA,ha1,hga⟩,by simp only;omega⟩
    ·try simp only[decide_eq_true_eq,decide_eq_false_iff_not,Jh,VJ,Ky,VH,JH,VI,VV,VW,reduceCtorEq]at hb4
     have haq:a=pl.length:=by omega
     rw[haq,J8,Bl (by omega)]at hga;have hgB:R=(rowE (qfC m) ((ql.drop 0).map (·.1)) ((tl.drop 0).map (·.1)) && X):=hga;refine XJ ?_;change Awp _ _ _ _ _ _ _;refine awp_rseq [1,7,18,19,20,83,84,85] (by rfl) fun K hK=>?_;simp+decide only[qh,qi,qj,qo,ev,qZ,qY,putD,Vz,VA,VB,Ka,VC,VD,Kb,and_true,↓Qo,Qd,WG,↓Qu,QM,Qi qdL,↓XG,Xh,QE Tryd.underlying46,QT Tryd.underlying46,↓qW,qU,qM,ne_eq,not_false_eq_true,qO w0 eb_5q3,qO w0 eb_6q4,ne_6q4_5q3,ne_6q4_5q3.symm,qN,qJ,VE,setAt,VF,Kj,qC,VG,Kn,Jp,Nat.reduceAdd,qF,qG,qI,qf,qK,qa,qz,qd,qE,qc,qA,qg,qH,qy,allLive,J4,tokV,nL,nW,hlv,hlw,nb,hl1,hl2];repeat (with_reducible refine And.intro ?_ ?_;· first|trivial|omega|(intro hg;simp only[Ky,JH,Jh,VH,VI,VJ,decide_eq_true_eq,decide_eq_false_iff_not,qR]at hg;omega))
     apply hK;clear hK K;refine QL ?_;refine XI [1,7,18,19,20,83,84,85] (fun g:SaG=>[(1,w),(7, .ptr (.own k6q4) 0),(18,v),(19, .int .i64 qs.length),(20, .int .i64 j),(83,qb),(84, .int .i64 ql.length),(85, .int .i64 g.j)]) (fun g:SaG=>g.H) (fun g:SaG=>Sub h g.H/\g.H k6q4=some ⟨[.str tv, .int .i64 tln, .int .i64 tcl,tp,tb],0⟩/\g.j<=ql.length/\R=(rowE (qfC m) ((ql.drop g.j).map (·.1)) ((tl.drop g.j).map (·.1)) && X)) (fun g:SaG=>ql.length-g.j) ⟨0,_⟩ (by first|rfl|(rw[hpe,hwe];rfl)) (Vg _) ⟨zqB,zqA,Jq _,hgB⟩ ?_;rintro⟨a,H3⟩ ⟨hs_H3,eb_6q4,ha,hga⟩;simp only at hs_H3 eb_6q4 ha hga|-
     refine awp_rseq [1,7,18,19,20,83,84,85,86] (by rfl) fun K hK=>?_;simp+decide only[qh,qi,qj,qo,ev,qZ,qY,putD,Vz,VA,VB,Ka,VC,VD,Kb,and_true,↓Qj,Qa,Qz,cond_false,Qh,Zo,qM,ne_eq,not_false_eq_true,qO w0 eb_6q4,qN,qJ,VE,setAt,VF,Kj,qC,VG,Kn,Jp,Nat.reduceAdd,qF,qG,qI,qf,qK,qa,qz,qd,qE,qc,qA,qg,qH,qy,allLive,J4,tokV,nL,nW,hlv,hlw];repeat (with_reducible refine And.intro ?_ ?_;· first|trivial|omega|(intro hg;simp only[Ky,JH,Jh,VH,VI,VJ,decide_eq_true_eq,decide_eq_false_iff_not,qR]at hg;omega))
     apply hK;clear hK K;refine Qp (Qw (b:=_) rfl (fun hb6=>?_) (fun hb6=>?_))
     ·try simp only[decide_eq_true_eq,decide_eq_false_iff_not,Jh,VJ,Ky,VH,JH,VI,VV,VW,reduceCtorEq]at hb6
      have ha1:a<ql.length:=by omega
      have ha2:a<tl.length:=by omega
      obtain⟨p,hpj⟩:∃p,p=ql.getD a qdc:=⟨_,rfl⟩
      obtain⟨u,huj⟩:∃u,u=tl.getD a qdc:=⟨_,rfl⟩
      have hpm:p∈ql:=by rw[hpj,Ko,JB ha1];exact Vr ha1
      have hum:u∈tl:=by rw[huj,Ko,JB ha2];exact Vr ha2
      obtain⟨lp,op,cp,hpp⟩:=qbO hqb (by omega);obtain⟨lu,ou,cu,hup⟩:=qbO htb (by omega);have hp2:=hqb.mono hs_H3;rw[hpp]at hp2;obtain⟨f0,f1,f2⟩:=qer hp2 ha1;rw[<-hpj]at f0 f1 f2;have gu:∀(k:Nat) (X:Blk),H3 k=none->rd w0 (H3.set k X) lu (ou+a*3)= .str u.1.1/\rd w0 (H3.set k X) lu (ou+a*3+1)=u.2.1/\rd w0 (H3.set k X) lu (ou+a*3+2)=u.2.2:=fun k X hk=>by
       have ht2:=htb.mono (hs_H3.trans (V8 (b:=X) hk));rw[hup]at ht2;rw[huj];exact qer ht2 ha2
      obtain⟨hpk,hps⟩:=hqq p hpm;obtain⟨huk,hus⟩:=htq u hum;obtain⟨hpkl,hpsm⟩:=hbb p.1 (by rw[hql];exact Ec (f:=(·.1)) hpm);obtain⟨hukl,husm⟩:=hbbT u.1 (by rw[htl];exact Ec (f:=(·.1)) hum);have hst2:=qgy (f:=qfC m) (d:=qdc) (e:=qdc) ha1 ha2;rw[<-hpj,<-huj]at hst2;rw[hst2]at hga;have hl5:=hpk.live;have hs5:=hpk.scal;have hl6:=huk.live;have hs6:=huk.scal;obtain⟨hl7,hs7,-⟩:=hps.shape;obtain⟨hl8,hs8,-⟩:=hus.shape;obtain⟨⟨pw,pt,pL⟩,pv,pLv⟩:=p;obtain⟨⟨uw,ut,uL⟩,uv,uLv⟩:=u;simp only[qfC]at f0 f1 f2 gu hpk huk hps hus hpkl hpsm husm hl5 hs5 hl6 hs6 hl7 hs7 hl8 hs8 hga;have hwa:IntKind.i64.wrap ((a:Int)+1)=((a+1:Nat):Int):=by rw[wrap_i64 (by omega) (by omega)];omega
      refine QJ ?_;change Awp _ _ _ _ _ _ _;refine Qp ?_;refine QL ?_;refine awp_rseq [1,7,10,11,18,19,20,83,84,85] (by rfl) fun K hK=>?_;simp+decide only[qh,qi,qj,qo,ev,qZ,qY,putD,Vz,VA,VB,Ka,VC,VD,Kb,and_true,↓qW,qU,↓QV,QM,Ql Tryd.underlying46 UW,↓Qu,Xy qmp UW,qM,ne_eq,not_false_eq_true,qO w0 eb_6q4,qN,qJ,VE,setAt,VF,Kj,qC,VG,Kn,Jp,Nat.reduceAdd,qF,qG,qI,qf,qK,qa,qz,qd,qE,qc,qA,qg,qH,qy,allLive,J4,tokV,nL,nW,hlv,hlw,hpp,f0,f1,f2,hl5,hl7,hl2,VO,VX,K6];repeat (with_reducible refine And.intro ?_ ?_;· first|trivial|omega|(intro hg;simp only[Ky,JH,Jh,VH,VI,VJ,decide_eq_true_eq,decide_eq_false_iff_not,qR]at hg;omega))
      refine XL qjZ (cs:=[.str [], .nilSlice, .nilSlice]) (by rfl) fun k17q3 hk17q3=>?_;have hn_17q3:H3 k17q3=none:=by first|assumption|(simp only[V7]at hk17q3;simp only[hk17q3])
      have hf_17q3:h k17q3=none:=Bh hs_H3 hn_17q3;have ne_17q3_6q4:k17q3≠k6q4:=BG hn_17q3 eb_6q4;simp+decide only[qh,qi,qj,qo,ev,qZ,qY,putD,Vz,VA,VB,Ka,VC,VD,Kb,and_true,↓qV,qP,qM,ne_eq,not_false_eq_true,ne_17q3_6q4,ne_17q3_6q4.symm,qO w0 eb_6q4,qN,qJ,VE,setAt,VF,Kj,qC,VG,Kn,Jp,Nat.reduceAdd,qF,qG,qI,qf,qK,qa,qz,qd,qE,qc,qA,qg,qH,qy,allLive,J4,tokV,nL,nW,hlv,hlw,hpp,f0,f1,f2,hl5,hl7,hl2,VO,VX,K6];repeat (with_reducible refine And.intro ?_ ?_;· first|trivial|omega|(intro hg;simp only[Ky,JH,Jh,VH,VI,VJ,decide_eq_true_eq,decide_eq_false_iff_not,qR]at hg;omega))
      refine QR (by rfl) (by rfl) zqA UW (by rfl) (by rfl) zqD (Jq _) (by first|rfl|(simp+decide only[ev,putD,Vz,VA,Ka,VE,XR,J4,VO,hs1,hs2,hs3,hs4,hs5,hs6,hs7,hs8,qaa,UZ,WH])) ?_;simp only[Bi,setAt,VE,VF,Kj,Jp,Nat.reduceAdd];simp+decide only[qh,qi,qj,qo,ev,qZ,qY,putD,Vz,VA,VB,Ka,VC,VD,Kb,and_true,qM,ne_eq,not_false_eq_true,ne_17q3_6q4,ne_17q3_6q4.symm,qO w0 eb_6q4,qN,qJ,VE,setAt,VF,Kj,qC,VG,Kn,Jp,Nat.reduceAdd,qF,qG,qI,qf,qK,qa,qz,qd,qE,qc,qA,qg,qH,qy,allLive,J4,tokV,nL,nW,hlv,hlw,hpp,f0,f1,f2,hl5,hl7,hl2,VO,VX,K6];repeat (with_reducible refine And.intro ?_ ?_;· first|trivial|omega|(intro hg;simp only[Ky,JH,Jh,VH,VI,VJ,decide_eq_true_eq,decide_eq_false_iff_not,qR]at hg;omega))
      apply hK;clear hK K;refine awp_rseq [1,7,11,12,18,19,20,83,84,85] (by rfl) fun K hK=>?_;simp+decide only[qh,qi,qj,qo,ev,qZ,qY,putD,Vz,VA,VB,Ka,VC,VD,Kb,and_true,↓Qo,Qd,WG,↓Qu,QM,Qi qdL,↓qW,qU,↓QV,Ql Tryd.underlying46 UW,Xy qmp UW,qM,ne_eq,not_false_eq_true,ne_17q3_6q4,ne_17q3_6q4.symm,qO w0 eb_6q4,qN,qJ,VE,setAt,VF,Kj,qC,VG,Kn,Jp,Nat.reduceAdd,qF,qG,qI,qf,qK,qa,qz,qd,qE,qc,qA,qg,qH,qy,allLive,J4,tokV,nL,nW,hlv,hlw,hup,(gu k17q3 _ hk17q3).1,(gu k17q3 _ hk17q3).2.1,(gu k17q3 _ hk17q3).2.2,hl6,hl8,hl3,hl4,VO,VX,K6];repeat (with_reducible refine And.intro ?_ ?_;· first|trivial|omega|(intro hg;simp only[Ky,JH,Jh,VH,VI,VJ,decide_eq_true_eq,decide_eq_false_iff_not,qR]at hg;omega))
      refine XL qjZ (cs:=[.str [], .nilSlice, .nilSlice]) (by rfl) fun k18q5 hk18q5=>?_;have ne_18q5_17q3:k18q5≠k17q3:=by simp only[V7]at hk18q5;simp only[hk18q5,ne_eq,not_false_eq_true]
      have hn_18q5:H3 k18q5=none:=by first|assumption|(simp only[V7]at hk18q5;simp only[hk18q5])
      have hf_18q5:h k18q5=none:=Bh hs_H3 hn_18q5;have ne_18q5_6q4:k18q5≠k6q4:=BG hn_18q5 eb_6q4;refine QR (by rfl) (by rfl) zqA UW (by rfl) (by rfl) zqD (Jq _) (by first|rfl|(simp+decide only[ev,putD,Vz,VA,Ka,VE,XR,J4,VO,hs1,hs2,hs3,hs4,hs5,hs6,hs7,hs8,qaa,UZ,WH])) ?_;simp only[Bi,setAt,VE,VF,Kj,Jp,Nat.reduceAdd];simp+decide only[qh,qi,qj,qo,ev,qZ,qY,putD,Vz,VA,VB,Ka,VC,VD,Kb,and_true,qM,ne_eq,not_false_eq_true,ne_17q3_6q4,ne_17q3_6q4.symm,ne_18q5_17q3,ne_18q5_17q3.symm,ne_18q5_6q4,ne_18q5_6q4.symm,qO w0 eb_6q4,qN,qJ,VE,setAt,VF,Kj,qC,VG,Kn,Jp,Nat.reduceAdd,qF,qG,qI,qf,qK,qa,qz,qd,qE,qc,qA,qg,qH,qy,allLive,J4,tokV,nL,nW,hlv,hlw,hup,(gu k17q3 _ hk17q3).1,(gu k17q3 _ hk17q3).2.1,(gu k17q3 _ hk17q3).2.2,hl6,hl8,hl3,hl4,VO,VX,K6];repeat (with_reducible refine And.intro ?_ ?_;· first|trivial|omega|(intro hg;simp only[Ky,JH,Jh,VH,VI,VJ,decide_eq_true_eq,decide_eq_false_iff_not,qR]at hg;omega))
      apply hK;clear hK K;have hss:=fun X Y=>ih ((H3.set k17q3 X).set k18q5 Y) pLv uLv pL uL (hps.mono zqB) (hus.mono zqB) hpsm husm;have y0:(pw=uw/\YR pt ut=true)\/(pw=uw/\YR pt ut=false)\/((¬pw=uw)/\∀z:Bool,(z && true)=z):=by
       by_cases y1:pw=uw
       ·cases y2:YR pt ut with
        |true=>exact .inl ⟨y1,rfl⟩
        |false=>exact .inr (.inl ⟨y1,rfl⟩)
       ·exact .inr (.inr ⟨y1,J4⟩)
      rcases y0 with⟨y1,y2⟩|⟨y1,y2⟩|⟨y1,y2⟩
      all_goals
       refine awp_rseq [1,7,18,19,20,83,84,85,115] (by rfl) fun K hK=>?_;simp+decide only[qh,qi,qj,qo,ev,qZ,qY,putD,Vz,VA,VB,Ka,VC,VD,Kb,and_true,↓Qo,Qd,qgP,↓Qu,QM,Qi ag9,↓Qj,Qa,Qz,cond_false,XC,qaB,↓qW,qU,↓XW,agP,Xw,gv,QB,QD,QC,Qs,Qg,Qe,Zk,implies_true,VK,decide_true,decide_false,VL,VM,Qc,Qb,forall_const,false_implies,Qk,Qf,J4,VN,VO,VP,VQ,VS,VT,VU,qdF,XN,XO,Xb,Xc,Xa,↓ZG,Zt,Wn,ZP,ZO,ZN,ZM,ZL,ZK,Qi qbR,ZI,ZJ,qM,ne_eq,not_false_eq_true,ne_17q3_6q4,ne_17q3_6q4.symm,ne_18q5_17q3,ne_18q5_17q3.symm,ne_18q5_6q4,ne_18q5_6q4.symm,qO w0 eb_6q4,qN,qJ,VE,setAt,VF,Kj,qC,VG,Kn,Jp,Nat.reduceAdd,qF,qG,qI,qf,qK,qa,qz,qd,qE,qc,qA,qg,qH,qy,allLive,J4,tokV,nL,nW,hlv,hlw,y1,y2,hl5,hl6,hl7,hl8];repeat (with_reducible refine And.intro ?_ ?_;· first|trivial|omega|(intro hg;simp only[Ky,JH,Jh,VH,VI,VJ,decide_eq_true_eq,decide_eq_false_iff_not,qR]at hg;omega))
       first
       |(refine Zf (by rfl) ?_;refine XD (V:= .bool (YR pt ut)) (by rfl) (by rfl) (qiE w0 _ pv uv pt ut (hpk.mono zqB) (huk.mono zqB) hpkl) ?_)
       |(refine WI (by rfl) (by rfl) ?_)
       |(refine Wo (V:= .bool (YR pt ut)) (f:=_) (cap:=_) (xs:=_) (by first|rfl|(simp+decide only[gv,QB,VA,Ka,QC,QD])) (fun hg=>⟨rfl,?_⟩) (fun hg=>qiE w0 _ pv uv pt ut (hpk.mono zqB) (huk.mono zqB) hpkl) ?_;· (simp+decide only[gv,QB,putD,Vz,VA,Ka,Qg,Qe,Qs,VK]at hg;simp+decide only[evs,ev,putD,Vz,VA,Ka,hg,Qc,JE,Ke,Vh,qZ,qY]<;>try rfl))
       simp+decide only[qh,qi,qj,qo,ev,qZ,qY,putD,Vz,VA,VB,Ka,VC,VD,Kb,and_true,gv,QB,Qg,Qe,Qs,↓qbP,YB,agP,Xw,QD,QC,Zk,implies_true,VK,decide_true,decide_false,VL,VM,Qc,Qb,forall_const,false_implies,Qk,Qf,J4,VN,VO,VP,VQ,VS,VT,VU,UD,qei,qek,Xb,Xc,Xa,↓XH,Xj,QO,QH,QG,QA,Xo,Xn,Xm,Xl,QZ,Xk,↓qW,qU,↓XW,Qd,qdE,XN,XO,↓ZG,QM,Zt,Wn,ZP,ZO,ZN,ZM,ZL,ZK,Qi qhb,ZI,ZJ,qM,ne_eq,not_false_eq_true,ne_17q3_6q4,ne_17q3_6q4.symm,ne_18q5_17q3,ne_18q5_17q3.symm,ne_18q5_6q4,ne_18q5_6q4.symm,qO w0 eb_6q4,qN,qJ,VE,setAt,VF,Kj,qC,VG,Kn,Jp,Nat.reduceAdd,qF,qG,qI,qf,qK,qa,qz,qd,qE,qc,qA,qg,qH,qy,allLive,J4,tokV,nL,nW,hlv,hlw,y1,y2,hl5,hl6,hl7,hl8];try simp(disch:=omega)only[wrap_i64,wrap_u8]
       repeat (with_reducible refine And.intro ?_ ?_;· first|trivial|omega|(intro hg;simp only[Ky,JH,Jh,VH,VI,VJ,decide_eq_true_eq,decide_eq_false_iff_not,qR]at hg;omega))
       first
       |(refine WI (by rfl) (by rfl) ?_)
       |(refine Zf (by rfl) ?_
         refine QN (by rfl) (by rfl) (hss _ _) fun x19q18 h19q18 hx19q18=>?_;obtain⟨rfl,hs19⟩:=hx19q18;have hs19':Sub h h19q18:=Bq zqB hs19;have eb19:h19q18 k6q4=some ⟨[.str tv, .int .i64 tln, .int .i64 tcl,tp,tb],0⟩:=hs19 _ _ zqA)
       simp+decide only[qh,qi,qj,qo,ev,qZ,qY,putD,Vz,VA,VB,Ka,VC,VD,Kb,and_true,gv,QB,Qg,Qe,Qs,↓qbP,YB,agP,Xw,QD,QC,Zk,implies_true,VK,decide_true,decide_false,VL,VM,Qc,Qb,forall_const,false_implies,Qk,Qf,J4,VN,VO,VP,VQ,VS,VT,VU,UD,qei,qek,Xb,Xc,Xa,↓XH,Xj,QO,QH,QG,QA,Xo,Xn,Xm,Xl,QZ,Xk,qM,ne_eq,not_false_eq_true,ne_17q3_6q4,ne_17q3_6q4.symm,ne_18q5_17q3,ne_18q5_17q3.symm,ne_18q5_6q4,ne_18q5_6q4.symm,qO w0 eb_6q4,qN,qJ,VE,setAt,VF,Kj,qC,VG,Kn,Jp,Nat.reduceAdd,qF,qG,qI,qf,qK,qa,qz,qd,qE,qc,qA,qg,qH,qy,allLive,J4,tokV,nL,nW,hlv,hlw,y1,y2,hl5,hl6,hl7,hl8];try simp(disch:=omega)only[wrap_i64,wrap_u8]
       repeat (with_reducible refine And.intro ?_ ?_;· first|trivial|omega|(intro hg;simp only[Ky,JH,Jh,VH,VI,VJ,decide_eq_true_eq,decide_eq_false_iff_not,qR]at hg;omega))
       apply hK;clear hK K;refine Qw (b:=_) rfl (fun hb7=>?_) (fun hb7=>?_)
       ·try simp only[decide_eq_true_eq,decide_eq_false_iff_not,Jh,VJ,Ky,VH,JH,VI,VV,VW,reduceCtorEq]at hb7
        refine awp_rseq [4] (by rfl) fun K hK=>?_;simp+decide only[qh,qi,qj,qo,ev,qZ,qY,putD,Vz,VA,VB,Ka,VC,VD,Kb,and_true,↓qV,qP,qM,ne_eq,not_false_eq_true,ne_17q3_6q4,ne_17q3_6q4.symm,ne_18q5_17q3,ne_18q5_17q3.symm,ne_18q5_6q4,ne_18q5_6q4.symm,qO w0 eb_6q4,qN,qJ,VE,setAt,VF,Kj,qC,VG,Kn,Jp,Nat.reduceAdd,qF,qG,qI,qf,qK,qa,qz,qd,qE,qc,qA,qg,qH,qy,allLive,J4,tokV,nL,nW,hlv,hlw];repeat (with_reducible refine And.intro ?_ ?_;· first|trivial|omega|(intro hg;simp only[Ky,JH,Jh,VH,VI,VJ,decide_eq_true_eq,decide_eq_false_iff_not,qR]at hg;omega))
        apply hK;clear hK K;refine Xd ?_;try simp only[QF,Qn]
        refine Xu (Qr (Qv)) ?_;simp+decide only[qh,qi,qj,qo,ev,qZ,qY,putD,Vz,VA,VB,Ka,VC,VD,Kb,and_true,QU,qM,ne_eq,not_false_eq_true,ne_17q3_6q4,ne_17q3_6q4.symm,ne_18q5_17q3,ne_18q5_17q3.symm,ne_18q5_6q4,ne_18q5_6q4.symm,qO w0 eb_6q4,qN,qJ,VE,setAt,VF,Kj,qC,VG,Kn,Jp,Nat.reduceAdd,qF,qG,qI,qf,qK,qa,qz,qd,qE,qc,qA,qg,qH,qy,allLive,J4,tokV,nL,nW,hlv,hlw];refine⟨h,by first|exact hs19'|exact zqB,?_,Vg _⟩;congr 1;first
        |(have z:qay m pL uL=false:=by simpa using hb7
          rw[hga,y2,z];simp;done)
        |(rw[hga,y2];simp;done)
        |(rw[hga,decide_eq_false y1];simp;done)
       ·try (cases hb7;done)
        all_goals have z7:qay m pL uL=true:=by simpa using hb7
        all_goals have hgN:R=(rowE (qfC m) ((ql.drop (a+1)).map (·.1)) ((tl.drop (a+1)).map (·.1)) && X):=by rw[hga,decide_eq_true y1,y2,z7];rfl
        all_goals
         try simp only[decide_eq_true_eq,decide_eq_false_iff_not,Jh,VJ,Ky,VH,JH,VI,VV,VW,reduceCtorEq]at hb7
         refine QJ ?_;change Awp _ _ _ _ _ _ _;refine XZ [1,7,18,19,20,83,84,85] (by rfl) ?_;simp+decide only[qh,qi,qj,qo,ev,qZ,qY,putD,Vz,VA,VB,Ka,VC,VD,Kb,and_true,↓Qj,Qa,Qm,cond_false,Qh,XM,↓qW,qU,qM,ne_eq,not_false_eq_true,ne_17q3_6q4,ne_17q3_6q4.symm,ne_18q5_17q3,ne_18q5_17q3.symm,ne_18q5_6q4,ne_18q5_6q4.symm,qO w0 eb_6q4,qN,qJ,VE,setAt,VF,Kj,qC,VG,Kn,Jp,Nat.reduceAdd,qF,qG,qI,qf,qK,qa,qz,qd,qE,qc,qA,qg,qH,qy,allLive,J4,tokV,nL,nW,hlv,hlw,hwa];try simp(disch:=omega)only[wrap_i64,wrap_u8]
         repeat (with_reducible refine And.intro ?_ ?_;· first|trivial|omega|(intro hg;simp only[Ky,JH,Jh,VH,VI,VJ,decide_eq_true_eq,decide_eq_false_iff_not,qR]at hg;omega))
         try simp only[QK,Qt]
         exact⟨⟨a+1,h19q18⟩,by first|rfl|(rw[hpe,hwe,hpp];rfl),Vg _,⟨hs19',eb19,ha1,hgN⟩,by simp only;omega⟩
     ·try simp only[decide_eq_true_eq,decide_eq_false_iff_not,Jh,VJ,Ky,VH,JH,VI,VV,VW,reduceCtorEq]at hb6
      have haq:a=ql.length:=by omega
      rw[haq,J8,Bl (by omega)]at hga;have hgX:R=X:=hga;refine XJ ?_;change Awp _ _ _ _ _ _ _;refine XZ [1,18,19,20] (by rfl) ?_;simp+decide only[qh,qi,qj,qo,ev,qZ,qY,putD,Vz,VA,VB,Ka,VC,VD,Kb,and_true,↓Qj,Qa,Qm,cond_false,Qh,XM,↓qW,qU,qM,ne_eq,not_false_eq_true,qO w0 eb_6q4,qN,qJ,VE,setAt,VF,Kj,qC,VG,Kn,Jp,Nat.reduceAdd,qF,qG,qI,qf,qK,qa,qz,qd,qE,qc,qA,qg,qH,qy,allLive,J4,tokV,nL,nW,hlv,hlw,hwj];try simp(disch:=omega)only[wrap_i64,wrap_u8]
      repeat (with_reducible refine And.intro ?_ ?_;· first|trivial|omega|(intro hg;simp only[Ky,JH,Jh,VH,VI,VJ,decide_eq_true_eq,decide_eq_false_iff_not,qR]at hg;omega))
      try simp only[QK,Qt]
      exact⟨⟨j+1,H3⟩,by first|rfl|(rw[hpe,hwe];rfl),Vg _,⟨hs_H3,hj1,by rw[hgX,hX]⟩,by simp only;omega⟩
  ·try simp only[decide_eq_true_eq,decide_eq_false_iff_not,Jh,VJ,Ky,VH,JH,VI,VV,VW,reduceCtorEq]at hb2
   have hjq:j=qs.length:=by omega
   rw[hjq,J8,Bl (by omega)]at hg;refine XJ ?_;change Awp _ _ _ _ _ _ _;refine awp_rseq [4] (by rfl) fun K hK=>?_;simp+decide only[qh,qi,qj,qo,ev,qZ,qY,putD,Vz,VA,VB,Ka,VC,VD,Kb,and_true,↓qV,qP,qM,ne_eq,not_false_eq_true,qN,qJ,VE,setAt,VF,Kj,qC,VG,Kn,Jp,Nat.reduceAdd,qF,qG,qI,qf,qK,qa,qz,qd,qE,qc,qA,qg,qH,qy,allLive,J4,tokV,nL,nW,hlv,hlw];repeat (with_reducible refine And.intro ?_ ?_;· first|trivial|omega|(intro hg;simp only[Ky,JH,Jh,VH,VI,VJ,decide_eq_true_eq,decide_eq_false_iff_not,qR]at hg;omega))
   apply hK;clear hK K;refine Xd ?_;try simp only[QF,Qn]
   refine Xu (Qr (Qv)) ?_;simp+decide only[qh,qi,qj,qo,ev,qZ,qY,putD,Vz,VA,VB,Ka,VC,VD,Kb,and_true,QU,qM,ne_eq,not_false_eq_true,qN,qJ,VE,setAt,VF,Kj,qC,VG,Kn,Jp,Nat.reduceAdd,qF,qG,qI,qf,qK,qa,qz,qd,qE,qc,qA,qg,qH,qy,allLive,J4,tokV,nL,nW,hlv,hlw];refine⟨h,hs_H,?_,Vg _⟩;rw[hg];rfl
theorem qsz(w0:World):∀(m d:Nat) (h:AHeap) (v w:AVal) (a b:List StC),StsV w0 m h v a->StsV w0 d h w b->SmallS m a->SmallS d b->ACall Tryd.prog w0 36 [v,w] h (fun r h'=>r= .bool (qay m a b)/\Sub h h')
 |0,d,h,v,w,a,b,hs,hw,_,_=>by
  obtain⟨rfl,hv⟩:=qth hs;exact c_same0 w0 d h v w b hv hw
 |m+1,d,h,v,w,a,b,hs,hw,hsm,hsw=>c_sameS w0 m d h v w a b hs hw hsm hsw fun h' v w a b hs hw hsm hsw=>qsz w0 m (d-1) h' v w a b hs hw hsm hsw
theorem qnI(w0:World)(m d:Nat)(h:AHeap)(v w:AVal)(a b:List StC)(hs:StsV w0 m h v a)(hw:StsV w0 d h w b)(hsm:SmallS m a)(hsw:SmallS d b):ACall Tryd.prog w0 16 [v,w] h (fun r h'=>r= .bool (qdp m a b)/\Sub h h'):=by
 have hlv:=hs.shape.1;have hlw:=hw.shape.1;have hR:qdp m a b=(!YU 32 a && (!YU 32 b && qay m a b)):=rfl;rw[hR];refine Xf (n:=18) (rs:=[.tmp 4]) Tryd.func16 rfl rfl rfl rfl (Vy rfl) ?_;simp only[Xe];refine awp_rseq [0,1] (by rfl) fun K hK=>?_;simp+decide only[qh,qi,qj,qo,ev,qZ,qY,putD,Vz,VA,VB,Ka,VC,VD,Kb,and_true,↓qV,qP,qM,ne_eq,not_false_eq_true,qN,qJ,VE,setAt,VF,Kj,qC,VG,Kn,Jp,Nat.reduceAdd,qF,qG,qI,qf,qK,qa,qz,qd,qE,qc,qA,qg,qH,qy,allLive,J4,tokV,hlv,hlw];repeat (with_reducible refine And.intro ?_ ?_;· first|trivial|omega|(intro hg;simp only[Ky,JH,Jh,VH,VI,VJ,decide_eq_true_eq,decide_eq_false_iff_not,qR]at hg;omega))
 apply hK;clear hK K;cases z1:YU 32 a<;>cases z2:YU 32 b;all_goals
  refine awp_rseq [4] (by rfl) fun K hK=>?_;simp+decide only[qh,qi,qj,qo,ev,qZ,qY,putD,Vz,VA,VB,Ka,VC,VD,Kb,and_true,↓qW,qU,qM,ne_eq,not_false_eq_true,qN,qJ,VE,setAt,VF,Kj,qC,VG,Kn,Jp,Nat.reduceAdd,qF,qG,qI,qf,qK,qa,qz,qd,qE,qc,qA,qg,qH,qy,allLive,J4,tokV,hlv,hlw];repeat (with_reducible refine And.intro ?_ ?_;· first|trivial|omega|(intro hg;simp only[Ky,JH,Jh,VH,VI,VJ,decide_eq_true_eq,decide_eq_false_iff_not,qR]at hg;omega))
  refine QN (by rfl) (by rfl) (qiF w0 32 m _ v a (by decide) hs hsm) fun x1q1 h1q1 hx1q1=>?_;obtain⟨rfl,hs1⟩:=hx1q1;have hs_h1q1:Sub h h1q1:=Bq zqC hs1;have hr_h1q1:=hs_h1q1;simp+decide only[qh,qi,qj,qo,ev,qZ,qY,putD,Vz,VA,VB,Ka,VC,VD,Kb,and_true,↓qeS,YB,UD,↓qW,qU,↓Zj,agP,Xw,gv,QB,QD,QC,Qs,Qg,Qe,Zk,implies_true,VK,decide_true,decide_false,VL,VM,Qc,Qb,forall_const,false_implies,Qk,Qf,J4,VN,VO,VP,VQ,VS,VT,VU,Xb,Xc,Xa,qM,ne_eq,not_false_eq_true,qN,qJ,VE,setAt,VF,Kj,qC,VG,Kn,Jp,Nat.reduceAdd,qF,qG,qI,qf,qK,qa,qz,qd,qE,qc,qA,qg,qH,qy,allLive,J4,tokV,hlv,hlw,z1];try simp(disch:=omega)only[wrap_i64,wrap_u8]
  repeat (with_reducible refine And.intro ?_ ?_;· first|trivial|omega|(intro hg;simp only[Ky,JH,Jh,VH,VI,VJ,decide_eq_true_eq,decide_eq_false_iff_not,qR]at hg;omega))
  first
  |(refine WI (by rfl) (by rfl) ?_)
  |(refine Zf (by rfl) ?_
    refine QN (by rfl) (by rfl) (qiF w0 32 d _ w b (by decide) (hw.mono hs_h1q1) hsw) fun x1q5 h1q5 hx1q5=>?_;obtain⟨rfl,hs5⟩:=hx1q5;have hs5':Sub h h1q5:=hs_h1q1.trans hs5)
  simp+decide only[qh,qi,qj,qo,ev,qZ,qY,putD,Vz,VA,VB,Ka,VC,VD,Kb,and_true,gv,QB,Qg,Qe,Qs,↓qbP,YB,agP,Xw,QD,QC,Zk,implies_true,VK,decide_true,decide_false,VL,VM,Qc,Qb,forall_const,false_implies,Qk,Qf,J4,VN,VO,VP,VQ,VS,VT,VU,UD,qei,qek,Xb,Xc,Xa,↓XH,Xj,QO,QH,QG,QA,Xo,Xn,Xm,Xl,QZ,Xk,↓qW,qU,↓Zj,qM,ne_eq,not_false_eq_true,qN,qJ,VE,setAt,VF,Kj,qC,VG,Kn,Jp,Nat.reduceAdd,qF,qG,qI,qf,qK,qa,qz,qd,qE,qc,qA,qg,qH,qy,allLive,J4,tokV,hlv,hlw,z1,z1,z2];try simp(disch:=omega)only[wrap_i64,wrap_u8]
  repeat (with_reducible refine And.intro ?_ ?_;· first|trivial|omega|(intro hg;simp only[Ky,JH,Jh,VH,VI,VJ,decide_eq_true_eq,decide_eq_false_iff_not,qR]at hg;omega))
  first
  |(refine WI (by rfl) (by rfl) ?_)
  |(refine Zf (by rfl) ?_
    refine QN (by rfl) (by rfl) (qsz w0 m d _ v w a b (hs.mono hs5') (hw.mono hs5') hsm hsw) fun x1q11 h1q11 hx1q11=>?_;obtain⟨rfl,hs11⟩:=hx1q11;have hs11':Sub h h1q11:=hs5'.trans hs11)
  simp+decide only[qh,qi,qj,qo,ev,qZ,qY,putD,Vz,VA,VB,Ka,VC,VD,Kb,and_true,gv,QB,Qg,Qe,Qs,↓XH,Xj,QO,QH,QG,QA,Xo,Xn,Xm,Xl,QZ,Xk,↓qV,qP,qM,ne_eq,not_false_eq_true,qN,qJ,VE,setAt,VF,Kj,qC,VG,Kn,Jp,Nat.reduceAdd,qF,qG,qI,qf,qK,qa,qz,qd,qE,qc,qA,qg,qH,qy,allLive,J4,tokV,hlv,hlw,z1,z1,z2,z1,z2];repeat (with_reducible refine And.intro ?_ ?_;· first|trivial|omega|(intro hg;simp only[Ky,JH,Jh,VH,VI,VJ,decide_eq_true_eq,decide_eq_false_iff_not,qR]at hg;omega))
  apply hK;clear hK K;refine Xd ?_;try simp only[QF,Qn]
  refine Xu (Qr (Qv)) ?_;simp+decide only[qh,qi,qj,qo,ev,qZ,qY,putD,Vz,VA,VB,Ka,VC,VD,Kb,and_true,QU,qM,ne_eq,not_false_eq_true,qN,qJ,VE,setAt,VF,Kj,qC,VG,Kn,Jp,Nat.reduceAdd,qF,qG,qI,qf,qK,qa,qz,qd,qE,qc,qA,qg,qH,qy,allLive,J4,tokV,hlv,hlw];refine⟨h,by assumption,?_,Vg _⟩;first|rfl|(simp[z1,z2];done)
end Go.Proofs.YtgiadjbiimkbiaaDoor
