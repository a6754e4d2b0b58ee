/-
  Texts of this proof, joined: SrK, StG, LwR, LwS, LwK, LwX, LwI, LwM.
  Conditions: none.
-/
import Derived.Test.YtgiadjbiimkbiaaGreatDoorAd
import Derived.Test.YtgiadjbiimkbiaaGreatDoorAe
import Derived.Test.YtgiadjbiimkbiaaGreatDoorProg
import Derived.Test.YtgiadjbiimkbiaaGreatDoorAb
import Derived.WalkKit
import Derived.ProofKit
import Derived.OpenShut
import Derived.ShutString
import Derived.ChangeOld
import Derived.Below
import Derived.Deep.Strs
import Derived.Handed
import Derived.HandedShaped
import Derived.Shelf.Vars
import Derived.Test.YtgiadjbiimkbiaaGreatDoorRows
import Derived.Lib.LaidTab
import Derived.MakeChecks
set_option linter.unusedSimpArgs false
set_option linter.unnecessarySimpa false
set_option linter.unusedVariables false
open List renaming mem_singleton->VM,drop_zero->Vm,getD->Ko,getElem?_eq_getElem->JH,map_cons->Ke,map_nil->Vj,length_cons->KY,length_nil->JN,getD_cons_zero->VJ,getD_cons_succ->Kn,cons_append->Kh,nil_append->Je,length_pos_iff->Bc,length_map->Jo,length_append->Jc,map_append->Vr,mem_append->JR,getElem_mem->VA,getElem?_map->VE,mem_map->JP,getElem?_eq_none->Kr,eq_nil_of_length_eq_zero->Kg,mem_of_getElem?->JK,mem_cons_of_mem->Jg,drop_succ_cons->Vw,take_succ_cons->Ki,take_zero->V4,map_map->EF
open Go.AM.IsL renaming own->Bh
open Nat renaming le_refl->KM,le_trans->Vd,zero_add->Jq,zero_mul->K8,add_zero->K7,mul_comm->EU,add_assoc->Kw,not_lt_zero->EX,mod_eq_of_lt->EZ
open Option renaming map_some->KJ,bind_eq_some_iff->EW
open Go.AM.Slots renaming put->VG,keep->VI,get->VH
open Go.AM.Sub renaming refl->Vh,trans->Ba,set->Vi,none->VV
open Bool renaming not_false->Bd,not_true->Be,and_true->J4,and_eq_true->Ky,or_eq_true->JF,not_eq_true'->Ji,and_eq_false_iff->VO,or_eq_false_iff->VL,not_eq_false'->VK
open Go.AM.AHeap renaming set_none->VU
open Int renaming toNat_zero->Bg
open UInt8 renaming ofNat->KE,toNat_ofNat'->EY
namespace Go.Stm
open Go.Col (Str FaultC okF)
open Go.Tok
open Go.Proofs.YtgiadjbiimkbiaaGreatDoor (Short)
end Go.Stm
namespace Go.Proofs.YtgiadjbiimkbiaaGreatDoor
open Go.AM
open Go.Proofs
open Go.Col (Str FaultC okF)
open Go.Tok (TokC)
open Go.Stm
open Go.RowKit (Below)
set_option maxRecDepth 100000
theorem ph_one{wz:World}{H:AHeap}{k:Nat}{w:Str}{tv:AVal}{ts:List TokC}(hk:H k=some ⟨[.str w,tv],0⟩)(ht:IsL wz H 5 tv (ts.map Xy)):PhV wz H (.slice (.own k) 0 1 (.exact 1)) [⟨w,ts⟩]:=by
 have hl:AM.allLive [.str w,tv]=true:=by rw[AM.allLive,AM.allLive,ht.live];rfl
 refine⟨[(⟨w,ts⟩,tv)],rfl,?_,fun q hq=>by rw[VM.1 hq];exact ht⟩;exact Bh (xs:=[[AVal.str w,tv]]) hk (by simp) rfl hl (.exact 1) (KM _)
theorem bd_one{wz:World}{H:AHeap}{S:AVal->List StC->Prop}{k:Nat}{w:Str}{tv lv:AVal}{ts:List TokC}{L:List StC}(hk:H k=some ⟨[.str w,tv,lv],0⟩)(ht:IsL wz H 5 tv (ts.map Xy))(hl:S lv L)(hll:lv.live=true):BdV wz S H (.slice (.own k) 0 1 (.exact 1)) [(w,ts,L)]:=by
 have hl:AM.allLive [.str w,tv,lv]=true:=by rw[AM.allLive,AM.allLive,AM.allLive,ht.live,hll];rfl
 refine⟨[((w,ts,L),tv,lv)],rfl,?_,fun q hq=>by rw[VM.1 hq];exact⟨ht,‹S lv L›⟩⟩;exact Bh (xs:=[[AVal.str w,tv,lv]]) hk (by simp) rfl hl (.exact 1) (KM _)
theorem qpU{wz:World}{H:AHeap}{d k:Nat}{vb:Str}{ln cl:Int}{pv bv:AVal}{ps:List PhrC}{bs:List BodC}(hk:H k=some ⟨[.str vb, .int .i64 ln, .int .i64 cl,pv,bv],0⟩)(hp:PhV wz H pv ps)(hb:BdV wz (StsV wz d H) H bv bs):StsV wz (d+1) H (.slice (.own k) 0 1 (.exact 1)) [.mk vb ln cl ps bs]:=by
 have hl:AM.allLive [.str vb, .int .i64 ln, .int .i64 cl,pv,bv]=true:=by rw[AM.allLive,AM.allLive,AM.allLive,AM.allLive,AM.allLive,hp.live,hb.live];rfl
 refine⟨[(.mk vb ln cl ps bs,pv,bv)],rfl,?_,fun q hq=>by rw[VM.1 hq];exact⟨hp,hb⟩⟩;exact Bh (xs:=[[AVal.str vb, .int .i64 ln, .int .i64 cl,pv,bv]]) hk (by simp) rfl hl (.exact 1) (KM _)
theorem qjv(wz:World)(h:AHeap)(v:AVal)(l:List StC)(a:Str)(hs:StsV wz 6 h v l)(hb:BuiltOk l a):ACall Tryz.prog wz 20 [v] h (fun r h'=>IsStrs wz h' r (QG 6 l)/\Sub h h'):=
 (qhi wz 6 h v l hs hb.wf.q.small hb.wf.q.tx (Vd hb.join_len (by decide))).mono fun r h' ⟨p,a,_,b⟩=>⟨a.isL (b.in_ (i:=1) rfl),b.in_ (i:=0) rfl⟩
theorem StsV.els{wz:World}{h:AHeap}{d:Nat}{v:AVal}{l:List StC}(hs:StsV wz (d+1) h v l):∃qs:List (StC×AVal×AVal),l=qs.map (·.1)/\IsL wz h 5 v (qs.map qbj)/\∀q∈qs,PhV wz h q.2.1 q.1.phrases/\BdV wz (StsV wz d h) h q.2.2 q.1.bodies:=hs
def qfu(l:List PhrC)(w:Str)(k:Nat):Int:=match (l.drop k).findIdx? (fun p=>decide (p.words=w))with
 |some j=>((k+j:Nat):Int)
 |none=> -1
theorem qrN(l:List PhrC)(w:Str):qfu l w l.length= -1:=by unfold qfu;rw[List.drop_length];rfl
theorem qop{l:List PhrC}{w:Str}{k:Nat}{p:PhrC}(hp:l[k]?=some p):qfu l w k=if p.words=w then(k:Int)else qfu l w (k+1):=by
 obtain⟨hk,rfl⟩:=List.getElem?_eq_some_iff.1 hp;unfold qfu;rw[List.drop_eq_getElem_cons hk,List.findIdx?_cons];by_cases h:l[k].words=w
 ·rw[if_pos h,decide_eq_true h];simp
 ·rw[if_neg h,decide_eq_false h]
  cases (l.drop (k+1)).findIdx? (fun p=>decide (p.words=w))with
  |none=>rfl
  |some j=>simp only[Bool.false_eq_true,if_false,KJ];congr 1;omega
theorem qrM(l:List PhrC)(w:Str):(qdk l w=none/\qfu l w 0= -1)\/∃j,j<l.length/\qdk l w=some (l.getD j ⟨[],[]⟩).toks/\qfu l w 0=(j:Int):=by
 unfold qfu qdk;rw[Vm];cases h:l.findIdx? (fun p=>decide (p.words=w))with
 |none=>
  refine .inl ⟨?_,rfl⟩;rw[List.findIdx?_eq_none_iff]at h;rw[List.find?_eq_none.2 fun p hp=>by rw[h p hp];decide];rfl
 |some j=>
  rw[List.findIdx?_eq_some_iff_getElem]at h;obtain⟨hj,h1,h2⟩:=h;refine .inr ⟨j,hj,?_,by simp⟩;have:l.find? (fun p=>decide (p.words=w))=some l[j]:=by
   rw[List.find?_eq_some_iff_getElem];exact⟨h1,j,hj,rfl,fun i hi=>by simpa using h2 i hi⟩
  rw[this,Ko,JH hj];rfl
structure WtG where
 k:Nat
 w:Int
theorem qsA{es k:Nat}:GrowV es (.slice (.own k) 0 0 (.exact 0)) (one k ⟨[],0⟩) []:=GrowV.new (n:=0) rfl (.inl rfl) (fun x hx=>by cases hx) rfl rfl
set_option maxHeartbeats 32000000 in
theorem l_Same1(wz:World)(hm:MaxL wz)(ha:Asp wz)(h:AHeap)(vl:AVal)(l:List XC)(d1:Nat)(hX:XsV wz d1 h vl l)(hLl:LenX 140737488355328 8 l)(vm:AVal)(m:List XC)(d2:Nat)(hM:XsV wz d2 h vm m)(hLm:LenX 140737488355328 8 m)(words:Str)(hwl:words.length<=9223372036854775807):
 ACall Tryz.prog wz 5 [vl,vm, .str words] h (fun r h'=>r= .bool true/\AM.Sub h h'):=by
 have hvl:=hX.shape.1;have hvm:=hM.shape.1;refine Ql (n:=186) (rs:=[.tmp 6]) Tryz.func5 rfl rfl rfl rfl (Nat.le_of_ble_eq_true rfl) ?_;simp only[Qm];refine awp_rseq [0,1,2] (by rfl) fun K hK=>?_;simp+decide only[qa,ev,qK,qG,putD,VG,VI,Ka,Kb,↓qf,qc,Jq,Nat.reduceAdd];apply hK;clear hK K;refine qF ?_;refine awp_rseq [0,1,2,28] (by rfl) fun K hK=>?_;simp+decide only[ev,putD,VG,VH,Ka,Kb,↓qg,qd];refine QS (V:= .bool (qkk l 30)) (by rfl) (by rfl) (c_big wz d1 _ vl l 30 (hX.mono (by repeat (first|exact Vh _|assumption|refine Ba ?_ (Vi (by assumption))|refine Ba ?_ (by assumption)))) hLl (by decide) (by decide)) ?_;simp+decide only[ev,putD,VG,VH,Ka,Kb,↓qg,qd,↓Xc,agP,Qs,qW,qP,qU,implies_true]
 (refine Yh (V:= .bool (qkk m 30)) (f:=_) (cap:=_) (xs:=_) (by first|rfl|(simp+decide only[gv,qW,VH,Ka,Xm,qP])) (fun hg=>⟨rfl,?_⟩) (fun hg=>c_big wz d2 _ vm m 30 (hM.mono (by repeat (first|exact Vh _|assumption|refine Ba ?_ (Vi (by assumption))|refine Ba ?_ (by assumption)))) hLm (by decide) (by decide)) ?_;· (simp+decide only[gv,qW,VH,Ka,qU]at hg;simp+decide only[evs,ev,VH,Ka,hg,Qf,List.append_nil,Ke,Vj,qK,qG]<;>try rfl))
 simp+decide only[qa,ev,qK,qG,putD,VG,VH,VI,Ka,Kb,gv,qW,qU,↓QC,Qr,Qe,XZ,↓qg,qd,↓Xc,agP,Qs,qP,implies_true,↓qal,Qo,pLen_str Tryz.underlying9,qcW,qcY,↓QJ,qh,qE,cond_false,XL,XM,qz,Yk,Zv,cond_false];apply hK;clear hK K;refine qM (b:=_) rfl (fun hb1=>?_) (fun hb1=>?_)
 ·skip
  refine awp_rseq [6] (by rfl) fun K hK=>?_;refine qY (by rfl) (by rfl) (qla wz hm ha _) fun x2q0 h2q0 hx2q0=>?_;obtain⟨rfl,hs2⟩:=hx2q0;have hs_h2q0:Sub h h2q0:=Ba zqC hs2;have hr_h2q0:=hs_h2q0;simp+decide only[qa,ev,putD,VG,VH,VI,Ka,Kb,↓qf,qc];apply hK;clear hK K;refine Qn ?_;try simp only[QM]
  refine Xf h zqC (qJ (qO)) ?_;simp+decide only[VH,if_true,Kb,Qg];exact Vh _
 ·skip
  obtain⟨hb1l,hb1m,hb1w⟩:qkk l 30=false/\qkk m 30=false/\words.length<=40:=by
   revert hb1;cases qkk l 30<;>cases qkk m 30<;>simp<;>omega
  obtain⟨hA,hsl⟩:=qnT hb1l (by decide) (by decide) true;obtain⟨hB,hsm⟩:=qnT hb1m (by decide) (by decide) true;obtain⟨A,hAe⟩:∃A,A=Xo 6 l 1 true:=⟨_,rfl⟩
  obtain⟨B,hBe⟩:∃B,B=Xo 6 m 1 true:=⟨_,rfl⟩
  rw[<-hAe]at hA;rw[<-hBe]at hB;refine qV ?_;change Awp _ _ _ _ _ _ _;refine awp_rseq [1,2,7,8] (by rfl) fun K hK=>?_;simp+decide only[ev,putD,VG,VH,Ka,Kb,↓qg,qd];refine qY (by rfl) (by rfl) (qmo wz hm ha 6 d1 1 (by decide) (by decide) _ vl l true (hX.mono (by repeat (first|exact Vh _|assumption|refine Ba ?_ (Vi (by assumption))|refine Ba ?_ (by assumption)))) hsl (by rw[<-hAe];exact hA.len)) fun x3q1 h3q1 hx3q1=>?_;rw[<-hAe]at hx3q1;obtain⟨xv,px,rfl,hxv,hS3⟩:=hx3q1;have hs3:AM.Sub h h3q1:=hS3.in_ (i:=0) rfl;have hxl:=(hxv.mono (hS3.in_ (i:=1) rfl)).shape.1;have hs_h3q1:Sub h h3q1:=Ba zqC hs3;have hr_h3q1:=hs_h3q1;simp+decide only[qa,ev,putD,VG,VH,VI,Ka,Kb,↓qg,qd,↓Xu,Xk,XA,KY,JN,VJ,Kn,↓qf,qc,VJ,Kn,Jq,Nat.reduceAdd];apply hK;clear hK K;refine awp_rseq [2,7,8,9,10] (by rfl) fun K hK=>?_;simp+decide only[ev,putD,VG,VH,Ka,Kb,↓qg,qd];refine qY (by rfl) (by rfl) (qmo wz hm ha 6 d2 1 (by decide) (by decide) _ vm m true (hM.mono (by repeat (first|exact Vh _|assumption|refine Ba ?_ (Vi (by assumption))|refine Ba ?_ (by assumption)))) hsm (by rw[<-hBe];exact hB.len)) fun x4q1 h4q1 hx4q1=>?_;rw[<-hBe]at hx4q1;obtain⟨yv,py,rfl,hyv,hS4⟩:=hx4q1;have hs4:AM.Sub h3q1 h4q1:=hS4.in_ (i:=0) rfl;have hyl:=(hyv.mono (hS4.in_ (i:=1) rfl)).shape.1;have hS5:=Sep.nest hS3 hS4;simp only[Kh,Je]at hS5;have hs_h4q1:Sub h h4q1:=Ba zqC hs4;have hr_h4q1:Sub h3q1 h4q1:=Ba zqC hs4;simp+decide only[qa,ev,putD,VG,VH,VI,Ka,Kb,↓qg,qd,↓Xu,Xk,XA,KY,JN,VJ,Kn,↓qf,qc,VJ,Kn,Jq,Nat.reduceAdd];apply hK;clear hK K;refine qF ?_;have hxv5:StsV wz 6 h4q1 xv A.2:=hxv.mono (hS5.in_ (i:=1) rfl);have hyv5:StsV wz 6 h4q1 yv B.2:=hyv.mono (hS5.in_ (i:=2) rfl);obtain⟨qx,hqx,hqxL,hqxo⟩:=StsV.els (d:=5) hxv;obtain⟨qy,hqy,hqyL,hqyo⟩:=StsV.els (d:=5) hyv;have hqxn:0<qx.length:=Bc.2 fun e=>hA.ne (by rw[hqx,e];rfl);have hqyn:0<qy.length:=Bc.2 fun e=>hB.ne (by rw[hqy,e];rfl);have hqx4:qx.length<=4:=by have:=hA.wf.1;rw[hqx,Jo]at this;exact this
  have hqy4:qy.length<=4:=by have:=hB.wf.1;rw[hqy,Jo]at this;exact this
  obtain⟨D,hD⟩:∃D,D=decide (Lib.join (QG 6 A.2) [32]=Lib.join (QG 6 B.2) [32]):=⟨_,rfl⟩
  have hDD:(D==D)=true:=by cases D<;>rfl
  have hAt:decide (A.1=[])=false:=decide_eq_false hA.txt;have hBt:decide (B.1=[])=false:=decide_eq_false hB.txt;refine awp_rseq [2,8,73] (by kernel_rfl) fun K hK=>?_;simp+decide only[ev,putD,VG,VH,Ka,Kb,↓qg,qd];refine qY (by rfl) (by rfl) (qmp wz 6 6 _ xv yv A.2 B.2 (hxv5.mono (by repeat (first|exact Vh _|assumption|refine Ba ?_ (Vi (by assumption))|refine Ba ?_ (by assumption)))) (hyv5.mono (by repeat (first|exact Vh _|assumption|refine Ba ?_ (Vi (by assumption))|refine Ba ?_ (by assumption)))) hA.wf.q.small hB.wf.q.small) fun x5q2 h5q2 hx5q2=>?_;obtain⟨rfl,hs5a⟩:=hx5q2;rw[hA.sameE hB,<-hD];have hs_h5q2:Sub h h5q2:=Ba zqC hs5a;have hr_h5q2:Sub h4q1 h5q2:=Ba zqC hs5a;simp+decide only[ev,putD,VG,VH,Ka,Kb,↓qg,qd];refine qY (by rfl) (by rfl) (qjv wz _ xv A.2 A.1 (hxv5.mono (by repeat (first|exact Vh _|assumption|refine Ba ?_ (Vi (by assumption))|refine Ba ?_ (by assumption)))) hA) fun x5q4 h5q4 hx5q4=>?_;obtain⟨hst5,hs5b⟩:=hx5q4;have hs_h5q4:Sub h h5q4:=Ba zqC hs5b;have hr_h5q4:Sub h5q2 h5q4:=Ba zqC hs5b;refine QS (V:= .str (Lib.join (QG 6 A.2) [32])) (by rfl) (by rfl) (qdN wz _ _ (QG 6 A.2) [32] hst5 (Vd hA.join_len (by decide)) hA.join) ?_;simp+decide only[ev,putD,VG,VH,Ka,Kb,↓qg,qd];refine qY (by rfl) (by rfl) (qjv wz _ yv B.2 B.1 (hyv5.mono (by repeat (first|exact Vh _|assumption|refine Ba ?_ (Vi (by assumption))|refine Ba ?_ (by assumption)))) hB) fun x5q7 h5q7 hx5q7=>?_;obtain⟨hst5b,hs5c⟩:=hx5q7;have hs_h5q7:Sub h h5q7:=Ba zqC hs5c;have hr_h5q7:Sub h5q4 h5q7:=Ba zqC hs5c;refine QS (V:= .str (Lib.join (QG 6 B.2) [32])) (by rfl) (by rfl) (qdN wz _ _ (QG 6 B.2) [32] hst5b (Vd hB.join_len (by decide)) hB.join) ?_;simp+decide only[ev,putD,VG,VH,Ka,Kb,↓qo,qh,qN,cond_false,Qp,XP,qkH,Tryz.underlying4,↓qg,qd,↓Xc,agP,Qs,qW,qP,qU,implies_true,Bd,Be,Bd,Be,cond_true,cond_false,<-hD,hDD,Be,Qt,Bd,cond_true];refine Zb (by rfl) ?_;refine qY (by rfl) (by rfl) (qmp wz 6 6 _ xv xv A.2 A.2 (hxv5.mono (by repeat (first|exact Vh _|assumption|refine Ba ?_ (Vi (by assumption))|refine Ba ?_ (by assumption)))) (hxv5.mono (by repeat (first|exact Vh _|assumption|refine Ba ?_ (Vi (by assumption))|refine Ba ?_ (by assumption)))) hA.wf.q.small hA.wf.q.small) fun x5q14 h5q14 hx5q14=>?_;obtain⟨rfl,hs5d⟩:=hx5q14;rw[show qaJ 6 A.2 A.2=true by unfold qaJ;rw[hA.wf.q.deep (by decide),qkC];rfl];have hS6:=hS5.forget (hs5a.trans (hs5b.trans (hs5c.trans hs5d)));have hs_h5q14:Sub h h5q14:=Ba zqC hs5d;have hr_h5q14:Sub h5q7 h5q14:=Ba zqC hs5d;simp+decide only[ev,qK,qG,putD,VG,VH,Ka,Kb,↓WR,Zn,agP,Qs,qW,qP,qU,implies_true,Bd,Be,YJ,↓QC,Qr,Qe,↓qg,qd,↓Xc,Bd,Be,Zv,cond_true,cond_false,Be,Qt,Bd,cond_true];refine Zb (by rfl) ?_;refine Qh (cs:=[]) (by kernel_rfl) fun k5q19 hk5q19=>?_;have hn_5q19:h5q14 k5q19=none:=by first|assumption|(simp only[VU]at hk5q19;simp only[hk5q19])
  have hf_5q19:h k5q19=none:=VV hs_h5q14 hn_5q19;simp+decide only[ev,putD,VG,VH,Ka,Kb,↓Xc,qd,agP,Qs,qW,qP,qU,implies_true,Bd,Bd,cond_true,Qt,Bd,cond_true];have hS7:=Sep.lay hS6 hn_5q19 (⟨[],0⟩:Blk);simp only[Kh,Je]at hS7;refine Zb (by rfl) ?_;refine ZM (es:=5) (v:= .slice (.own k5q19) 0 0 (.exact 0)) (p:=one k5q19 ⟨[],0⟩) (xs:=[]) (ys:=qx.map qbj) (i:=3) (by rfl) (by rfl) Tryz.underlying45 Tryz.underlying45 (fun k e=>by cases e) Yv by82 qhT (by rfl) (by decide) (by rfl) qsA rfl hS7 (by rfl) (hqxL.mono (hS7.in_ (i:=1) rfl)) (qiA fun q hq=>⟨(hqxo q hq).1.scal,(hqxo q hq).2.scal⟩) (by rw[Jo];omega) (by simp only[Jo,JN];omega) (by simp only[Jo,JN];omega) fun ov1 op1 h5a hg1 _ hS8=>?_;simp+decide only[ev,putD,VG,VH,Ka,Kb,qW,qU,↓Xc,qd,agP,Qs,qP,implies_true,Bd,Bd,cond_true,Qt,Bd,cond_true];refine Zb (by rfl) ?_;refine ZM (es:=5) (v:=ov1) (p:=op1) (xs:=[]++qx.map qbj) (ys:=qy.map qbj) (i:=3) (by rfl) (by rfl) Tryz.underlying45 Tryz.underlying45 (fun k e=>by cases e) Yv by82 qhT (by rfl) (by decide) (by rfl) hg1 rfl hS8 (by rfl) (hqyL.mono (hS8.in_ (i:=2) rfl)) (qiA fun q hq=>⟨(hqyo q hq).1.scal,(hqyo q hq).2.scal⟩) (by rw[Jo];omega) (by simp only[Jc,Jo,JN];omega) (by simp only[Jc,Jo,JN];omega) fun ov2 op2 h5b hg2 _ hS9=>?_;have hxy:StsV wz 6 h5b ov2 (A.2++B.2):=⟨qx++qy,by rw[hqx,hqy,Vr],by have:=hg2.isL (wz:=wz) (hS9.in_ (i:=3) rfl);rw[Vr];exact this,fun q hq=>by
   rcases JR.1 hq with z|z
   ·exact⟨(hqxo q z).1.mono (hS9.in_ (i:=1) rfl),(hqxo q z).2.mono (hS9.in_ (i:=1) rfl) fun _ _ w=>w.mono (hS9.in_ (i:=1) rfl)⟩
   ·exact⟨(hqyo q z).1.mono (hS9.in_ (i:=2) rfl),(hqyo q z).2.mono (hS9.in_ (i:=2) rfl) fun _ _ w=>w.mono (hS9.in_ (i:=2) rfl)⟩⟩
  have hxys:SmallS 6 (A.2++B.2):=⟨by have:=hA.wf.1;have:=hB.wf.1;rw[Jc];omega,fun s hs=>by
   rcases JR.1 hs with z|z
   ·exact hA.wf.q.small.2 s z
   ·exact hB.wf.q.small.2 s z⟩
  try simp+decide only[putD,VG,if_false]
  refine Zb (by rfl) ?_;refine qY (by rfl) (by rfl) (qmp wz 6 6 _ xv ov2 A.2 (A.2++B.2) (hxv.mono (hS9.in_ (i:=1) rfl)) hxy hA.wf.q.small hxys) fun x5q24 h5q24 hx5q24=>?_;obtain⟨rfl,hs5f⟩:=hx5q24;rw[show qaJ 6 A.2 (A.2++B.2)=false by unfold qaJ;rw[same_app hB.ne];simp];have hS10:=hS9.forget hs5f;have hs5g:AM.Sub h h5q24:=hS10.in_ (i:=0) rfl;simp+decide only[qa,ev,qK,qG,putD,VG,VH,VI,Ka,Kb,↓QC,Qr,Qe,↓qg,qd,↓Xc,agP,Qs,qW,qP,qU,implies_true,Bd,↓QJ,qh,Qy,cond_false,Qp,XP,Bd,Zv,cond_true,cond_false,Qt,hAt,hBt,Bd,cond_true];apply hK;clear hK K;refine qM (b:=_) rfl (fun hb2=>?_) (fun hb2=>?_)
  ·cases hb2
  ·try simp only at hb2
   refine qV ?_;change Awp _ _ _ _ _ _ _;have hxv7:StsV wz 6 h5q24 xv A.2:=hxv.mono (hS10.in_ (i:=1) rfl);obtain⟨q0,hq0⟩:∃q0,q0=qx.getD 0 qcO:=⟨_,rfl⟩
   have hq0m:q0∈qx:=by rw[hq0,Ko,JH hqxn];exact VA hqxn
   obtain⟨hph,hbd⟩:=hqxo q0 hq0m;have hs7x:AM.Sub px h5q24:=hS10.in_ (i:=1) rfl;obtain⟨lc,o,cc,hpe⟩:=qcH hqxL hqxn;have hq2:=hqxL.mono hs7x;rw[hpe]at hq2;obtain⟨e0,e1,e2,e3,e4⟩:=qcd hq2 hqxn;rw[<-hq0]at e0 e1 e2 e3 e4;simp only[K8,K7]at e0 e1 e2 e3 e4;have hpl:=hph.live;have hps:=hph.scal;have hpc:=hph.cells;have hbl:=hbd.live;have hbs:=hbd.scal;have hbc:=hbd.cells;have hs1m:q0.1∈A.2:=by rw[hqx];exact List.mem_map_of_mem hq0m
   obtain⟨w1,w2,w3,w4⟩:=hA.wf.q.2 q0.1 hs1m;refine awp_rseq [2,8,11,12] (by rfl) fun K hK=>?_;simp+decide only[ev,qK,qG,putD,VG,VH,Ka,Kb,↓qg,qd,↓qZ,Qc,qA Tryz.underlying45 Yv,↓qI,Qz qeJ Yv,J4,Qd,QL,Qw,allLive,J4,hpe,e0,e1,e2,e3,e4,hpl,hbl,Bg,K8,K7];repeat (with_reducible refine And.intro ?_ ?_;· first|trivial|omega|(intro hg;simp only[Ky,JF,Ji,VO,VL,VK,decide_eq_true_eq,decide_eq_false_iff_not,Xd]at hg;omega))
   refine qY (by rfl) (by rfl) (qpr wz _ q0.1.verb words q0.1.line q0.1.col q0.2.1 q0.2.2 q0.1.phrases (hph.mono hs7x) hbl hbs hbc (by omega) (fun p hp=>Vd (w2.2 p hp).2.1 (by decide))) fun x7q4 h7q4 hx7q4=>?_;obtain⟨hs7,rv,rfl,hrv⟩:=hx7q4;obtain⟨F,hFe⟩:∃F,F=qdk q0.1.phrases words:=⟨_,rfl⟩
   rw[<-hFe]at hrv|-
   have hrl:=hrv.clip.live;have nrv:∀H:AHeap,Zh Tryz.prog H 39 (Zi rv)=⟨True, .int .i64 (F.getD []).length⟩:=fun H=>by have:=hrv.clip.len Tryz.underlying39 H;rwa [Jo]at this
   have crv:qlK Tryz.prog 39 (Zi rv)=⟨True, .int .i64 (F.getD []).length⟩:=by have:=hrv.cap (P:=Tryz.prog) Tryz.underlying39;rwa [Jo]at this
   have hS11:=hS10.forget hs7;have hs_h7q4:Sub h h7q4:=Ba zqC hs7;have hr_h7q4:Sub h5q24 h7q4:=Ba zqC hs7;simp+decide only[qa,ev,putD,VG,VH,VI,Ka,Kb,↓qg,qd,↓Xu,Xk,XA,KY,JN,VJ,Kn,↓qf,qc,VJ,Kn,Jq,Nat.reduceAdd];apply hK;clear hK K;have hs8:AM.Sub px h7q4:=hS11.in_ (i:=1) rfl;have hq8:=hqxL.mono hs8;rw[hpe]at hq8;obtain⟨g0,g1,g2,g3,g4⟩:=qcd hq8 hqxn;rw[<-hq0]at g0 g1 g2 g3 g4;simp only[K8,K7]at g0 g1 g2 g3 g4;obtain⟨pq,hpqe,hpqL,hpqo⟩:=id hph;have npq:=qfe hpqL;have hpn:q0.1.phrases.length=pq.length:=by rw[hpqe,Jo]
   have hpn5:pq.length<=5:=by have:=w2.1;omega
   have hwn:IntKind.i64.wrap ((pq.length:Int)-1)=(pq.length:Int)-1:=wrap_i64 (by omega) (by omega);have hs_h:AM.Sub h h7q4:=hS11.in_ (i:=0) rfl;refine awp_rseq [2,8,11,12,13] (by rfl) fun K hK=>?_;simp+decide only[qa,ev,qK,qG,putD,VG,VI,Ka,Kb,↓qf,qc];apply hK;clear hK K;refine qF ?_;refine awp_rseq [2,8,11,12,13,14] (by rfl) fun K hK=>?_;simp+decide only[qa,ev,qK,qG,putD,VG,VH,VI,Ka,Kb,↓qg,qd,↓qZ,Qc,qA Tryz.underlying45 Yv,↓qC,qi,Zz,↓qI,qj qba,↓QB,Qo,↓qo,qh,qE,cond_false,qz,Wl,↓qf,qc,cond_false,g3,hpl,npq,hwn,Bg,K8,K7];repeat (with_reducible refine And.intro ?_ ?_;· first|trivial|omega|(intro hg;simp only[Ky,JF,Ji,VO,VL,VK,decide_eq_true_eq,decide_eq_false_iff_not,Xd]at hg;omega))
   apply hK;clear hK K;refine Qb ?_;refine QN [2,8,11,12,13,14] (fun g:WtG=>[(2, .str words),(8,xv),(11,Zi rv),(12, .bool F.isSome),(13, .int .i64 g.w),(14, .int .i64 ((g.k:Int)-1))]) (fun g:WtG=>h7q4) (fun g:WtG=>g.k<=pq.length/\g.w=qfu q0.1.phrases words g.k) (fun g:WtG=>g.k) ⟨pq.length,-1⟩ (by rw[hpe];rfl) (Vh _) ⟨KM _,by rw[<-hpn,qrN]⟩ ?_;rintro⟨k,w⟩ ⟨hk,hw⟩;simp only at hk hw|-
   refine qF ?_;refine awp_rseq [2,8,11,12,13,14,89] (by rfl) fun K hK=>?_;simp+decide only[qa,ev,qK,qG,putD,VG,VH,VI,Ka,Kb,↓qg,qd,↓qo,qh,qE,cond_false,qz,qiV,cond_false];apply hK;clear hK K;refine qM (b:=_) rfl (fun hb3=>?_) (fun hb3=>?_)
   ·try simp only[decide_eq_true_eq]at hb3
    have hk1:k-1<pq.length:=by omega
    obtain⟨lp,op,cp,hpve⟩:=UK hpqL (by omega);have hp2:=hpqL.mono hs8;rw[hpve]at hp2;have p0:=(qbH hp2 hk1).1;have htk:Int.toNat ((k:Int)-1)=k-1:=by omega
    have hkb:(0<=(k:Int)-1/\(k:Int)-1<(pq.length:Int))=True:=eq_true ⟨by omega,by omega⟩;have hwk:IntKind.i64.wrap ((k:Int)-1-1)=((k-1:Nat):Int)-1:=by rw[wrap_i64 (by omega) (by omega)];omega
    have hpg:q0.1.phrases[k-1]?=some (pq.getD (k-1) qbu).1:=by rw[hpqe,VE,JH hk1,Ko,JH hk1];rfl
    have hst:=qop (w:=words) hpg;rw[show k-1+1=k by omega,<-hw]at hst;refine qV ?_;change Awp _ _ _ _ _ _ _;refine qF ?_;refine Qb ?_;refine awp_rseq [2,8,11,12,13,14,101] (by rfl) fun K hK=>?_;simp+decide only[qa,ev,qK,qG,putD,VG,VH,VI,Ka,Kb,↓qg,qd,↓qZ,Qc,qA Tryz.underlying45 Yv,↓qC,qi,Zz,↓qI,qj qba,qA Tryz.underlying79 qab,qhc,qj ag9,↓qo,qh,qN,cond_false,Qp,XP,cond_false,Qw,Xv,hpe,g3,hpve,p0,hkb,htk,Bg,K8,K7];repeat (with_reducible refine And.intro ?_ ?_;· first|trivial|omega|(intro hg;simp only[Ky,JF,Ji,VO,VL,VK,decide_eq_true_eq,decide_eq_false_iff_not,Xd]at hg;omega))
    apply hK;clear hK K;refine qM (b:=_) rfl (fun hb4=>?_) (fun hb4=>?_)
    ·try simp only[decide_eq_true_eq]at hb4
     rw[if_pos hb4]at hst;refine Xa [2,8,11,12,13,14] (by rfl) ?_;simp+decide only[qa,ev,putD,VG,VH,VI,Ka,Kb,↓qg,qd,↓qf,qc];change Awp _ _ _ _ _ _ _;refine Xa [2,8,11,12,13,14] (by rfl) ?_;simp+decide only[qa,ev,qK,qG,putD,VG,VH,VI,Ka,Kb,↓qg,qd,↓qo,qh,qE,cond_false,qz,Wl,↓qf,qc,cond_false,hwk];try simp only[qR]
     first
     |exact⟨⟨k-1,(k:Int)-1⟩,by first|rfl|(rw[hpe];rfl),Vh _,⟨by simp only;omega,by rw[hst];simp only;omega⟩,by simp only;omega⟩
     |exact⟨⟨k-1,w⟩,by first|rfl|(rw[hpe];rfl),Vh _,⟨by simp only;omega,hst.symm⟩,by simp only;omega⟩
    ·try simp only[decide_eq_false_iff_not]at hb4
     rw[if_neg hb4]at hst;refine qV ?_;change Awp _ _ _ _ _ _ _;refine Xa [2,8,11,12,13,14] (by rfl) ?_;simp+decide only[qa,ev,qK,qG,putD,VG,VH,VI,Ka,Kb,↓qg,qd,↓qo,qh,qE,cond_false,qz,Wl,↓qf,qc,cond_false,hwk];try simp only[qR]
     first
     |exact⟨⟨k-1,(k:Int)-1⟩,by first|rfl|(rw[hpe];rfl),Vh _,⟨by simp only;omega,by rw[hst];simp only;omega⟩,by simp only;omega⟩
     |exact⟨⟨k-1,w⟩,by first|rfl|(rw[hpe];rfl),Vh _,⟨by simp only;omega,hst.symm⟩,by simp only;omega⟩
   ·try simp only[decide_eq_false_iff_not]at hb3
    have hk0:k=0:=by omega
    rw[hk0]at hw;refine QI ?_;change Awp _ _ _ _ _ _ _;refine qF ?_;have mcase:(∃(fb:Bool) (lp:AM.Loc) (op:Nat) (cp:Cap) (j:Nat) (tv:AVal),F.isSome=fb/\decide (0<=w)=fb/\(F.getD []).length=0/\fb=false/\True/\True/\True/\True/\True/\True)\/
     (∃(fb:Bool) (lp:AM.Loc) (op:Nat) (cp:Cap) (j:Nat) (tv:AVal),F.isSome=fb/\decide (0<=w)=fb/\(∀H:AHeap,Zh Tryz.prog H 39 tv=⟨True, .int .i64 (F.getD []).length⟩)/\fb=true/\q0.2.1= .slice lp op pq.length cp/\w=(j:Int)/\(0<=(j:Int)/\(j:Int)<(pq.length:Int))=True/\rd wz h7q4 lp (op+j*2+1)=tv/\tv.live=true/\decide (0<=(j:Int))=true):=by
     rcases qrM q0.1.phrases words with⟨hF0,hw0⟩|⟨j,hj,hF0,hw0⟩
     ·rw[<-hFe]at hF0
      refine .inl ⟨false, .base 0,0, .exact 0,0, .nilSlice,by rw[hF0];rfl,by rw[hw,hw0];rfl,by rw[hF0];rfl,rfl,trivial,trivial,trivial,trivial,trivial,trivial⟩
     ·rw[<-hFe]at hF0
      rw[hpn]at hj;obtain⟨lp,op,cp,hpve⟩:=UK hpqL (by omega);have hp2:=hpqL.mono hs8;rw[hpve]at hp2;have p1:=(qbH hp2 hj).2;have hjm:pq.getD j qbu∈pq:=by rw[Ko,JH hj];exact VA hj
      have hjt:=hpqo _ hjm;have hjg:q0.1.phrases.getD j ⟨[],[]⟩=(pq.getD j qbu).1:=by rw[hpqe,Ko,Ko,VE,JH hj];rfl
      refine .inr ⟨true,lp,op,cp,j,(pq.getD j qbu).2,by rw[hF0];rfl,by rw[hw,hw0];exact decide_eq_true (by omega),fun H=>?_,rfl,hpve,by rw[hw,hw0],eq_true ⟨by omega,by omega⟩,p1,hjt.live,decide_eq_true (by omega)⟩;rw[hF0,hjg];exact Zt hjt H
    rcases mcase with⟨fb,lp,op,cp,j,tv,m1,m2,m3,rfl,m4,m5,m6,m7,m8,m9⟩|⟨fb,lp,op,cp,j,tv,m1,m2,m3,rfl,m4,m5,m6,m7,m8,m9⟩
    all_goals
     refine awp_rseq [8,139] (by kernel_rfl) fun K hK=>?_;simp+decide only[qa,ev,qK,qG,putD,VG,VH,VI,Ka,Kb,↓qg,qd,↓qo,qh,qE,cond_false,qz,qiV,qN,qkH,Tryz.underlying4,↓Xc,agP,Qs,qW,qP,qH,qU,implies_true,decide_true,Bd,Be,forall_const,false_implies,Zl,UB,↓qal,Qo,↓Zp,Xp,ZL,qA Tryz.underlying45 Yv,↓Xe,qi,Zz,↓XJ,qj qba,qA Tryz.underlying79 qab,UT,qj qam,↓QJ,WW,↓ag_cap,pop_cap,↓WS,Qr,Qe,↓QC,↓WR,Zn,YJ,decide_true,Bd,Be,forall_const,false_implies,Zl,Zv,cond_true,cond_false,Xv,beq_self_eq_true,Be,Bd,Qt,cond_true,cond_false,m1,m2,m3,m4,m5,m6,m7,m8,m9,nrv,crv,hpe,g3,Bg,Int.toNat_natCast,K8,K7];repeat (with_reducible refine And.intro ?_ ?_;· first|trivial|omega|(intro hg;simp only[Ky,JF,Ji,VO,VL,VK,decide_eq_true_eq,decide_eq_false_iff_not,Xd]at hg;omega))
     apply hK;clear hK K;refine qM (b:=_) rfl (fun hb5=>?_) (fun hb5=>?_)
     ·exact absurd hb5 (by decide)
     ·try simp only at hb5
      refine qV ?_;change Awp _ _ _ _ _ _ _;have hscb:Sc q0.2.2=True:=by obtain⟨_,_,a,_⟩:=hbd;exact qoB a
      refine qeT 9 [15] mixed (by kernel_rfl) (by rfl) (by rfl) fun K hK=>?_;simp+decide only[ev,qK,qG,putD,VG,VH,Ka,Kb,↓qg,qd,↓qZ,Qc,qA Tryz.underlying45 Yv,↓qC,qi,WY,↓qI,qj ag9,Yf,qj qbB,↓Zo,↓Xz,qsW,evP,Ke,Vj,Qw,g0,g4,hbl,hscb,Bg,K8,K7];repeat (with_reducible refine And.intro ?_ ?_;· first|trivial|omega|(intro hg;simp only[Ky,JF,Ji,VO,VL,VK,decide_eq_true_eq,decide_eq_false_iff_not,Xd]at hg;omega))
      refine Qh (cs:=[.str q0.1.verb, .int .i64 0, .int .i64 0, .nilSlice,q0.2.2]) (by kernel_rfl) fun k16q9 hk16q9=>?_;have hn_16q9:h7q4 k16q9=none:=by first|assumption|(simp only[VU]at hk16q9;simp only[hk16q9])
      have hf_16q9:h k16q9=none:=VV hs_h7q4 hn_16q9;simp+decide only[qa,ev,putD,VG,VH,VI,Ka,Kb,↓qf,qc];apply hK;clear hK K;obtain⟨H16,hH16⟩:∃H16,H16=h7q4.set k16q9 ⟨[.str q0.1.verb, .int .i64 0, .int .i64 0, .nilSlice,q0.2.2],0⟩:=⟨_,rfl⟩
      have f16:H16 k16q9=some ⟨[.str q0.1.verb, .int .i64 0, .int .i64 0, .nilSlice,q0.2.2],0⟩:=by rw[hH16];exact zqA
      have hs_n16:AM.Sub h7q4 H16:=by rw[hH16];exact Vi hn_16q9
      rw[<-hH16];have hs_H16:AM.Sub h H16:=hs_h.trans hs_n16;have hpv:StsV wz 6 H16 (.slice (.own k16q9) 0 1 (.exact 1)) [pS q0.1]:=⟨[(pS q0.1, .nilSlice,q0.2.2)],rfl,Bh (xs:=[[.str q0.1.verb, .int .i64 0, .int .i64 0, .nilSlice,q0.2.2]]) f16 (fun x hx=>by rw[VM.1 hx];rfl) rfl (by show(true && (true && (true && (true && (q0.2.2.live && true)))))=true;rw[hbl];rfl) (.exact 1) (KM _),fun q hq=>by
       rw[VM.1 hq];exact⟨⟨[],rfl, .nil,fun p hp=>by cases hp⟩,hbd.mono (hs8.trans hs_n16) fun _ _ z=>z.mono (hs8.trans hs_n16)⟩⟩
      refine awp_rseq [15,16] (by rfl) fun K hK=>?_;simp+decide only[ev,qK,qG,putD,VG,VH,if_false,Kb,↓Zo,↓Xz,qpt,evP,Vj];refine Qh (cs:=[.str [], .nilSlice]) (by kernel_rfl) fun k17q1 hk17q1=>?_;have hn_17q1:H16 k17q1=none:=by first|assumption|(simp only[VU]at hk17q1;simp only[hk17q1])
      have hf_17q1:h k17q1=none:=VV hs_H16 hn_17q1;simp+decide only[ev,qK,qG,putD,VG,VH,Ka,Kb,↓Zo,↓Xz,qle,evP,Ke,Vj,qgu];refine Qh (cs:=[.str [78,79,45,86,69,82,66], .int .i64 0, .int .i64 0, .slice (.own k17q1) 0 1 (.exact 1), .nilSlice]) (by kernel_rfl) fun k17q3 hk17q3=>?_;have ne_17q3_17q1:k17q3≠k17q1:=by simp only[VU]at hk17q3;simp only[hk17q3,ne_eq,not_false_eq_true]
      have hn_17q3:H16 k17q3=none:=by first|assumption|(simp only[VU]at hk17q3;simp only[hk17q3])
      have hf_17q3:h k17q3=none:=VV hs_H16 hn_17q3;simp+decide only[qa,ev,putD,VG,VH,VI,Ka,Kb,↓qf,qc];apply hK;clear hK K;have hs_n17:AM.Sub H16 ((H16.set k17q1 ⟨[.str [], .nilSlice],0⟩).set k17q3 ⟨[.str [78,79,45,86,69,82,66], .int .i64 0, .int .i64 0, .slice (.own k17q1) 0 1 (.exact 1), .nilSlice],0⟩):=zqB;obtain⟨H17,hH17⟩:∃H17,H17=(H16.set k17q1 ⟨[.str [], .nilSlice],0⟩).set k17q3 ⟨[.str [78,79,45,86,69,82,66], .int .i64 0, .int .i64 0, .slice (.own k17q1) 0 1 (.exact 1), .nilSlice],0⟩:=⟨_,rfl⟩
      have f17a:H17 k17q1=some ⟨[.str [], .nilSlice],0⟩:=by rw[hH17];exact zqA
      have f17b:H17 k17q3=some ⟨[.str [78,79,45,86,69,82,66], .int .i64 0, .int .i64 0, .slice (.own k17q1) 0 1 (.exact 1), .nilSlice],0⟩:=by rw[hH17];exact zqA
      rw[<-hH17]at hs_n17|-
      have hs_H17:AM.Sub h H17:=hs_H16.trans hs_n17;have hpv2:=hpv.mono hs_n17;have hqv:StsV wz 6 H17 (.slice (.own k17q3) 0 1 (.exact 1)) [qS]:=qpU f17b (ph_one f17a .nil) ⟨[],rfl, .nil,fun b hb=>by cases hb⟩;refine awp_rseq [15,16,17] (by rfl) fun K hK=>?_;refine qY (by rfl) (by rfl) (qct wz hm ha _ [65] (by decide) (by decide)) fun x18q0 h18q0 hx18q0=>?_;obtain⟨p18,hrow18,hG18,hS18⟩:=hx18q0;have hs18:=hS18.in_ (i:=0) rfl;have hsc18:Sc x18q0=True:=by rcases hrow18 with⟨rfl,_⟩|⟨_,_,rfl,_⟩<;>exact eq_true trivial
      have hl18:=hrow18.live;have hs_h18q0:Sub h h18q0:=Ba zqC hs18;have hr_h18q0:Sub H17 h18q0:=Ba zqC hs18;simp+decide only[ev,qK,qG,putD,VG,VH,Ka,Kb,↓Zo,↓Xz,qrC,evP,Ke,Vj,hsc18];refine Qh (cs:=[.str [],x18q0]) (by kernel_rfl) fun k18q2 hk18q2=>?_;have hn_18q2:h18q0 k18q2=none:=by first|assumption|(simp only[VU]at hk18q2;simp only[hk18q2])
      have hf_18q2:h k18q2=none:=VV hs_h18q0 hn_18q2;simp+decide only[ev,qK,qG,putD,VG,VH,if_false,Kb,↓Zo,↓Xz,qrB,evP,Ke,Vj];refine Qh (cs:=[.str [84,72,69,78], .nilSlice, .nilSlice]) (by kernel_rfl) fun k18q4 hk18q4=>?_;have ne_18q4_18q2:k18q4≠k18q2:=by simp only[VU]at hk18q4;simp only[hk18q4,ne_eq,not_false_eq_true]
      have hn_18q4:h18q0 k18q4=none:=by first|assumption|(simp only[VU]at hk18q4;simp only[hk18q4])
      have hf_18q4:h k18q4=none:=VV hs_h18q0 hn_18q4;simp+decide only[ev,qK,qG,putD,VG,VH,Ka,Kb,↓Zo,↓Xz,qnW,evP,Ke,Vj,qgu];refine Qh (cs:=[.str [73,70], .int .i64 0, .int .i64 0, .slice (.own k18q2) 0 1 (.exact 1), .slice (.own k18q4) 0 1 (.exact 1)]) (by kernel_rfl) fun k18q6 hk18q6=>?_;have ne_18q6_18q2:k18q6≠k18q2:=by simp only[VU]at hk18q6;simp only[hk18q6,ne_eq,not_false_eq_true]
      have ne_18q6_18q4:k18q6≠k18q4:=by simp only[VU]at hk18q6;simp only[hk18q6,ne_eq,not_false_eq_true]
      have hn_18q6:h18q0 k18q6=none:=by first|assumption|(simp only[VU]at hk18q6;simp only[hk18q6])
      have hf_18q6:h k18q6=none:=VV hs_h18q0 hn_18q6;simp+decide only[qa,ev,putD,VG,VH,VI,Ka,Kb,↓qf,qc];apply hK;clear hK K;have hs_n18:AM.Sub h18q0 (((h18q0.set k18q2 ⟨[.str [],x18q0],0⟩).set k18q4 ⟨[.str [84,72,69,78], .nilSlice, .nilSlice],0⟩).set k18q6 ⟨[.str [73,70], .int .i64 0, .int .i64 0, .slice (.own k18q2) 0 1 (.exact 1), .slice (.own k18q4) 0 1 (.exact 1)],0⟩):=zqB;obtain⟨H18,hH18⟩:∃H18,H18=(((h18q0.set k18q2 ⟨[.str [],x18q0],0⟩).set k18q4 ⟨[.str [84,72,69,78], .nilSlice, .nilSlice],0⟩).set k18q6 ⟨[.str [73,70], .int .i64 0, .int .i64 0, .slice (.own k18q2) 0 1 (.exact 1), .slice (.own k18q4) 0 1 (.exact 1)],0⟩):=⟨_,rfl⟩
      have f18a:H18 k18q2=some ⟨[.str [],x18q0],0⟩:=by rw[hH18];exact zqA
      have f18b:H18 k18q4=some ⟨[.str [84,72,69,78], .nilSlice, .nilSlice],0⟩:=by rw[hH18];exact zqA
      have f18c:H18 k18q6=some ⟨[.str [73,70], .int .i64 0, .int .i64 0, .slice (.own k18q2) 0 1 (.exact 1), .slice (.own k18q4) 0 1 (.exact 1)],0⟩:=by rw[hH18];exact zqA
      rw[<-hH18]at hs_n18|-
      have hs_x18:AM.Sub H17 H18:=hs18.trans hs_n18;have hs_H18:AM.Sub h H18:=hs_H17.trans hs_x18;have hs_p18:AM.Sub p18 H18:=(hS18.in_ (i:=1) rfl).trans hs_n18;have hrv2:StsV wz 6 H18 (.slice (.own k18q6) 0 1 (.exact 1)) [rS]:=qpU f18c (ph_one f18a (hrow18.isL hs_p18)) (bd_one (L:=[]) f18b .nil ⟨[],rfl, .nil,fun b hb=>by cases hb⟩ rfl);have hpv3:=hpv2.mono hs_x18;have hqv2:=hqv.mono hs_x18;have hA2:BuiltOk (q0.1::A.2.tail) A.1:=by
       have:A.2=q0.1::A.2.tail:=by
        rw[hqx];cases hq9:qx with
        |nil=>rw[hq9]at hqxn;cases hqxn
        |cons a r=>rw[hq0,hq9];rfl
       rw[<-this];exact hA
      obtain⟨y1,y2,y3⟩:=hA2.p;have hok:∀{H:AHeap} {v:AVal} {l:List StC},StsV wz 6 H v l->WfQ 6 l->StsOk wz 6 H v l:=fun a b=>⟨a,b.small,b.tx,b.asc⟩
      have hwr:∀{l:List StC},WfQ 6 l->Xj 6 l<=200->(XH 6 [] l).length<=1000000000:=fun a b=>Vd (a.write []) (by rw[JN];omega);have hnil:StsV wz 6 H18 .nilSlice []:=⟨[],rfl, .nil,fun q hq=>by cases hq⟩
      have hwn:WfQ 6 []:=⟨Nat.zero_le _,fun s hs=>by cases hs⟩
      refine awp_rseq [6] (by kernel_rfl) fun K hK=>?_;simp+decide only[ev,putD,VG,VH,Ka,Kb,↓qg,qd];refine qY (by rfl) (by rfl) (qij wz hm ha 6 _ _ [pS q0.1] (hok (hpv3.mono (by repeat (first|exact Vh _|assumption|refine Ba ?_ (Vi (by assumption))|refine Ba ?_ (by assumption)))) y1) (hwr y1 (by omega)) (qar y1) qbR) fun x19q1 h19q1 hx19q1=>?_;obtain⟨⟨e19,rfl,he19⟩,hs19a⟩:=hx19q1;rw[check_p y2 he19];have hs_h19q1:Sub h h19q1:=Ba zqC hs19a;have hr_h19q1:Sub H18 h19q1:=Ba zqC hs19a;simp+decide only[ev,qK,qG,putD,VG,VH,Ka,Kb,↓qo,qh,qE,cond_false,qz,XV,↓qg,qd,↓Xc,agP,Qs,qW,qP,qH,implies_true,decide_true,Qf,decide_true,Qf,cond_false];refine Zb (by rfl) ?_;refine qY (by rfl) (by rfl) (qij wz hm ha 6 _ _ [qS] (hok (hqv2.mono (by repeat (first|exact Vh _|assumption|refine Ba ?_ (Vi (by assumption))|refine Ba ?_ (by assumption)))) wf_q) (hwr wf_q (by decide)) (qar wf_q) qbR) fun x19q5 h19q5 hx19q5=>?_;obtain⟨⟨e19b,rfl,he19b⟩,hs19b⟩:=hx19q5;rw[check_q he19b];have hs_h19q5:Sub h h19q5:=Ba zqC hs19b;have hr_h19q5:Sub h19q1 h19q5:=Ba zqC hs19b;simp+decide only[ev,qK,qG,putD,VG,VH,Ka,Kb,↓QJ,qh,agP,Qs,qW,qP,qH,implies_true,decide_true,Qf,qE,cond_false,qz,XV,↓QC,Qr,Qe,↓qg,qd,↓Xc,decide_true,Qf,Zv,cond_true,cond_false];refine Zb (by rfl) ?_;refine qY (by rfl) (by rfl) (qij wz hm ha 6 _ _ [rS] (hok (hrv2.mono (by repeat (first|exact Vh _|assumption|refine Ba ?_ (Vi (by assumption))|refine Ba ?_ (by assumption)))) wf_r) (hwr wf_r (by decide)) (qar wf_r) qbR) fun x19q10 h19q10 hx19q10=>?_;obtain⟨⟨e19c,rfl,he19c⟩,hs19c⟩:=hx19q10;rw[check_r he19c];have hs_h19q10:Sub h h19q10:=Ba zqC hs19c;have hr_h19q10:Sub h19q5 h19q10:=Ba zqC hs19c;simp+decide only[ev,qK,qG,putD,VG,VH,Ka,Kb,↓QJ,qh,agP,Qs,qW,qP,qH,implies_true,decide_true,Qf,qE,cond_false,qz,XV,↓QC,Qr,Qe,↓qg,qd,decide_true,Qf,Zv,cond_true,cond_false];refine Zb (by rfl) ?_;refine qY (by rfl) (by rfl) (qij wz hm ha 6 _ _ [] (hok (hnil.mono (by repeat (first|exact Vh _|assumption|refine Ba ?_ (Vi (by assumption))|refine Ba ?_ (by assumption)))) hwn) (by decide) (qar hwn) qbR) fun x19q14 h19q14 hx19q14=>?_;obtain⟨⟨e19d,rfl,he19d⟩,hs19d⟩:=hx19q14;rw[qsN he19d];have hs_h19q14:Sub h h19q14:=Ba zqC hs19d;have hr_h19q14:Sub h19q10 h19q14:=Ba zqC hs19d;simp+decide only[ev,qK,qG,putD,VG,VH,Ka,Kb,↓QJ,qh,agP,Qs,qW,qP,qH,implies_true,decide_true,Qf,qE,cond_false,qz,XV,↓QC,Qr,Qe,↓qg,qd,decide_true,Qf,Zv,cond_true,cond_false];refine Zb (by rfl) ?_;refine qY (by rfl) (by rfl) (qlb wz hm ha 6 _ _ [] (hok (hnil.mono (by repeat (first|exact Vh _|assumption|refine Ba ?_ (Vi (by assumption))|refine Ba ?_ (by assumption)))) hwn) (by decide)) fun x19q18 h19q18 hx19q18=>?_;obtain⟨ht19,hs19e⟩:=hx19q18;rw[show XK 6 []=[]from rfl]at ht19;have n19:=Zt ht19;have hl19:=ht19.live;have hs_h19q18:Sub h h19q18:=Ba zqC hs19e;have hr_h19q18:Sub h19q14 h19q18:=Ba zqC hs19e;simp+decide only[ev,qK,qG,putD,VG,VH,Ka,Kb,↓qal,Qo,agP,Qs,qW,qP,qH,implies_true,decide_true,Qf,↓QJ,qh,qE,cond_false,qz,XV,↓QC,Qr,Qe,↓qg,qd,decide_true,Qf,Zv,cond_true,cond_false,n19];refine Zb (by rfl) ?_;refine qY (by rfl) (by rfl) (qla wz hm ha _) fun x19q23 h19q23 hx19q23=>?_;obtain⟨rfl,hs19f⟩:=hx19q23;have hs_h19q23:Sub h h19q23:=Ba zqC hs19f;have hr_h19q23:Sub h19q18 h19q23:=Ba zqC hs19f;simp+decide only[qa,ev,qK,qG,putD,VG,VH,VI,Ka,Kb,↓QC,Qr,Qe,↓qf,qc,Zv,cond_true];apply hK;clear hK K;refine Qn ?_;refine Xf h zqC (qJ (qO)) ?_;simp+decide only[VH,if_true,Kb,Qg];exact Vh _
theorem l_StatementsSame(wz:World)(hm:MaxL wz)(ha:Asp wz)(h:AHeap)(vl:AVal)(l:List XC)(d1:Nat)(hX:XsV wz d1 h vl l)(hLl:LenX 140737488355328 8 l)(vm:AVal)(m:List XC)(d2:Nat)(hM:XsV wz d2 h vm m)(hLm:LenX 140737488355328 8 m)(words:Str)(hwl:words.length<=9223372036854775807):
 ACall Tryz.prog wz 5 [vl,vm, .str words] h (fun r _=>r= .bool true):=(l_Same1 wz hm ha h vl l d1 hX hLl vm m d2 hM hLm words hwl).mono fun _ _ z=>z.1
end Go.Proofs.YtgiadjbiimkbiaaGreatDoor
namespace Go.Proofs.YtgiadjbiimkbiaaGreatDoor
open Go.AM
open Go.ChangeShapes Go.WideShapes Go.ChangeAt Go.RowKit
set_option maxRecDepth 100000
section
variable {H:Type} {enc:TypeId×Value->H} {W:World} {base:Nat} {v:Value} {x:DataW H×List MemPlace}
theorem arg_str{t:TypeId}(ht:Tryz.prog.underlying t=some .string)(h:∃fuel,DataW.trod enc Tryz.prog W 0 (fun _=>true) true fuel t v.cells.toList=some x)(hv:Value.okWide Tryz.prog W .any base t v):
 ∃s:List UInt8,VR (fun _=>none) (.str s) v/\s.length<=9223372036854775807:=by
 obtain⟨fuel,hf⟩:=h;obtain⟨s,rfl⟩:=okWide_string ht hv;obtain⟨s',h,hx,hs⟩:=DataW.trod_string ht hf;simp[Value.cells]at h;subst h;exact⟨s.data.toList,qtd _ s,str_le hs⟩
end
theorem returns_and_shaped{H:Type}{enc:TypeId×Value->H}{a:Assume}{C:Checked}{os:Os}{f:FuncId}{fn:Func}{s:ChangeSpec}{conds:List PathCond}{apart fresh handsOn again:Bool}{X:World->Array Value->Prop}
 (hX:∀(w w':World) (args:Array Value),w.heap=w'.heap->X w args->X w' args)
 (own:ownKnob C.prog.godebug=none) (started:os.Started) (noInit:C.prog.inits.idxOf? f=none) (hfn:C.prog.funcs[f]?=some fn)
 (witness:∃(w:World) (tape:Tape) (i:Input),w.os=os/\(w.forCall tape i).Shaped C.prog/\i.vars=[]/\Input.okWide C.prog (w.forCall tape i) .any w.heap.size f i/\
   ((s.pre enc C.prog fn conds apart (w.forCall tape i).memory i.args/\X (w.forCall tape i).memory i.args)/\sizedMet enc C.prog fn (OpenSpec.ofChange s) apart (w.forCall tape i).memory i.args)/\a.holds C.prog (lone (Frame.enter C.prog f i.args .normal) [] (w.forCall tape i)))
 (contract:∀(W:World) (base:Nat) (args:Array Value) (ds gs:List (DataW H)) (before:List MemPlace),W.ShapedOpen C.prog->
   (∀(j:Nat) t v,fn.params[j]?=some t->args[j]?=some v->Value.okWide C.prog W .any base t v)->
   DataW.Whole enc C.prog fn.params.toList s.vars apart W args.toList ds gs before->
   conds.all (PathCond.test C.prog ⟨fn.params.toList,ds,s.plain.varTypes C.prog,gs⟩)=true->
   (DataW.weightsEach C.prog (fn.params.toList++s.plain.varTypes C.prog) (ds++gs)).all (· <=reachBytes)=true->X W args->
   a.holds C.prog (lone (Frame.enter C.prog f args .normal) [] W)->
   Calls C.prog f args W fun e W'=>∃v,e= .returned v/\s.post enc C.prog fn apart fresh handsOn again W args v W'):
 ReturnsInHanded a C os f .any (fun w args=>(s.pre enc C.prog fn conds apart w args/\X w args)/\sizedMet enc C.prog fn (OpenSpec.ofChange s) apart w args) (s.post enc C.prog fn apart fresh handsOn again):=by
 refine returnsInHanded_of_calls own started noInit witness ?_;intro w tape i _ hsh _ hok hpre hholds;obtain⟨_,_,_,fn',hfn',_,_,_,_,hval⟩:=hok;have e:fn'=fn:=Option.some.inj (hfn'.symm.trans hfn);subst e;obtain⟨⟨⟨ds,gs,before,hw,hc⟩,hx⟩,hz⟩:=hpre;have hw':=DataW.Whole.of_heap (w':=w.forCall tape i) (by rfl) hw;refine(contract (w.forCall tape i) w.heap.size i.args ds gs before hsh hval hw' hc (hz.weights hw) (hX _ _ _ (by rfl) hx) hholds).mono fun e W' ⟨v,he,hp⟩=>?_;subst he;exact ChangeSpec.post_blind hp
theorem maxl_of{W:World}(h:W.ShapedOpen Tryz.prog):MaxL W:=
 cell_of_shapedOpen_int (t:=3) (zero:= #[.int .i64 0]) h (of_decide_eq_true (by kernel_rfl)) (by kernel_rfl) rfl (by kernel_rfl) (by kernel_rfl) Tryz.underlying3
theorem asp_of{W:World}{rest:List (String×DataW Unit)}(h:laidMet Tryz.prog (("strings.asciiSpace",Rows.laid_strings_asciiSpace)::rest) W):Asp W:=
 Lib.tabIs_of_head (g:=0) (by kernel_rfl) (by kernel_rfl) (show Tryz.prog.underlying 121=_ from Tryz.underlying121) Tryz.underlying5 (by kernel_rfl) (by kernel_rfl) h
end Go.Proofs.YtgiadjbiimkbiaaGreatDoor
namespace Go.AM
open Go.ChangeShapes Go.WideShapes Go.ChangeAt Go.RowKit
section
variable {P:Program} {H:Type} {enc:TypeId×Value->H} {W:World} {α:Type}
structure RowOf(P:Program)(enc:TypeId×Value->H)(W:World)(e:TypeId)(es:Nat)(el:α->List Value)(inv:α->Prop):Prop where
 size:P.cellsOf e=es
 pos:0<es
 len:∀x,(el x).length=es
 live:∀x,inv x->allLive ((el x).map qG)=true
 cell:∀(n:Nat) (cs:List Value) (y:DataW H×List MemPlace),DataW.trod enc P W 0 (fun _=>true) true n e cs=some y->∃x,cs=el x/\inv x
theorem qgF{el:α->List Value}{inv:α->Prop}{es:Nat}{a:Addr}:∀(len:Nat),(∀i,i<len->∃x:α,inv x/\∀j,j<es->W.cell? (a.add (i*es+j))=(el x)[j]?)->
 ∃l:List α,l.length=len/\(∀x∈l,inv x)/\∀i (hi:i<l.length),∀j,j<es->W.cell? (a.add (i*es+j))=(el l[i])[j]?
 |0,_=>⟨[],rfl,by simp,fun i hi=>by simp at hi⟩
 |n+1,h=>by
  obtain⟨l,h1,h2,h3⟩:=qgF n fun i hi=>h i (by omega);obtain⟨x,hx,hc⟩:=h n (by omega);refine⟨l++[x],by simp[h1],?_,fun i hi j hj=>?_⟩
  ·intro y hy
   rcases JR.1 hy with hy|hy
   ·exact h2 y hy
   ·rw[VM.1 hy];exact hx
  ·by_cases hin:i<l.length
   ·rw[List.getElem_append_left hin]
    exact h3 i hin j hj
   ·have e:i=n:=by simp at hi;omega
    subst e;have:(l++[x])[i]=x:=by rw[List.getElem_append_right (by omega)];simp
    rw[this];exact hc j hj
theorem qcm{el:α->List Value}{inv:α->Prop}{es:Nat}(hes:0<es)(hlen:∀x,(el x).length=es)(hlive:∀x,inv x->allLive ((el x).map qG)=true){b o cap:Nat}{l:List α}(hi:∀x∈l,inv x)(hcap:l.length<=cap)
 (hc:∀i (hi:i<l.length),∀j,j<es->W.cell? ((⟨b,o,none⟩:Addr).add (i*es+j))=(el l[i])[j]?):
 IsL W (fun _=>none) es (.slice (.base b) o l.length (.exact cap)) (l.map fun x=>(el x).map qG):=by
 have hw:∀x∈l.map (fun x=>(el x).map qG),x.length=es:=by
  intro x hx;obtain⟨y,_,rfl⟩:=JP.1 hx;rw[Jo,hlen]
 refine .mk _ _ _ _ _ (by rw[Jo]) hw ?_ (Yz.2 fun x hx=>by obtain⟨y,hy,rfl⟩:=JP.1 hx;exact hlive y (hi y hy)) hcap;apply List.ext_getElem?;intro q;by_cases hq:q<l.length*es
 ·rw[UA _ _ _ _ _ _ hq]
  have hm:q%es<es:=Nat.mod_lt _ hes;have hd:q / es<l.length:=Nat.div_lt_of_lt_mul (by rw[EU];exact hq);have hqe:q=q / es*es+q%es:=by rw[EU];exact(Nat.div_add_mod q es).symm
  have hcell:=hc (q / es) hd (q%es) hm;rw[<-hqe]at hcell;have ea:(⟨b,o,none⟩:Addr).add q=⟨b,o+q,none⟩:=by by_cases e:q=0<;>simp[Addr.add,e]
  rw[ea,JH (by rw[hlen];exact hm)]at hcell;have h2:=qhJ hw (i:=q / es) (j:=q%es) (by rw[Jo];exact hd) hm;rw[<-hqe]at h2;rw[h2,List.getD_eq_getElem?_getD,VE,JH hd,KJ,Option.getD_some,VE,JH (by rw[hlen];exact hm),KJ];have hlt:b<W.heap.size:=qey hcell;simp only[AM.rd,hlt,if_true,hcell]
 ·rw[Kr (by rw[WL];omega),Kr (by rw[XT hw,Jo];omega)]
theorem qgB{e t:TypeId}{es:Nat}{el:α->List Value}{inv:α->Prop}(R:RowOf P enc W e es el inv)(ht:P.underlying t=some (.slice e)){n:Nat}{cs:List Value}{y:DataW H×List MemPlace}(h:DataW.trod enc P W 0 (fun _=>true) true n t cs=some y):
 ∃(v:Value) (l:List α),cs=[v]/\IsL W (fun _=>none) es (qG v) (l.map fun x=>(el x).map qG)/\l.length<=9223372036854775807/\∀x∈l,inv x:=by
 rcases DataW.trod_slice ht h with⟨hcs,_⟩|⟨a,len,cap,elems,rest,n',_,hcs,_,_,hlc,hcm,hel,hcell,hspare,_⟩
 ·exact⟨_,[],hcs, .nil,by simp,by simp⟩
 ·have hlen:len<=9223372036854775807:=Vd hlc hcm
  have one:∀(m i:Nat) (q:Option (DataW H×List MemPlace)),(W.cells? 0 (a.add (i*P.cellsOf e)) (P.cellsOf e)).bind (DataW.trod enc P W 0 (fun _=>true) true m e)=q->q.isSome=true->∃x:α,inv x/\∀j,j<es->W.cell? (a.add (i*es+j))=(el x)[j]?:=by
   intro m i q hq hs;cases q with
   |none=>cases hs
   |some z=>
    rw[EW]at hq;obtain⟨cs',hcs',hy⟩:=hq;obtain⟨x,rfl,hx⟩:=R.cell _ _ _ hy;rw[R.size]at hcs';refine⟨x,hx,fun j hj=>?_⟩;have:=(World.cells?_some hcs').2.2 j hj;rw[<-this];congr 1;obtain⟨ab,ao,asp⟩:=a;by_cases e1:i*es=0<;>by_cases e2:j=0<;>simp[Addr.add,e1,e2,Kw]
  obtain⟨l,l1,l2,l3⟩:=qgF (W:=W) (el:=el) (inv:=inv) (es:=es) (a:=a) len fun i hi=>one n' i _ (hcell i hi) (by rw[JH (by omega)];rfl);have spot:∀(x:α),(∀j,j<es->W.cell? (a.add (0*es+j))=(el x)[j]?)->a.spot=none:=by
   intro x hx;have h0:=hx 0 R.pos;rw[JH (by rw[R.len];exact R.pos)]at h0;have:=World.cell?_spot h0
   rwa [Addr.add,if_pos (by rw[K8])]at this
  refine⟨.slice (some a) len cap,l,hcs,?_,by omega,l2⟩;subst l1;obtain⟨ab,ao,asp⟩:=a;by_cases hc0:cap=0
  ·have hl0:l=[]:=Kg (by omega)
   subst hl0;subst hc0;cases asp with
   |none=>exact qcm (l:=([]:List α)) (inv:=inv) R.pos R.len R.live (fun x hx=>by cases hx) (KM _) fun i hi=>absurd hi (EX i)
   |some s=>exact qcm (l:=([]:List α)) (inv:=inv) R.pos R.len R.live (fun x hx=>by cases hx) (KM _) fun i hi=>absurd hi (EX i)
  ·have hs:asp=none:=by
    by_cases hl0:l.length=0
    ·obtain⟨r1,r2⟩:=hspare rfl
     obtain⟨x,_,hx⟩:=one n' l.length _ (r2 0 (by omega)) (by rw[JH (by omega)];rfl);rw[hl0]at hx;exact spot x hx
    ·exact spot _ (l3 0 (by omega))
   subst hs;exact qcm (inv:=inv) R.pos R.len R.live l2 hlc l3
end
end Go.AM
namespace Go.Proofs.YtgiadjbiimkbiaaGreatDoor
open Go.AM
open Go.ChangeShapes Go.WideShapes Go.ChangeAt Go.RowKit
set_option maxRecDepth 100000
section
variable {H:Type} {enc:TypeId×Value->H} {W:World} {base:Nat} {v:Value} {x:DataW H×List MemPlace}
def byteV(b:UInt8):List Value:=[.int .u8 b.toNat]
theorem qnS:RowOf Tryz.prog enc W 5 1 byteV (fun _=>True):=by
 refine⟨by kernel_rfl,by decide,fun _=>rfl,fun _ _=>rfl,fun n cs y h=>?_⟩;obtain⟨a,e0,_,w0⟩:=DataW.trod_int Tryz.underlying5 h;subst e0;obtain⟨a0,a1⟩:=wf_u8 w0;refine⟨KE a.toNat,?_,trivial⟩;unfold byteV;have:((KE a.toNat).toNat:Int)=a:=by
  rw[EY,EZ (by omega)];omega
 rw[this]
end
end Go.Proofs.YtgiadjbiimkbiaaGreatDoor
namespace Go.AM
open Go.ChangeShapes Go.WideShapes Go.ChangeAt Go.RowKit
section
variable {P:Program} {H:Type} {enc:TypeId×Value->H} {W:World} {α:Type}
structure RowOfN(P:Program)(enc:TypeId×Value->H)(W:World)(e:TypeId)(es:Nat)(el:α->List Value)(inv:α->Prop)(Q:DataW H->Prop)(N:Nat):Prop where
 size:P.cellsOf e=es
 pos:0<es
 len:∀x,(el x).length=es
 live:∀x,inv x->allLive ((el x).map qG)=true
 cell:∀(n:Nat),n<=N->∀(cs:List Value) (y:DataW H×List MemPlace),DataW.trod enc P W 0 (fun _=>true) true n e cs=some y->Q y.1->∃x,cs=el x/\inv x
theorem qeZ{Q:DataW H->Prop}{N M:Nat}{e t:TypeId}{es:Nat}{el:α->List Value}{inv:α->Prop}(R:RowOfN P enc W e es el inv Q N)(ht:P.underlying t=some (.slice e)){n:Nat}(hn:n<=N+1){cs:List Value}{y:DataW H×List MemPlace}(h:DataW.trod enc P W 0 (fun _=>true) true n t cs=some y)(hQ:∀els sp,y.1= .slice els sp->els.length<=M/\(∀d∈els,Q d)/\∀d∈sp,Q d):
 ∃(v:Value) (l:List α),cs=[v]/\IsL W (fun _=>none) es (qG v) (l.map fun x=>(el x).map qG)/\l.length<=M/\∀x∈l,inv x:=by
 rcases DataW.trod_slice ht h with⟨hcs,_⟩|⟨a,len,cap,elems,rest,n',hnn,hcs,hy0,_,hlc,hcm,hel,hcell,hspare,_⟩
 ·exact⟨_,[],hcs, .nil,by simp,by simp⟩
 ·obtain⟨hM,hq⟩:=hQ (elems.map (·.1)) (rest.map (·.1)) (by rw[hy0])
  rw[Jo]at hM;have hn':n'<=N:=by omega
  have hlen:len<=9223372036854775807:=Vd hlc hcm;have one:∀(m i:Nat),m<=N->∀(q:Option (DataW H×List MemPlace)),(W.cells? 0 (a.add (i*P.cellsOf e)) (P.cellsOf e)).bind (DataW.trod enc P W 0 (fun _=>true) true m e)=q->q.isSome=true->(∀z,q=some z->Q z.1)->∃x:α,inv x/\∀j,j<es->W.cell? (a.add (i*es+j))=(el x)[j]?:=by
   intro m i hmN q hq hs hqq;cases q with
   |none=>cases hs
   |some z=>
    rw[EW]at hq;obtain⟨cs',hcs',hy⟩:=hq;obtain⟨x,rfl,hx⟩:=R.cell _ hmN _ _ hy (hqq z rfl);rw[R.size]at hcs';refine⟨x,hx,fun j hj=>?_⟩;have:=(World.cells?_some hcs').2.2 j hj;rw[<-this];congr 1;obtain⟨ab,ao,asp⟩:=a;by_cases e1:i*es=0<;>by_cases e2:j=0<;>simp[Addr.add,e1,e2,Kw]
  obtain⟨l,l1,l2,l3⟩:=qgF (W:=W) (el:=el) (inv:=inv) (es:=es) (a:=a) len fun i hi=>one n' i hn' _ (hcell i hi) (by rw[JH (by omega)];rfl) (fun z hz=>hq.1 _ (JP.2 ⟨z,JK hz,rfl⟩));have spot:∀(x:α),(∀j,j<es->W.cell? (a.add (0*es+j))=(el x)[j]?)->a.spot=none:=by
   intro x hx;have h0:=hx 0 R.pos;rw[JH (by rw[R.len];exact R.pos)]at h0;have:=World.cell?_spot h0
   rwa [Addr.add,if_pos (by rw[K8])]at this
  refine⟨.slice (some a) len cap,l,hcs,?_,by omega,l2⟩;subst l1;obtain⟨ab,ao,asp⟩:=a;by_cases hc0:cap=0
  ·have hl0:l=[]:=Kg (by omega)
   subst hl0;subst hc0;cases asp with
   |none=>exact qcm (l:=([]:List α)) (inv:=inv) R.pos R.len R.live (fun x hx=>by cases hx) (KM _) fun i hi=>absurd hi (EX i)
   |some s=>exact qcm (l:=([]:List α)) (inv:=inv) R.pos R.len R.live (fun x hx=>by cases hx) (KM _) fun i hi=>absurd hi (EX i)
  ·have hs:asp=none:=by
    by_cases hl0:l.length=0
    ·obtain⟨r1,r2⟩:=hspare rfl
     obtain⟨x,_,hx⟩:=one n' l.length hn' _ (r2 0 (by omega)) (by rw[JH (by omega)];rfl) (fun z hz=>hq.2 _ (JP.2 ⟨z,JK hz,rfl⟩));rw[hl0]at hx;exact spot x hx
    ·exact spot _ (l3 0 (by omega))
   subst hs;exact qcm (inv:=inv) R.pos R.len R.live l2 hlc l3
def Wt(P:Program)(t:TypeId)(d:DataW H):Prop:=∀k∈d.weights P t,k<=reachBytes
theorem qok{e:TypeId}:∀{l:List (DataW H)} {d:DataW H},d∈l->∀n∈d.weights P e,n∈DataW.weightsAll P e l
 |[],_,h,_,_=>by cases h
 |x::l,d,h,n,hn=>by
  rw[DataW.weightsAll];rcases List.mem_cons.1 h with rfl|h
  ·exact JR.2 (.inl hn)
  ·exact JR.2 (.inr (qok h n hn))
theorem qip{t e:TypeId}(ht:P.underlying t=some (.slice e)){els sp:List (DataW H)}(h:Wt P t (.slice els sp)):(els.length+sp.length)*P.bytesOf e<=reachBytes/\(∀d∈els,Wt P e d)/\∀d∈sp,Wt P e d:=by
 unfold Wt at h;rw[DataW.weights,ht]at h;simp only at h;refine⟨h _ List.mem_cons_self,fun d hd n hn=>h n ?_,fun d hd n hn=>h n ?_⟩
 ·exact Jg _ (JR.2 (.inl (qok hd n hn)))
 ·exact Jg _ (JR.2 (.inr (qok hd n hn)))
theorem wt_each:∀{ts:List TypeId} {ds:List (DataW H)},(∀k∈DataW.weightsEach P ts ds,k<=reachBytes)->∀{i:Nat} {t:TypeId} {d:DataW H},ts[i]?=some t->ds[i]?=some d->Wt P t d
 |[],_,_,i,t,d,h,_=>by cases h
 |t0::ts,[],_,i,t,d,_,h=>by cases h
 |t0::ts,d0::ds,hw,i,t,d,h1,h2=>by
  rw[DataW.weightsEach]at hw;cases i with
  |zero=>
   cases h1;cases h2;exact fun k hk=>hw k (JR.2 (.inl hk))
  |succ i=>exact wt_each (fun k hk=>hw k (JR.2 (.inr hk))) h1 h2
theorem qgv{t:TypeId}{fs:Array Field}(ht:P.underlying t=some (.struct fs)){parts:List (DataW H)}(h:Wt P t (.agg parts)){i:Nat}{u:TypeId}{d:DataW H}(hu:(fs.toList.map (·.type))[i]?=some u)(hd:parts[i]?=some d):Wt P u d:=by
 unfold Wt at h;rw[DataW.weights,ht]at h;simp only at h;exact wt_each h hu hd
end
end Go.AM
namespace Go.Proofs.YtgiadjbiimkbiaaGreatDoor
open Go.AM
open Go.Stm
open Go.ChangeShapes Go.WideShapes Go.ChangeAt Go.RowKit
set_option maxRecDepth 100000
theorem XsV.up{wz:World}{h:AHeap}:∀{d:Nat} {v:AVal} {l:List XC},XsV wz d h v l->XsV wz (d+1) h v l
 |0,_,_,hp=>⟨[],hp.1,hp.2,fun q hq=>by cases hq⟩
 |d+1,_,_,⟨qs,e,a,b⟩=>⟨qs,e,a,fun q hq=>⟨(b q hq).1,(b q hq).2.mono (AM.Sub.refl _) fun _ _=>XsV.up⟩⟩
theorem XsV.le{wz:World}{h:AHeap}{d d':Nat}{v:AVal}{l:List XC}(hp:XsV wz d h v l)(hd:d<=d'):XsV wz d' h v l:=by
 induction hd with
 |refl=>exact hp
 |step _ ih=>exact ih.up
section
variable {H:Type} {enc:TypeId×Value->H} {W:World} {base:Nat} {v:Value} {x:DataW H×List MemPlace}
theorem byte_of{a:Int}(h:(Lit.int .u8 a).wf=true):((KE a.toNat).toNat:Int)=a:=by
 obtain⟨a0,a1⟩:=wf_u8 h;rw[EY,EZ (by omega)];omega
def yV(q:YC×Value):List Value:=[.int .u8 q.1.form.toNat,q.2, .int .u8 q.1.short.toNat]
def zV(q:ZC×Value×Value):List Value:=[.int .u8 q.1.1.toNat,q.2.1,q.2.2, .int .u8 q.1.2.2.2.toNat]
def xV(q:XC×Value×Value):List Value:=[.int .u8 q.1.verb.toNat,q.2.1,q.2.2, .bool q.1.cut]
theorem y_row:RowOf Tryz.prog enc W 34 3 yV (fun q=>IsL W (fun _=>none) 1 (qG q.2) (q.1.ops.map u8C)):=by
 refine⟨by kernel_rfl,by decide,fun _=>rfl,fun q hq=>?_,fun n cs y h=>?_⟩
 ·show(true && ((qG q.2).live && (true && true)))=true
  rw[hq.live];rfl
 ·obtain⟨xs,n',_,hy,hl,hlen,hf⟩:=DataW.trod_struct Tryz.underlying34 h
  rw[show Tryz.prog.cellsOf 34=3 by kernel_rfl]at hl;match cs,hl,xs,hlen with
  |[c0,c1,c2],_,[x0,x1,x2],_=>
   have h0:DataW.trod enc Tryz.prog W 0 (fun _=>true) true n' 5 (([c0,c1,c2].drop 0).take (Tryz.prog.cellsOf 5))=some x0:=hf 0 _ rfl;have h1:DataW.trod enc Tryz.prog W 0 (fun _=>true) true n' 32 (([c0,c1,c2].drop 1).take (Tryz.prog.cellsOf 32))=some x1:=hf 1 _ rfl;have h2:DataW.trod enc Tryz.prog W 0 (fun _=>true) true n' 5 (([c0,c1,c2].drop 2).take (Tryz.prog.cellsOf 5))=some x2:=hf 2 _ rfl;simp only[show Tryz.prog.cellsOf 5=1 by kernel_rfl,show Tryz.prog.cellsOf 32=1 by kernel_rfl,Vm,Vw,Ki,V4]at h0 h1 h2;obtain⟨a,e0,_,w0⟩:=DataW.trod_int Tryz.underlying5 h0;obtain⟨v1,l1,e1,hL,_,_⟩:=qgB qnS Tryz.underlying32 h1;obtain⟨b,e2,_,w2⟩:=DataW.trod_int Tryz.underlying5 h2;simp only[List.cons.injEq,and_true]at e0 e1 e2;subst e0 e1 e2;exact⟨(⟨KE a.toNat,l1,KE b.toNat⟩,c1),by simp only[yV,byte_of w0,byte_of w2],hL⟩
theorem ys_rows{n:Nat}{cs:List Value}{y:DataW H×List MemPlace}(h:DataW.trod enc Tryz.prog W 0 (fun _=>true) true n 28 cs=some y):∃(v:Value) (l:List YC),cs=[v]/\YsV W (fun _=>none) (qG v) l/\∀M:Nat,(∀els sp,y.1= .slice els sp->els.length<=M)->l.length<=M:=by
 have hR:RowOfN Tryz.prog enc W 34 3 yV (fun q=>IsL W (fun _=>none) 1 (qG q.2) (q.1.ops.map u8C)) (fun _=>True) n:=by
  have hr:=y_row (enc:=enc) (W:=W);exact⟨hr.size,hr.pos,hr.len,hr.live,fun n _ cs y h _=>hr.cell n cs y h⟩
 obtain⟨v,l,e,hL,_,hi⟩:=qgB y_row Tryz.underlying28 h;refine⟨v,l.map (·.1),e,⟨l.map fun q=>(q.1,qG q.2),by rw[EF];rfl,by rw[EF];exact hL,fun q hq=>?_⟩,fun M hM=>?_⟩
 ·obtain⟨p,hp,rfl⟩:=JP.1 hq
  exact hi p hp
 ·obtain⟨v2,l2,e2,hL2,hl2,_⟩:=qeZ (M:=M) hR Tryz.underlying28 (Nat.le_succ n) h (fun els sp hy=>⟨hM els sp hy,fun _ _=>trivial,fun _ _=>trivial⟩)
  rw[e]at e2;simp only[List.cons.injEq,and_true]at e2;subst e2;have h1:=hL.len (P:=Tryz.prog) Tryz.underlying28 (fun _=>none);have h2:=hL2.len (P:=Tryz.prog) Tryz.underlying28 (fun _=>none);rw[h1]at h2;simp only[PR.mk.injEq,Kb,AVal.int.injEq,Jo]at h2;rw[Jo];omega
abbrev capN:Nat:=140737488355328
def XsP(enc:TypeId×Value->H)(W:World)(n:Nat):Prop:=∀(cs:List Value) (y:DataW H×List MemPlace),DataW.trod enc Tryz.prog W 0 (fun _=>true) true n 35 cs=some y->Wt Tryz.prog 35 y.1->∃(v:Value) (l:List XC),cs=[v]/\XsV W n (fun _=>none) (qG v) l/\∀f,LenX capN f l
theorem qly{e:TypeId}{t:TypeId}(ht:Tryz.prog.underlying t=some (.slice e))(hb:0<Tryz.prog.bytesOf e){d:DataW H}(h:Wt Tryz.prog t d):∀els sp,d= .slice els sp->els.length<=capN:=fun els sp e0=>by
 subst e0;obtain⟨h1,_⟩:=qip ht h;have h2:els.length+sp.length<=(els.length+sp.length)*Tryz.prog.bytesOf e:=Nat.le_mul_of_pos_right _ hb;have h3:reachBytes<=capN:=by decide
 omega
theorem z_row(N:Nat)(ih:∀m,m<=N->XsP enc W m):RowOfN Tryz.prog enc W 37 4 zV (fun q=>IsL W (fun _=>none) 1 (qG q.2.1) (q.1.2.1.map u8C)/\XsV W N (fun _=>none) (qG q.2.2) q.1.2.2.1/\∀f,LenX capN f q.1.2.2.1) (Wt Tryz.prog 37) N:=by
 refine⟨by kernel_rfl,by decide,fun _=>rfl,fun q hq=>?_,fun n hn cs y h hQ=>?_⟩
 ·show(true && ((qG q.2.1).live && ((qG q.2.2).live && (true && true))))=true
  rw[hq.1.live,hq.2.1.shape.1];rfl
 ·obtain⟨xs,n',hnn,hy,hl,hlen,hf⟩:=DataW.trod_struct Tryz.underlying37 h
  rw[show Tryz.prog.cellsOf 37=4 by kernel_rfl]at hl;match cs,hl,xs,hlen with
  |[c0,c1,c2,c3],_,[x0,x1,x2,x3],_=>
   have h0:DataW.trod enc Tryz.prog W 0 (fun _=>true) true n' 5 (([c0,c1,c2,c3].drop 0).take (Tryz.prog.cellsOf 5))=some x0:=hf 0 _ rfl;have h1:DataW.trod enc Tryz.prog W 0 (fun _=>true) true n' 32 (([c0,c1,c2,c3].drop 1).take (Tryz.prog.cellsOf 32))=some x1:=hf 1 _ rfl;have h2:DataW.trod enc Tryz.prog W 0 (fun _=>true) true n' 35 (([c0,c1,c2,c3].drop 2).take (Tryz.prog.cellsOf 35))=some x2:=hf 2 _ rfl;have h3:DataW.trod enc Tryz.prog W 0 (fun _=>true) true n' 5 (([c0,c1,c2,c3].drop 3).take (Tryz.prog.cellsOf 5))=some x3:=hf 3 _ rfl;simp only[show Tryz.prog.cellsOf 5=1 by kernel_rfl,show Tryz.prog.cellsOf 32=1 by kernel_rfl,show Tryz.prog.cellsOf 35=1 by kernel_rfl,Vm,Vw,Ki,V4]at h0 h1 h2 h3;obtain⟨a,e0,_,w0⟩:=DataW.trod_int Tryz.underlying5 h0;obtain⟨v1,l1,e1,hL,_,_⟩:=qgB qnS Tryz.underlying32 h1;obtain⟨b,e3,_,w3⟩:=DataW.trod_int Tryz.underlying5 h3;have hw2:Wt Tryz.prog 35 x2.1:=by
    rw[hy]at hQ;exact qgv (i:=2) Tryz.underlying37 hQ rfl rfl
   obtain⟨v2,l2,e2,hX,hLx⟩:=ih n' (by omega) _ _ h2 hw2;simp only[List.cons.injEq,and_true]at e0 e1 e2 e3;subst e0 e1 e2 e3;exact⟨((KE a.toNat,l1,l2,KE b.toNat),c1,c2),by simp only[zV,byte_of w0,byte_of w3],hL,hX.le (by omega),hLx⟩
theorem x_row(N:Nat)(ih:∀m,m<=N->XsP enc W m):RowOfN Tryz.prog enc W 31 4 xV (fun q=>YsV W (fun _=>none) (qG q.2.1) q.1.p/\ZsV W (XsV W N (fun _=>none)) (fun _=>none) (qG q.2.2) q.1.b/\q.1.p.length<=capN/\q.1.b.length<=capN/\∀z∈q.1.b,∀f,LenX capN f z.2.2.1) (Wt Tryz.prog 31) N:=by
 refine⟨by kernel_rfl,by decide,fun _=>rfl,fun q hq=>?_,fun n hn cs y h hQ=>?_⟩
 ·show(true && ((qG q.2.1).live && ((qG q.2.2).live && (true && true))))=true
  rw[hq.1.shape.1,hq.2.1.shape.1];rfl
 ·obtain⟨xs,n',hnn,hy,hl,hlen,hf⟩:=DataW.trod_struct Tryz.underlying31 h
  rw[show Tryz.prog.cellsOf 31=4 by kernel_rfl]at hl;match cs,hl,xs,hlen with
  |[c0,c1,c2,c3],_,[x0,x1,x2,x3],_=>
   have h0:DataW.trod enc Tryz.prog W 0 (fun _=>true) true n' 5 (([c0,c1,c2,c3].drop 0).take (Tryz.prog.cellsOf 5))=some x0:=hf 0 _ rfl;have h1:DataW.trod enc Tryz.prog W 0 (fun _=>true) true n' 28 (([c0,c1,c2,c3].drop 1).take (Tryz.prog.cellsOf 28))=some x1:=hf 1 _ rfl;have h2:DataW.trod enc Tryz.prog W 0 (fun _=>true) true n' 29 (([c0,c1,c2,c3].drop 2).take (Tryz.prog.cellsOf 29))=some x2:=hf 2 _ rfl;have h3:DataW.trod enc Tryz.prog W 0 (fun _=>true) true n' 4 (([c0,c1,c2,c3].drop 3).take (Tryz.prog.cellsOf 4))=some x3:=hf 3 _ rfl;simp only[show Tryz.prog.cellsOf 5=1 by kernel_rfl,show Tryz.prog.cellsOf 4=1 by kernel_rfl,show Tryz.prog.cellsOf 28=1 by kernel_rfl,show Tryz.prog.cellsOf 29=1 by kernel_rfl,Vm,Vw,Ki,V4]at h0 h1 h2 h3;obtain⟨a,e0,_,w0⟩:=DataW.trod_int Tryz.underlying5 h0;obtain⟨b,e3,_⟩:=DataW.trod_bool Tryz.underlying4 h3;rw[hy]at hQ;have hw1:Wt Tryz.prog 28 x1.1:=qgv (i:=1) Tryz.underlying31 hQ rfl rfl;have hw2:Wt Tryz.prog 29 x2.1:=qgv (i:=2) Tryz.underlying31 hQ rfl rfl;obtain⟨v1,l1,e1,hY,hYl⟩:=ys_rows h1;have hYl':=hYl capN (qly Tryz.underlying28 (by decide+kernel) hw1);obtain⟨v2,l2,e2,hL2,hl2,hi2⟩:=qeZ (M:=capN) (z_row N ih) Tryz.underlying29 (by omega) h2 (fun els sp he=>by
    refine⟨qly Tryz.underlying29 (by decide+kernel) hw2 els sp he,?_⟩;rw[he]at hw2;exact(qip Tryz.underlying29 hw2).2)
   simp only[List.cons.injEq,and_true]at e0 e1 e2 e3;subst e0 e1 e2 e3;refine⟨(.mk (KE a.toNat) l1 (l2.map (·.1)) b,c1,c2),by simp only[xV,XC.verb,XC.cut,byte_of w0],hY,?_,hYl',by show(l2.map (·.1)).length<=_;rw[Jo];exact hl2,fun z hz=>?_⟩
   ·refine⟨l2.map fun q=>(q.1,qG q.2.1,qG q.2.2),by rw[EF];rfl,by rw[EF];exact hL2,fun q hq=>?_⟩
    obtain⟨p,hp,rfl⟩:=JP.1 hq;exact⟨(hi2 p hp).1,(hi2 p hp).2.1⟩
   ·obtain⟨p,hp,rfl⟩:=JP.1 hz
    exact(hi2 p hp).2.2
theorem xs_all:∀n,XsP enc W n:=fun n=>by
 induction n using Nat.strongRecOn with
 |ind n ihn=>
  intro cs y h hw;cases n with
  |zero=>simp[DataW.trod]at h
  |succ n=>
   obtain⟨v,l,e,hL,hl,hi⟩:=qeZ (M:=capN) (x_row n fun m hm=>ihn m (by omega)) Tryz.underlying35 (KM _) h (fun els sp he=>by
    refine⟨qly Tryz.underlying35 (by decide+kernel) hw els sp he,?_⟩;rw[he]at hw;exact(qip Tryz.underlying35 hw).2)
   refine⟨v,l.map (·.1),e,⟨l.map fun q=>(q.1,qG q.2.1,qG q.2.2),by rw[EF];rfl,by rw[EF];exact hL,fun q hq=>?_⟩,fun f=>?_⟩
   ·obtain⟨p,hp,rfl⟩:=JP.1 hq
    exact⟨(hi p hp).1,(hi p hp).2.1⟩
   ·cases f with
    |zero=>exact⟨by rw[Jo];exact hl,fun x hx=>by obtain⟨p,hp,rfl⟩:=JP.1 hx;exact⟨(hi p hp).2.2.1,(hi p hp).2.2.2.1⟩⟩
    |succ f=>exact⟨by rw[Jo];exact hl,fun x hx=>by obtain⟨p,hp,rfl⟩:=JP.1 hx;exact⟨(hi p hp).2.2.1,(hi p hp).2.2.2.1,fun z hz=>(hi p hp).2.2.2.2 z hz f⟩⟩
theorem arg_Xs(h:∃fuel,DataW.trod enc Tryz.prog W 0 (fun _=>true) true fuel 35 v.cells.toList=some x)(hv:Value.okWide Tryz.prog W .any base 35 v)(hw:Wt Tryz.prog 35 x.1):
 ∃(l:List XC) (d:Nat) (y:AVal),VR (fun _=>none) y v/\XsV W d (fun _=>none) y l/\∀f,LenX 140737488355328 f l:=by
 obtain⟨fuel,h2⟩:=h;obtain⟨a0,len0,cap0,rfl⟩:=okWide_slice Tryz.underlying35 hv;have h2':DataW.trod enc Tryz.prog W 0 (fun _=>true) true fuel 35 [.slice a0 len0 cap0]=some x:=h2;obtain⟨v',l,hcs,hX,hL⟩:=xs_all fuel _ _ h2' hw;simp only[List.cons.injEq,and_true]at hcs;subst hcs;exact⟨l,fuel,_,qin _ _,hX,hL⟩
end
end Go.Proofs.YtgiadjbiimkbiaaGreatDoor
