/-
  Texts of this proof, joined: SoL, SoM, SoN, SoO, SoP, SoQ, SoR, SoS, SpA, SpB, SpC, SpD, SqA, SqC, SqD, BmG.
  Conditions: none.
-/
import Derived.Test.YtgiadjbiimkbiaaDoorEd
import Derived.Test.YtgiadjbiimkbiaaDoorEc
import Derived.Recover
import Derived.Test.YtgiadjbiimkbiaaDoorEb
set_option linter.unusedSimpArgs false
set_option linter.unnecessarySimpa false
set_option linter.unusedVariables false
open List renaming mem_cons_self->Je,flatten_cons->Vm,set_cons_zero->VF,mem_cons_of_mem->Jf,set_cons_succ->Kj,getD->Ko,getElem?_eq_getElem->JB,length_cons->KX,getElem_mem->Vr,length_set->BR,mem_or_eq_of_mem_set->BS,length_append->Jb,length_singleton->JF,map_append->VZ,length_map->Jn,contains_cons->VC,contains_nil->VD,getD_cons_zero->VG,getD_cons_succ->Kn,length_nil->JD,take_succ_cons->Ki,take_zero->Bj,mem_append->JS,mem_singleton->V4,mem_map->JI,map_set->BV,drop_succ_cons->Ba,drop_zero->Vk,cons_append->Kh,size_toArray->KC,range_eq_range'->BX,getElem?_append_left->BZ,mem_cons->KW,map_cons->Ke,map_nil->Vh,nil_append->Jd,drop_eq_getElem_cons->J9,mem_map_of_mem->Ec,drop_length->J8,drop_of_length_le->Bl,take_add_one->VY,length_take->K4,take_length->Jo,length_reverse->Ed,range->KP,all_eq_true->Jz,mem_range->JA,getElem?_drop->Kq,drop_drop->Eg,getElem?_eq_some_iff->Jw
open Nat renaming zero_add->Jp,succ_mul->Vn,add_assoc->Kw,zero_le->Jq,add_zero->K6,le_of_not_lt->Kt,mul_div_cancel->Vj,pos_of_ne_zero->Vi,lt_or_ge->KT,le_of_ble_eq_true->Vy,le_trans->Vb,mul_one->V6,le_refl->KL,lt_of_not_le->J2,eq_or_lt_of_le->Jy
open Bool renaming and_eq_true->Ky,and_true->J4,or_eq_true->JH,not_eq_true'->Jh,and_eq_false_iff->VH,or_eq_false_iff->VI,not_eq_false'->VJ,true_and->VO,true_eq->VV,false_eq->VW,not_not->VK,not_false->VL,not_true->VM,and_false->VN,false_and->VP,or_true->VQ,or_false->VS,true_or->VT,false_or->VU
open Go.AM.GrowV renaming new->BU
open Go.AM.Slots renaming put->Vz,get->VA,keep->VB
open Go.AM.AVal renaming cells->VE
open Go.AM.AHeap renaming set_ne->Ve,set_none->V7,ne_some->BG,set_set->Bi,set_same->Vf,del->Bu
open Go.AM.Awp renaming forget->BJ
open Go.AM.Sub renaming refl->Vg,trans->Bq,none->Bh,set->V8
open Go.AM.Sep renaming fold->BK,lay->Eb
open Int renaming toNat_natCast->VX,ofNat_le->Ef
open Go.Proofs.YtgiadjbiimkbiaaDoor.StsV renaming mono->BL
open Go.AM.PMap renaming le_trans->JN
open Array renaming replicate->Ju,getD_eq_getD_getElem?->Ku,getElem?_append->Jv,getD->JC
open Go.Stm.ParseR renaming sent->Ea
open Go.AM.IsL renaming own->V9
open UInt8 renaming le_iff_toNat_le->Ee
namespace Go.AM
theorem qjK{α:Type}{es:Nat}(y:α):∀{xs:List (List α)},(∀x∈xs,x.length=es)->∀(i j:Nat),i<xs.length->j<es->xs.flatten.set (i*es+j) y=(xs.set i ((xs.getD i []).set j y)).flatten
 |[],_,i,j,hi,_=>by simp at hi
 |x::xs,h,0,j,_,hj=>by
  have hx:=h x Je;rw[Vm,Nat.zero_mul,Jp,List.set_append_left _ _ (by omega),VF,Vm];rfl
 |x::xs,h,i+1,j,hi,hj=>by
  have hx:=h x Je;rw[Vm,List.set_append_right _ _ (by rw[Vn];omega),show(i+1)*es+j-x.length=i*es+j by rw[Vn];omega,qjK y (fun z hz=>h z (Jf _ hz)) i j (by simpa using hi) hj,Kj,Vm];rfl
theorem qiv{α:Type}{es:Nat}:∀(ys:List α) {xs:List (List α)},(∀x∈xs,x.length=es)->∀(i j:Nat),i<xs.length->j+ys.length<=es->setAt xs.flatten (i*es+j) ys=(xs.set i (setAt (xs.getD i []) j ys)).flatten
 |[],xs,h,i,j,hi,_=>by
  simp only[setAt];congr 1;rw[Ko,JB hi];exact(List.set_getElem_self hi).symm
 |y::ys,xs,h,i,j,hi,hj=>by
  simp only[KX]at hj;simp only[setAt];have hl:(xs.getD i []).length=es:=by
   rw[Ko,JB hi];exact h _ (Vr hi)
  rw[qjK y h i j hi (by omega),Kw,qiv ys (xs:=xs.set i ((xs.getD i []).set j y)) (fun z hz=>?_) i (j+1) (by rw[BR];exact hi) (by omega),List.set_set]
  ·congr 3
   simp[Ko,hi]
  ·rcases BS hz with hz|hz
   ·exact h z hz
   ·rw[hz,BR];exact hl
theorem GrowV.open_{v:AVal}{p:AHeap}{es:Nat}{xs:List (List AVal)}{x:List AVal}(hg:GrowV es v p (xs++[x]))(hG:isG v=true):
 ∃k,v= .slice (.own k) 0 (xs.length+1) (.grow es)/\p=one k ⟨xs.flatten++x,0⟩/\GrowV es (.slice (.own k) 0 xs.length (.grow es)) (one k ⟨xs.flatten,0⟩) xs:=by
 rcases hg with⟨rfl,_,e⟩|⟨k,c,rfl,hc,rfl,hw,hl⟩
 ·simp at e
 ·have hfl:(xs++[x]).flatten=xs.flatten++x:=by simp
  rw[hfl]at hl|-
  rw[Jb,JF]at hc|-
  rcases hc with rfl|rfl
  ·cases hG
  ·rw[YE,Ky]at hl
   exact⟨k,rfl,rfl,BU rfl (.inr rfl) (fun y hy=>hw y (List.mem_append_left _ hy)) hl.1 rfl⟩
end Go.AM
namespace Go.Proofs.YtgiadjbiimkbiaaDoor
open Go.AM
open Go.Proofs
open Go.Col (Str FaultC okF)
open Go.Tok (TokC)
open Go.Stm
open Go.RowKit (Below)
set_option maxRecDepth 100000
structure CpG where
 m:Nat
 qs:List (PhrC×AVal)
 H:AHeap
theorem qto{w0:World}{h:AHeap}{v:AVal}{l:List PhrC}(hp:PhV w0 h v l):PhV w0 h (Yd v) l:=by
 obtain⟨qs,a,b,c⟩:=hp;exact⟨qs,a,b.clip,c⟩
theorem bd_clip{w0:World}{S:AVal->List StC->Prop}{h:AHeap}{v:AVal}{l:List BodC}(hp:BdV w0 S h v l):BdV w0 S h (Yd v) l:=by
 obtain⟨qs,a,b,c⟩:=hp;exact⟨qs,a,b.clip,c⟩
set_option maxHeartbeats 16000000 in
theorem k_stmC(w0:World)(hm:MaxL w0)(ha:Asp w0)(l:List TokC)(hl:l.length<=65537)(hsh:Short l)(dd:Nat)(hdd:dd<=32)(B:AHeap)(kp ks k4:Nat)(v:AVal)(O0:List Str)(bd ph:Str)(i:Nat)(hF:Fair O0)(hO:O0.length+1=dd)(hvi:isV l i=true)
 (hfo:Xi (l.getD i noT).text=(ph,bd)) (H:AHeap) (ov pv bv:AVal) (op pp tp bp E:AHeap) (c:Cur) (cl:Bool) (j:Nat) (hI:StI w0 l B kp ks k4 qdS v ov pv bv op pp tp bp E (O0++[bd]) (32-dd) c j H) (hij:i<j) (hR:LoopRO l dd (O0++[bd]) ph (qbM l i) (i+1) (.ok (c,cl) j)):
 Awp Tryd.prog w0 ⟨201,[],GP w0 201 [] [] (qiY B fun f=>StRO l dd O0 i (.bad f))⟩ (WW 9 (qhD (WW 1 (qcM Tryd.f38)))) (qdB (qcW Tryd.prog w0 [.cell 4 48] (qoa w0 l B kp v O0 dd i))) [(0, .ptr (.own kp) 0),(4, .ptr (.own k4) 0),(5, .int .i64 i),(6, .ptr (.own ks) 0),(9, .bool cl)] (H):=by
 obtain⟨hS,hP,hC,hfew⟩:=hI;have eb_p:H kp=some _:=hS.at_ (i:=1) rfl;have eb_s:H ks=some _:=hS.at_ (i:=3) rfl;have ne_p_s:kp≠ks:=hS.ne (i:=1) (j:=3) rfl rfl (by decide);have hs_H:Sub B H:=hS.in_ (i:=0) rfl;have hv:=hP.toks;have hlv:=hv.live;have hjl:=hP.at_;have hopn:=hP.open_;have hos:IsStrs w0 H ov (O0++[bd]):=hopn.isL (hS.in_ (i:=2) rfl);have nos:=qav hos;have hsl:=fun k:IntKind=>qjp (k:=k) hos (n:=O0.length) (by rw[Jb];omega);rw[Jb,JF]at nos;rw[VZ]at hopn;obtain⟨ko,rfl,rfl,hov2⟩:=hopn.open_ hP.isG;rw[Jn]at hov2 eb_p hS nos hsl;obtain⟨ov2,hove⟩:∃ov2,ov2=AVal.slice (.own ko) 0 O0.length (.grow 1):=⟨_,rfl⟩
 have hsl2:∀k:IntKind,YS Tryd.prog 22 (.slice (.own ko) 0 (O0.length+1) (.grow 1)) none (some (.int k O0.length)) none=⟨True,ov2⟩:=fun k=>by rw[hsl k,hove];rfl
 rw[<-hove]at hov2;have ne_p_o:kp≠ko:=hS.ne (i:=1) (j:=2) rfl rfl (by decide);have hol:=hov2.live;have hwo:IntKind.i64.wrap (((O0.length+1:Nat):Int)-1)=(O0.length:Int):=by rw[wrap_i64 (by omega) (by omega)];omega
 obtain⟨hpl,hps,hpc⟩:=hC.pv_ok;obtain⟨hbl,hbs,hbc,nb⟩:=hC.bv_len;change Awp _ _ _ (Code.seq _ _) _ _ _;refine qjm 14 [0,4,5,6,9] mixed (by kernel_rfl) (by rfl) (by rfl) fun K hK=>?_;simp+decide only[qh,qi,qj,qo,ev,qZ,qY,putD,Vz,VA,VB,Ka,VC,VD,Kb,and_true,↓qW,qU,↓XE,Xg,XP,XF,↓Qo,Qd,qgO,↓Qu,QM,Qi ag22,↓XG,Xh,QE Tryd.underlying22,QT Tryd.underlying22,↓Qj,Qa,Qm,cond_false,Qh,qbB,qM,ne_eq,not_false_eq_true,qO w0 eb_p,qO w0 eb_s,ne_p_s,ne_p_s.symm,qN,qJ,VE,setAt,VF,Kj,qC,VG,Kn,Jp,Nat.reduceAdd,qF,qG,qI,qf,qK,qa,qz,qd,qE,qc,qA,qg,qH,qy,allLive,J4,tokV,posV,faultV,hlv,nos,hwo,hsl2];try simp(disch:=omega)only[wrap_i64,wrap_u8]
 try simp+decide only[qh,qi,qj,qo,ev,qZ,qY,putD,Vz,VA,VB,Ka,VC,VD,Kb,and_true,↓qdl,qbT,evO,qbV Tryd.underlying22 sz9,qbU Tryd.underlying22 sz9,qbb Tryd.underlying22 sz9,qba Tryd.underlying22 sz9,qam Tryd.underlying22 sz9 none none rfl rfl,qdA,qcA,qac,qbZ,qaf,↓XE,Xg,XP,XF,↓Qo,Qd,qgO,qM,ne_eq,not_false_eq_true,qO w0 eb_p,qO w0 eb_s,ne_p_s,ne_p_s.symm,qN,qJ,VE,setAt,VF,Kj,qC,VG,Kn,Jp,Nat.reduceAdd,qF,qG,qI,qf,qK,qa,qz,qd,qE,qc,qA,qg,qH,qy,allLive,J4,tokV,posV,faultV,hlv,nos,hwo,hsl2]
 repeat (with_reducible refine And.intro ?_ ?_;· first|trivial|omega|(intro hg;simp only[Ky,JH,Jh,VH,VI,VJ,decide_eq_true_eq,decide_eq_false_iff_not,qR]at hg;omega))
 refine QR (v:=ov2) (by rfl) (by rw[hove];show AVal.slice (.own ko) _ _ _=AVal.slice _ _ _ _;congr 1;all_goals simp) eb_p sz22 hol (by rw[hov2.cells];rfl) (by simp only[hov2.cells,KX,JD];omega) (Jq _) (by rw[hov2.cells];simp[XR,hov2.scal]) ?_;simp only[hov2.cells,setAt,VF,Kj,Jp,Nat.reduceAdd];simp+decide only[qh,qi,qj,qo,ev,qZ,qY,putD,Vz,VA,VB,Ka,VC,VD,Kb,and_true,qM,ne_eq,not_false_eq_true,qO w0 eb_p,qO w0 eb_s,ne_p_s,ne_p_s.symm,qN,qJ,VE,setAt,VF,Kj,qC,VG,Kn,Jp,Nat.reduceAdd,qF,qG,qI,qf,qK,qa,qz,qd,qE,qc,qA,qg,qH,qy,allLive,J4,tokV,posV,faultV,hlv,nos,hwo,hsl2];repeat (with_reducible refine And.intro ?_ ?_;· first|trivial|omega|(intro hg;simp only[Ky,JH,Jh,VH,VI,VJ,decide_eq_true_eq,decide_eq_false_iff_not,qR]at hg;omega))
 apply hK;clear hK K;refine Qp ?_;refine Awp.trunc (k:=ko) (cs:=(O0.map strC).flatten) (xs:=strC bd) ((Ve _ _ ne_p_o.symm).trans (hS.at_ (i:=2) rfl)) ?_;obtain⟨H25,hH25⟩:∃H25,H25=(H.set kp (parB3 v j ov2)).set ko ⟨(O0.map strC).flatten,0⟩:=⟨_,rfl⟩
 refine BJ (h':=H25) (by rw[hH25];exact Vg _) ?_;have hS1:=(hS.put (i:=1) rfl (parB3 v j ov2)).put (i:=2) rfl ⟨(O0.map strC).flatten,0⟩;rw[<-hH25]at hS1;simp only[VF,Kj]at hS1;have eb_p:H25 kp=some _:=hS1.at_ (i:=1) rfl;have eb_s:H25 ks=some _:=hS1.at_ (i:=3) rfl;have hs_H25:Sub B H25:=hS1.in_ (i:=0) rfl;refine awp_rseq [0,4,5,6,171] (by rfl) fun K hK=>?_;simp+decide only[qh,qi,qj,qo,ev,qZ,qY,putD,Vz,VA,VB,Ka,VC,VD,Kb,and_true,↓Qu,QM,Xy qgm WJ,↓qW,qU,qM,ne_eq,not_false_eq_true,qO w0 eb_p,qO w0 eb_s,ne_p_s,ne_p_s.symm,qN,qJ,VE,setAt,VF,Kj,qC,VG,Kn,Jp,Nat.reduceAdd,qF,qG,qI,qf,qK,qa,qz,qd,qE,qc,qA,qg,qH,qy,allLive,J4,tokV,posV,faultV,hlv,hpl,hbl,VO];repeat (with_reducible refine And.intro ?_ ?_;· first|trivial|omega|(intro hg;simp only[Ky,JH,Jh,VH,VI,VJ,decide_eq_true_eq,decide_eq_false_iff_not,qR]at hg;omega))
 refine QN (by rfl) (by rfl) (c_whole w0 ha _ c pv bv (32-dd) cl (qoI hC (hS1.in_ (i:=4) rfl) (hS1.in_ (i:=5) rfl) (hS1.in_ (i:=7) rfl)) (qoJ hC (hS1.in_ (i:=6) rfl) (hS1.in_ (i:=7) rfl)) (by have:=hfew.2.2;omega) (qnu hC hfew (by omega))) fun x25q2 h25q2 hx25q2=>?_;obtain⟨rfl,hs25⟩:=hx25q2;have hS2:=hS1.forget hs25;have hs_h25q2:Sub B h25q2:=Bq zqC hs25;have hr_h25q2:Sub H25 h25q2:=Bq zqC hs25;have eb_p:=hs25 kp _ zqA;have eb_s:=hs25 ks _ zqA;simp+decide only[qh,qi,qj,qo,ev,qZ,qY,putD,Vz,VA,VB,Ka,VC,VD,Kb,and_true,↓qeS,YB,UD,qM,ne_eq,not_false_eq_true,qO w0 eb_p,qO w0 eb_s,ne_p_s,ne_p_s.symm,qN,qJ,VE,setAt,VF,Kj,qC,VG,Kn,Jp,Nat.reduceAdd,qF,qG,qI,qf,qK,qa,qz,qd,qE,qc,qA,qg,qH,qy,allLive,J4,tokV,posV,faultV,hlv,hpl,hbl,VO];try simp(disch:=omega)only[wrap_i64,wrap_u8]
 repeat (with_reducible refine And.intro ?_ ?_;· first|trivial|omega|(intro hg;simp only[Ky,JH,Jh,VH,VI,VJ,decide_eq_true_eq,decide_eq_false_iff_not,qR]at hg;omega))
 apply hK;clear hK K;refine Qw (b:=_) rfl (fun hb1=>?_) (fun hb1=>?_)
 ·try simp only[decide_eq_true_eq,decide_eq_false_iff_not,Jh,VJ,Ky,VH,JH,VI,VV,VW,reduceCtorEq]at hb1
  refine YO 2 (by rfl) (by rfl) ?_;simp only[Ki,Bj];simp+decide only[qh,qi,qj,qo,ev,qZ,qY,putD,Vz,VA,VB,Ka,VC,VD,Kb,and_true,↓qW,qU,qM,ne_eq,not_false_eq_true,qO w0 eb_p,qO w0 eb_s,ne_p_s,ne_p_s.symm,qN,qJ,VE,setAt,VF,Kj,qC,VG,Kn,Jp,Nat.reduceAdd,qF,qG,qI,qf,qK,qa,qz,qd,qE,qc,qA,qg,qH,qy,allLive,J4,tokV,posV,faultV,hlv];repeat (with_reducible refine And.intro ?_ ?_;· first|trivial|omega|(intro hg;simp only[Ky,JH,Jh,VH,VI,VJ,decide_eq_true_eq,decide_eq_false_iff_not,qR]at hg;omega))
  refine⟨⟨_,_,by rfl,?_⟩,by intro i;first|trivial|exact .inr trivial|exact .inr rfl⟩;exact(qdI w0 _ B kp v ov2 l j 4 i zqA zqB hv (by omega) (by omega)).mono (fun _ _ q=>q) fun x h' ⟨q1,q2⟩=>⟨_,StR.part (by omega) (by rw[hfo];exact hR) hb1,q1,Bq (by assumption) q2⟩
 ·try simp only[decide_eq_true_eq,decide_eq_false_iff_not,Jh,VJ,Ky,VH,JH,VI,VV,VW,reduceCtorEq]at hb1
  refine QJ ?_;change Awp _ _ _ _ _ _ _;refine Qp ?_;obtain⟨qs0,w,ts,tv,hph,hg0,hgt,hqE⟩:=hC.ph;obtain⟨kh,ch,rfl,hch,rfl⟩:=qjI hg0;have hS3:=(BK (ps:=[tp,E]) (hS2.pick [5,7,0,1,2,3,4,6,8] (by decide) (by simp))).pick [1,2,3,4,5,6,0,7] (by decide) (by simp);have hu:=Yb (ps:=[tp,E]) (hS2.pick [5,7] (by decide) (by simp)).2;obtain⟨E',hE'⟩:∃E',E'=qaY [tp,E]:=⟨_,rfl⟩
  rw[<-hE']at hS3 hu;obtain⟨q0,hq0⟩:∃q0,q0=qs0++[((⟨w,ts⟩:PhrC),tv)]:=⟨_,rfl⟩
  have hq1:q0.map (·.1)=c.phrases:=by rw[hq0,hph,VZ];rfl
  have hq2:∀q∈q0,IsL w0 E' 5 q.2 (q.1.toks.map Zh):=fun q hq=>by
   rw[hq0]at hq;rcases JS.1 hq with z|z
   ·exact(hqE q z).mono (hu E (by simp))
   ·rw[V4.1 z];exact hgt.isL (hu tp (by simp))
  have hqn:q0.length=qs0.length+1:=by rw[hq0,Jb];rfl
  have hqf:(qs0.map phC).flatten++[AVal.str w,tv]=(q0.map phC).flatten:=by rw[hq0];simp[phC]
  rw[hqf]at hS3;rw[<-hqn]at hpl hps hpc hch eb_s hS3;have nq0:∀H:AHeap,YZ Tryd.prog H 45 (.slice (.own kh) 0 q0.length ch)=⟨True, .int .i64 q0.length⟩:=fun H=>by
   have:=(hg0.isL (w0:=w0) (Vg _)).len Tryd.underlying45 H
   rwa [Jb,Jn,JF,<-hqn]at this
  have hqs:q0.length<=l.length:=by rw[hqn];have:=hfew.1;rw[hph,Jb,Jn,JF]at this;omega
  refine awp_rseq [4,6,176,177,178] (by rfl) fun K hK=>?_;simp+decide only[qh,qi,qj,qo,ev,qZ,qY,putD,Vz,VA,VB,Ka,VC,VD,Kb,and_true,↓Qo,Qd,UJ,↓Qu,QM,Qi qfv,↓XG,Xh,QE Tryd.underlying45,QT Tryd.underlying45,↓qW,qU,qM,ne_eq,not_false_eq_true,qO w0 eb_p,qO w0 eb_s,ne_p_s,ne_p_s.symm,qN,qJ,VE,setAt,VF,Kj,qC,VG,Kn,Jp,Nat.reduceAdd,qF,qG,qI,qf,qK,qa,qz,qd,qE,qc,qA,qg,qH,qy,allLive,J4,tokV,posV,faultV,hlv,nq0,hpl];repeat (with_reducible refine And.intro ?_ ?_;· first|trivial|omega|(intro hg;simp only[Ky,JH,Jh,VH,VI,VJ,decide_eq_true_eq,decide_eq_false_iff_not,qR]at hg;omega))
  apply hK;clear hK K;refine QL ?_;refine XI [4,6,176,177,178] (fun g:CpG=>[(4, .ptr (.own k4) 0),(6, .ptr (.own ks) 0),(176, .slice (.own kh) 0 q0.length ch),(177, .int .i64 q0.length),(178, .int .i64 g.m)]) (fun g:CpG=>g.H) (fun g:CpG=>g.m<=q0.length/\g.qs.length=q0.length/\g.qs.map (·.1)=c.phrases/\(∀q∈g.qs,IsL w0 E' 5 q.2 (q.1.toks.map Zh))/\Sep [B,one kp (parB3 v j ov2),one ko ⟨(O0.map strC).flatten,0⟩,one ks (curB c (.slice (.own kh) 0 q0.length ch) bv),one kh ⟨(g.qs.map phC).flatten,0⟩,bp,E',one k4 qdS] g.H) (fun g:CpG=>q0.length-g.m) ⟨0,q0,_⟩ (by rfl) (Vg _) ⟨Jq _,rfl,hq1,hq2,hS3⟩ ?_;rintro⟨m,qm,H⟩ ⟨hm1,hm2,hm3,hm4,hS⟩;simp only at hm1 hm2 hm3 hm4 hS|-
  have eb_s:H ks=some _:=hS.at_ (i:=3) rfl;have hs_H:Sub B H:=hS.in_ (i:=0) rfl;refine awp_rseq [4,6,176,177,178,179] (by rfl) fun K hK=>?_;simp+decide only[qh,qi,qj,qo,ev,qZ,qY,putD,Vz,VA,VB,Ka,VC,VD,Kb,and_true,↓Qj,Qa,Qz,cond_false,Qh,Zo,qM,ne_eq,not_false_eq_true,qO w0 eb_s,qN,qJ,VE,setAt,VF,Kj,qC,VG,Kn,Jp,Nat.reduceAdd,qF,qG,qI,qf,qK,qa,qz,qd,qE,qc,qA,qg,qH,qy,allLive,J4,tokV,posV,faultV,hlv];repeat (with_reducible refine And.intro ?_ ?_;· first|trivial|omega|(intro hg;simp only[Ky,JH,Jh,VH,VI,VJ,decide_eq_true_eq,decide_eq_false_iff_not,qR]at hg;omega))
  apply hK;clear hK K;refine Qp (Qw (b:=_) rfl (fun hb2=>?_) (fun hb2=>?_))
  ·try simp only[decide_eq_true_eq,decide_eq_false_iff_not,Jh,VJ,Ky,VH,JH,VI,VV,VW,reduceCtorEq]at hb2
   have hmm:m<qm.length:=by omega
   have hqm:GrowV 2 (.slice (.own kh) 0 q0.length ch) (one kh ⟨(qm.map phC).flatten,0⟩) (qm.map phC):=by
    refine BU (by rw[Jn,hm2]) hch qeb (Ua.2 fun x hx=>?_) rfl;obtain⟨q,hq,rfl⟩:=JI.1 hx;show(true && (q.2.live && true))=true
    rw[(hm4 q hq).live];rfl
   obtain⟨q,hqe⟩:∃q,q=qm.getD m qeV:=⟨_,rfl⟩
   have hqmem:q∈qm:=by rw[hqe,Ko,JB hmm];exact Vr hmm
   have hqL:=hqm.isL (w0:=w0) (hS.in_ (i:=4) rfl);rw[<-hm2]at hqL;obtain⟨e0,e1⟩:=qfF hqL hmm;rw[<-hqe,Jp]at e0 e1;have hqt:=(hm4 q hqmem).mono (hS.in_ (i:=6) rfl);have hql:=hqt.live;have hqs1:=hqt.scal;have hqc:=hqt.cells;have hck:=hqt.clip;have hckl:=hck.live;have hcks:=hck.scal;have hckc:=hck.cells;have eb_h:H kh=some _:=hS.at_ (i:=4) rfl;have ne_s_h:ks≠kh:=hS.ne (i:=3) (j:=4) rfl rfl (by decide);have hset:setAt (qm.map phC).flatten (m*2+1) [Yd q.2]=((qm.set m (q.1,Yd q.2)).map phC).flatten:=by
    rw[qiv [Yd q.2] qeb m 1 (by rw[Jn];exact hmm) (by simp),BV];congr 2;rw[getD_map qeV hmm,<-hqe];rfl
   have hwm:IntKind.i64.wrap ((m:Int)+1)=((m+1:Nat):Int):=by rw[wrap_i64 (by omega) (by omega)];omega
   have hmq:((m:Int)<(q0.length:Int))=True:=eq_true (by omega);have hml:(qm.map phC).flatten.length=qm.length*2:=qfG qm;refine QJ ?_;change Awp _ _ _ _ _ _ _;refine Qp ?_;refine QL ?_;refine awp_rseq [4,6,16,17,176,177,178] (by rfl) fun K hK=>?_;simp+decide only[qh,qi,qj,qo,ev,qZ,qY,putD,Vz,VA,VB,Ka,VC,VD,Kb,and_true,↓qW,qU,↓QV,QM,Ql Tryd.underlying45 qbn,↓Qu,Xy ag44 qbn,qM,ne_eq,not_false_eq_true,qO w0 eb_s,qN,qJ,VE,setAt,VF,Kj,qC,VG,Kn,Jp,Nat.reduceAdd,qF,qG,qI,qf,qK,qa,qz,qd,qE,qc,qA,qg,qH,qy,allLive,J4,tokV,posV,faultV,hlv,e0,e1,hql,VO,VX,Jp,K6];repeat (with_reducible refine And.intro ?_ ?_;· first|trivial|omega|(intro hg;simp only[Ky,JH,Jh,VH,VI,VJ,decide_eq_true_eq,decide_eq_false_iff_not,qR]at hg;omega))
   refine XL qrc (cs:=[.str [], .nilSlice]) (by rfl) fun k29q3 hk29q3=>?_;have hn_29q3:H k29q3=none:=by first|assumption|(simp only[V7]at hk29q3;simp only[hk29q3])
   have hf_29q3:B k29q3=none:=Bh hs_H hn_29q3;have ne_29q3_s:k29q3≠ks:=BG hn_29q3 eb_s;simp+decide only[qh,qi,qj,qo,ev,qZ,qY,putD,Vz,VA,VB,Ka,VC,VD,Kb,and_true,↓qV,qP,qM,ne_eq,not_false_eq_true,ne_29q3_s,ne_29q3_s.symm,qO w0 eb_s,qN,qJ,VE,setAt,VF,Kj,qC,VG,Kn,Jp,Nat.reduceAdd,qF,qG,qI,qf,qK,qa,qz,qd,qE,qc,qA,qg,qH,qy,allLive,J4,tokV,posV,faultV,hlv,e0,e1,hql,VO,VX,Jp,K6];repeat (with_reducible refine And.intro ?_ ?_;· first|trivial|omega|(intro hg;simp only[Ky,JH,Jh,VH,VI,VJ,decide_eq_true_eq,decide_eq_false_iff_not,qR]at hg;omega))
   refine QR (by rfl) (by rfl) zqA qbn (by rfl) (by rfl) zqD (Jq _) (by first|rfl|(simp+decide only[ev,putD,Vz,VA,Ka,VE,XR,J4,VO,hqs1,qaa,UZ,WH])) ?_;simp only[Bi,setAt,VE,VF,Kj,Jp,Nat.reduceAdd];simp+decide only[qh,qi,qj,qo,ev,qZ,qY,putD,Vz,VA,VB,Ka,VC,VD,Kb,and_true,qM,ne_eq,not_false_eq_true,ne_29q3_s,ne_29q3_s.symm,qO w0 eb_s,qN,qJ,VE,setAt,VF,Kj,qC,VG,Kn,Jp,Nat.reduceAdd,qF,qG,qI,qf,qK,qa,qz,qd,qE,qc,qA,qg,qH,qy,allLive,J4,tokV,posV,faultV,hlv,e0,e1,hql,VO,VX,Jp,K6];repeat (with_reducible refine And.intro ?_ ?_;· first|trivial|omega|(intro hg;simp only[Ky,JH,Jh,VH,VI,VJ,decide_eq_true_eq,decide_eq_false_iff_not,qR]at hg;omega))
   apply hK;clear hK K;refine qfg 8 mixed (by kernel_rfl) (by rfl) ?_;simp only[Ki,Bj,Ba,Vk];simp+decide only[qh,qi,qj,qo,ev,qZ,qY,putD,Vz,VA,VB,Ka,VC,VD,Kb,and_true,↓Yr,Qd,UJ,↓qds,Yg,Qi qfv,↓qkb,qU,qcJ,Qi qbR,qM,ne_eq,not_false_eq_true,ne_29q3_s,ne_29q3_s.symm,qO w0 eb_s,qN,qJ,VE,setAt,VF,Kj,qC,VG,Kn,Jp,Nat.reduceAdd,qF,qG,qI,qf,qK,qa,qz,qd,qE,qc,qA,qg,qH,qy,allLive,J4,tokV,posV,faultV,hlv,hql,hckl,hmq,VX,Jp,K6];repeat (with_reducible refine And.intro ?_ ?_;· first|trivial|omega|(intro hg;simp only[Ky,JH,Jh,VH,VI,VJ,decide_eq_true_eq,decide_eq_false_iff_not,qR]at hg;omega))
   refine qcc (V:=Yd q.2) (by rfl) (by rfl) (qgf w0 _ q.2 _ (hqt.mono zqB)) ?_;simp+decide only[qh,qi,qj,qo,ev,qZ,qY,putD,Vz,VA,VB,Ka,VC,VD,Kb,and_true,↓qfw,Yg,Ql Tryd.underlying45 qbn,ZH,↓Yr,Qd,qcJ,qM,ne_eq,not_false_eq_true,ne_29q3_s,ne_29q3_s.symm,qO w0 eb_s,qN,qJ,VE,setAt,VF,Kj,qC,VG,Kn,Jp,Nat.reduceAdd,qF,qG,qI,qf,qK,qa,qz,qd,qE,qc,qA,qg,qH,qy,allLive,J4,tokV,posV,faultV,hlv,hql,hckl,hmq,VX,Jp,K6];repeat (with_reducible refine And.intro ?_ ?_;· first|trivial|omega|(intro hg;simp only[Ky,JH,Jh,VH,VI,VJ,decide_eq_true_eq,decide_eq_false_iff_not,qR]at hg;omega))
   try simp only[qi,qj]
   refine QR (v:=Yd q.2) (by rfl) (by rfl) ((Ve _ _ (BG hn_29q3 eb_h).symm).trans eb_h) qte hckl (by rw[hckc];rfl) (by simp only[hckc,KX,JD];omega) (Jq _) (by rw[hckc];simp[XR,hcks]) ?_;simp only[hckc,hset];simp+decide only[qh,qi,qj,qo,ev,qZ,qY,putD,Vz,VA,VB,Ka,VC,VD,Kb,and_true,qM,ne_eq,not_false_eq_true,ne_29q3_s,ne_29q3_s.symm,qO w0 eb_s,qN,qJ,VE,setAt,VF,Kj,qC,VG,Kn,Jp,Nat.reduceAdd,qF,qG,qI,qf,qK,qa,qz,qd,qE,qc,qA,qg,qH,qy,allLive,J4,tokV,posV,faultV,hlv,hql,hckl,hmq,VX,Jp,K6];repeat (with_reducible refine And.intro ?_ ?_;· first|trivial|omega|(intro hg;simp only[Ky,JH,Jh,VH,VI,VJ,decide_eq_true_eq,decide_eq_false_iff_not,qR]at hg;omega))
   change Awp _ _ _ _ _ _ _;refine XZ [4,6,176,177,178] (by rfl) ?_;simp+decide only[qh,qi,qj,qo,ev,qZ,qY,putD,Vz,VA,VB,Ka,VC,VD,Kb,and_true,↓Qj,Qa,Qm,cond_false,Qh,XM,↓qW,qU,qM,ne_eq,not_false_eq_true,ne_29q3_s,ne_29q3_s.symm,qO w0 eb_s,qN,qJ,VE,setAt,VF,Kj,qC,VG,Kn,Jp,Nat.reduceAdd,qF,qG,qI,qf,qK,qa,qz,qd,qE,qc,qA,qg,qH,qy,allLive,J4,tokV,posV,faultV,hlv,hwm];try simp(disch:=omega)only[wrap_i64,wrap_u8]
   repeat (with_reducible refine And.intro ?_ ?_;· first|trivial|omega|(intro hg;simp only[Ky,JH,Jh,VH,VI,VJ,decide_eq_true_eq,decide_eq_false_iff_not,qR]at hg;omega))
   try simp only[QK,Qt,qaG]
   refine⟨⟨m+1,qm.set m (q.1,Yd q.2),(H.set k29q3 ⟨[.str q.1.words,q.2],0⟩).set kh ⟨((qm.set m (q.1,Yd q.2)).map phC).flatten,0⟩⟩,rfl,Vg _,⟨by simp only;omega,by simp only;rw[BR];exact hm2,?_,fun x hx=>?_,?_⟩,by simp only;omega⟩
   ·simp only
    rw[BV,<-hm3];have:(qm.map (·.1))[m]?=some q.1:=by
     rw[List.getElem?_map,JB hmm];have:qm[m]=q:=by rw[hqe,Ko,JB hmm];rfl
     rw[this];rfl
    refine List.ext_getElem? fun x=>?_;rw[List.getElem?_set];by_cases z:m=x
    ·subst z
     rw[if_pos rfl,if_pos (by rw[Jn];exact hmm),this]
    ·rw[if_neg z]
   ·rcases BS hx with z|z
    ·exact hm4 x z
    ·rw[z];exact(hm4 q hqmem).clip
   ·have hSa:=(hS.lay hn_29q3 ⟨[.str q.1.words,q.2],0⟩).put (i:=4) rfl ⟨((qm.set m (q.1,Yd q.2)).map phC).flatten,0⟩
    exact hSa.pick [0,1,2,3,4,5,6,7] (by decide) (by simp)
  ·try simp only[decide_eq_true_eq,decide_eq_false_iff_not,Jh,VJ,Ky,VH,JH,VI,VV,VW,reduceCtorEq]at hb2
   have hmm:m=q0.length:=by omega
   have hqm:GrowV 2 (.slice (.own kh) 0 q0.length ch) (one kh ⟨(qm.map phC).flatten,0⟩) (qm.map phC):=by
    refine BU (by rw[Jn,hm2]) hch qeb (Ua.2 fun x hx=>?_) rfl;obtain⟨q,hq,rfl⟩:=JI.1 hx;show(true && (q.2.live && true))=true
    rw[(hm4 q hq).live];rfl
   have hu2:=Yb (ps:=[one kh ⟨(qm.map phC).flatten,0⟩,bp,E']) (hS.pick [4,5,6] (by decide) (by simp)).2;obtain⟨E2,hE2⟩:∃E2,E2=qaY [one kh ⟨(qm.map phC).flatten,0⟩,bp,E']:=⟨_,rfl⟩
   rw[<-hE2]at hu2;have hS4:=(BK (ps:=[one kh ⟨(qm.map phC).flatten,0⟩,bp,E']) (hS.pick [4,5,6,0,1,2,3,7] (by decide) (by simp))).pick [1,2,3,4,0,5] (by decide) (by simp);rw[<-hE2]at hS4;have hpF:PhV w0 E2 (.slice (.own kh) 0 q0.length ch) c.phrases:=⟨qm,hm3.symm,hqm.isL (hu2 _ (by simp)),fun q hq=>(hm4 q hq).mono (hu2 E' (by simp))⟩
   have hbF:BdV w0 (StsV w0 (32-dd) E2) E2 bv c.bodies:=by
    obtain⟨bs,p1,p2,p3⟩:=hC.bd;exact⟨bs,p1,p2.isL (hu2 bp (by simp)),fun b hb=>⟨(p3 b hb).1.mono ((hu E (by simp)).trans (hu2 E' (by simp))),(p3 b hb).2.mono ((hu E (by simp)).trans (hu2 E' (by simp)))⟩⟩
   have hpH:=hpF.mono (hS4.in_ (i:=4) rfl);obtain⟨qb,hqb1,hqb2,hqb3⟩:=id (hbF.mono (S':=StsV w0 (32-dd) H) (hS4.in_ (i:=4) rfl) fun _ _=>BL (hS4.in_ (i:=4) rfl));obtain⟨qp,hqp1,hqp2,hqp3⟩:=id hpH;have hcp:=hqp2.clip;have hcb:=hqb2.clip;have hcpl:=hcp.live;have hcbl:=hcb.live;have eb_4:H k4=some _:=hS4.at_ (i:=5) rfl;have ne_s_4:ks≠k4:=hS4.ne (i:=3) (j:=5) rfl rfl (by decide);refine XJ ?_;change Awp _ _ _ _ _ _ _;refine qfe 7 [4,6] mixed (by kernel_rfl) (by rfl) fun K hK=>?_;simp only[Ki,Bj,Ba,Vk];simp+decide only[qh,qi,qj,qo,ev,qZ,qY,putD,Vz,VA,VB,Ka,VC,VD,Kb,and_true,↓Yr,Qd,UJ,↓qds,Yg,Qi qfv,qM,ne_eq,not_false_eq_true,qO w0 eb_s,qN,qJ,VE,setAt,VF,Kj,qC,VG,Kn,Jp,Nat.reduceAdd,qF,qG,qI,qf,qK,qa,qz,qd,qE,qc,qA,qg,qH,qy,allLive,J4,tokV,posV,faultV,hlv,hpl,hbl,hcpl,hcbl];repeat (with_reducible refine And.intro ?_ ?_;· first|trivial|omega|(intro hg;simp only[Ky,JH,Jh,VH,VI,VJ,decide_eq_true_eq,decide_eq_false_iff_not,qR]at hg;omega))
   refine qcc (V:=Yd (.slice (.own kh) 0 q0.length ch)) (by rfl) (by rfl) (qsJ w0 _ _ _ hqp2) ?_;simp+decide only[qh,qi,qj,qo,ev,qZ,qY,putD,Vz,VA,VB,Ka,VC,VD,Kb,and_true,↓Yr,Qd,WG,↓qds,Yg,Qi qdL,qM,ne_eq,not_false_eq_true,qO w0 eb_s,qN,qJ,VE,setAt,VF,Kj,qC,VG,Kn,Jp,Nat.reduceAdd,qF,qG,qI,qf,qK,qa,qz,qd,qE,qc,qA,qg,qH,qy,allLive,J4,tokV,posV,faultV,hlv,hpl,hbl,hcpl,hcbl];repeat (with_reducible refine And.intro ?_ ?_;· first|trivial|omega|(intro hg;simp only[Ky,JH,Jh,VH,VI,VJ,decide_eq_true_eq,decide_eq_false_iff_not,qR]at hg;omega))
   refine qcc (V:=Yd bv) (by rfl) (by rfl) (qsK w0 _ _ _ hqb2) ?_;simp+decide only[qh,qi,qj,qo,ev,qZ,qY,putD,Vz,VA,VB,Ka,VC,VD,Kb,and_true,↓Yr,Qd,UJ,qM,ne_eq,not_false_eq_true,qO w0 eb_s,qN,qJ,VE,setAt,VF,Kj,qC,VG,Kn,Jp,Nat.reduceAdd,qF,qG,qI,qf,qK,qa,qz,qd,qE,qc,qA,qg,qH,qy,allLive,J4,tokV,posV,faultV,hlv,hpl,hbl,hcpl,hcbl];repeat (with_reducible refine And.intro ?_ ?_;· first|trivial|omega|(intro hg;simp only[Ky,JH,Jh,VH,VI,VJ,decide_eq_true_eq,decide_eq_false_iff_not,qR]at hg;omega))
   try simp only[qi,qj]
   refine QR (v:=Yd (.slice (.own kh) 0 q0.length ch)) (by rfl) (by rfl) eb_s sz45 hcpl (by rw[hcp.cells];rfl) (by simp only[hcp.cells,KX,JD];omega) (Jq _) (by rw[hcp.cells];simp[XR,hcp.scal]) ?_;simp only[hcp.cells,setAt,VF,Kj,Jp,Nat.reduceAdd];simp+decide only[qh,qi,qj,qo,ev,qZ,qY,putD,Vz,VA,VB,Ka,VC,VD,Kb,and_true,↓Qo,Qd,WG,qM,ne_eq,not_false_eq_true,qO w0 eb_s,qN,qJ,VE,setAt,VF,Kj,qC,VG,Kn,Jp,Nat.reduceAdd,qF,qG,qI,qf,qK,qa,qz,qd,qE,qc,qA,qg,qH,qy,allLive,J4,tokV,posV,faultV,hlv,hpl,hbl,hcpl,hcbl];repeat (with_reducible refine And.intro ?_ ?_;· first|trivial|omega|(intro hg;simp only[Ky,JH,Jh,VH,VI,VJ,decide_eq_true_eq,decide_eq_false_iff_not,qR]at hg;omega))
   refine QR (v:=Yd bv) (by rfl) (by rfl) (Vf _ _ _) sz46 hcbl (by rw[hcb.cells];rfl) (by simp only[hcb.cells,KX,JD];omega) (Jq _) (by rw[hcb.cells];simp[XR,hcb.scal]) ?_;simp only[hcb.cells,Bi,setAt,VF,Kj,Jp,Nat.reduceAdd];simp+decide only[qh,qi,qj,qo,ev,qZ,qY,putD,Vz,VA,VB,Ka,VC,VD,Kb,and_true,qM,ne_eq,not_false_eq_true,qO w0 eb_s,qN,qJ,VE,setAt,VF,Kj,qC,VG,Kn,Jp,Nat.reduceAdd,qF,qG,qI,qf,qK,qa,qz,qd,qE,qc,qA,qg,qH,qy,allLive,J4,tokV,posV,faultV,hlv,hpl,hbl,hcpl,hcbl];repeat (with_reducible refine And.intro ?_ ?_;· first|trivial|omega|(intro hg;simp only[Ky,JH,Jh,VH,VI,VJ,decide_eq_true_eq,decide_eq_false_iff_not,qR]at hg;omega))
   apply hK;clear hK K;refine awp_rseq [4] (by rfl) fun K hK=>?_;simp+decide only[qh,qi,qj,qo,ev,qZ,qY,putD,Vz,VA,VB,Ka,VC,VD,Kb,and_true,↓Qu,QM,Xy qgm WJ,qM,ne_eq,not_false_eq_true,qO w0 eb_s,qN,qJ,VE,setAt,VF,Kj,qC,VG,Kn,Jp,Nat.reduceAdd,qF,qG,qI,qf,qK,qa,qz,qd,qE,qc,qA,qg,qH,qy,allLive,J4,tokV,posV,faultV,hlv,hcpl,hcbl,VO];repeat (with_reducible refine And.intro ?_ ?_;· first|trivial|omega|(intro hg;simp only[Ky,JH,Jh,VH,VI,VJ,decide_eq_true_eq,decide_eq_false_iff_not,qR]at hg;omega))
   refine QR (v:= .agg [.str c.verb, .int .i64 c.line, .int .i64 c.col,Yd (.slice (.own kh) 0 q0.length ch),Yd bv]) (by rfl) (by rfl) ((Ve _ _ ne_s_4.symm).trans eb_4) WJ (by simp+decide only[qH,allLive,qI,qG,hcpl,hcbl,J4]) (by rfl) (by simp only[VE,qdS,KX,JD];omega) (Jq _) (by show(true && (true && (true && ((Yd (.slice (.own kh) 0 q0.length ch)).scal && ((Yd bv).scal && true)))))=true;rw[hcp.scal,hcb.scal];rfl) ?_;simp only[VE,qdS,setAt,VF,Kj,Jp,Nat.reduceAdd];simp+decide only[qh,qi,qj,qo,ev,qZ,qY,putD,Vz,VA,VB,Ka,VC,VD,Kb,and_true,qM,ne_eq,not_false_eq_true,qO w0 eb_s,qN,qJ,VE,setAt,VF,Kj,qC,VG,Kn,Jp,Nat.reduceAdd,qF,qG,qI,qf,qK,qa,qz,qd,qE,qc,qA,qg,qH,qy,allLive,J4,tokV,posV,faultV,hlv,hcpl,hcbl,VO];repeat (with_reducible refine And.intro ?_ ?_;· first|trivial|omega|(intro hg;simp only[Ky,JH,Jh,VH,VI,VJ,decide_eq_true_eq,decide_eq_false_iff_not,qR]at hg;omega))
   apply hK;clear hK K;refine Xd ?_;try simp only[QF,Qn,qlB]
   refine Xu (?_) ?_
   ·simp+decide only[UA,qcY,qak,qh,ev,VA,Ka,and_true,Kb,Vf,qcY,qak,Xy qgm WJ,qid,qC,VG,Kn,Jp,Nat.reduceAdd,setAt,VF,Kj,VE,qF,qG,qI,qf,qK,qa,qz,qd,qE,qc,qA,qg,qH,qy,allLive,J4,VO,qJ,qM,ne_eq,not_false_eq_true,qO w0 eb_s,qN,qJ,VE,setAt,VF,Kj,qC,VG,Kn,Jp,Nat.reduceAdd,qF,qG,qI,qf,qK,qa,qz,qd,qE,qc,qA,qg,qH,qy,allLive,J4,tokV,posV,faultV,hlv,hcpl,hcbl]
   simp+decide only[qh,qi,qj,qo,ev,qZ,qY,putD,Vz,VA,VB,Ka,VC,VD,Kb,and_true,qmK,qcY,qak,Xy qgm WJ,qid,qC,VG,Kn,Jp,Nat.reduceAdd,setAt,VF,Kj,VE,qF,qG,qI,qf,qK,qa,qz,qd,qE,qc,qA,qg,qH,qy,allLive,J4,VO,qJ,qM,ne_eq,not_false_eq_true,qO w0 eb_s,qN,qJ,VE,setAt,VF,Kj,qC,VG,Kn,Jp,Nat.reduceAdd,qF,qG,qI,qf,qK,qa,qz,qd,qE,qc,qA,qg,qH,qy,allLive,J4,tokV,posV,faultV,hlv,hcpl,hcbl];have hS6:=((hS4.put (i:=3) rfl ⟨[.str c.verb, .int .i64 c.line, .int .i64 c.col,Yd (.slice (.own kh) 0 q0.length ch),Yd bv],0⟩).put (i:=5) rfl ⟨[.str c.verb, .int .i64 c.line, .int .i64 c.col,Yd (.slice (.own kh) 0 q0.length ch),Yd bv],0⟩).pick [0,1,2,4] (by decide) (by simp);exact⟨_,Vg _,hdd,c.done,j,ov2,one ko ⟨(O0.map strC).flatten,0⟩,E2,Yd (.slice (.own kh) 0 q0.length ch),Yd bv,StR.ok (by omega) (by rw[hfo];exact hR) hb1,hij,rfl,qto hpF,bd_clip hbF,⟨hv,hov2,by rw[hove];rfl,hjl⟩,hS6⟩
theorem k_stm(w0:World)(hm:MaxL w0)(ha:Asp w0)(l:List TokC)(hl:l.length<=65537)(hsh:Short l)(dd:Nat)(hdd:dd<=33)(hd0:0<dd)(hli:dd<=32->qjY w0 l (dd+1)):StmK w0 l dd:=
 k_stmA w0 l hl dd hdd fun hd32 H B kp ks k4 v ov pv bv op pp tp bp E O i hI hF hO hvi=>by
  have hfair:=qit (l.getD i noT).text;refine k_stmB w0 hm ha l hl hsh dd hd32 hd0 (k_body w0 hm ha l hl hsh dd hd32 hd0 (hli hd32)) B kp ks k4 qdS v (O++[(Xi (l.getD i noT).text).2]) O _ _ i _ _ (hF.snoc _) (by rw[Jb,JF];exact hO) (by rw[List.getLastD_eq_getLast?,List.getLast?_concat];rfl) hfair.1.1 hfair.1.2 (fun f hf=>StR.bad (by omega) hf) ov pv bv op pp tp bp E H hI fun H ov pv bv op pp tp bp E c cl j hI hij hR=>?_;exact k_stmC w0 hm ha l hl hsh dd hd32 B kp ks k4 v O _ _ i hF hO hvi rfl H ov pv bv op pp tp bp E c cl j hI hij hR
theorem k_all(w0:World)(hm:MaxL w0)(ha:Asp w0)(l:List TokC)(hl:l.length<=65537)(hsh:Short l):∀n dd:Nat,dd+n=33->0<dd->qjY w0 l dd
 |0,dd,hn,h0=>qrZ w0 hm l hl hsh dd (by omega) (k_stm w0 hm ha l hl hsh dd (by omega) h0 fun h=>by omega)
 |n+1,dd,hn,h0=>qrZ w0 hm l hl hsh dd (by omega) (k_stm w0 hm ha l hl hsh dd (by omega) h0 fun _=>k_all w0 hm ha l hl hsh n (dd+1) (by omega) (by omega))
theorem c_list(w0:World)(hm:MaxL w0)(ha:Asp w0)(l:List TokC)(hl:l.length<=65537)(hsh:Short l):qjY w0 l 1:=k_all w0 hm ha l hl hsh 32 1 (by omega) (by omega)
end Go.Proofs.YtgiadjbiimkbiaaDoor
namespace Go.AM
section
variable {P:Program}
theorem Leaves.mono{fn:Func}{tmps:Array Value}{R R':Ending->World->Prop}(hr:∀e w,R e w->R' e w):∀{ds:List Deferred} {u:FrameMode} {w:World},Leaves P fn tmps R ds u w->Leaves P fn tmps R' ds u w
 |[], .returning,w,⟨v,h1,h2⟩=>⟨v,h1,hr _ _ h2⟩
 |[], .panicking ch,w,h=>hr _ _ h
 |[], .run,w,h=>h
 |d::ds,u,w,⟨hu,fv,cap,f,args,h1,h2,h3⟩=>⟨hu,fv,cap,f,args,h1,h2,h3.mono fun e u' w' q=>by
   cases e with
   |returned v=>exact Leaves.mono hr q
   |panicked ch=>exact Leaves.mono hr q
   |outgrown=>exact hr _ _ q⟩
theorem qiJ{fn:Func}{R R':Ending->World->Prop}(hr:∀e w,R e w->R' e w){e:Exit}{a:Act}{w:World}(h:bodyPostD P fn R e a w):bodyPostD P fn R' e a w:=by
 cases e<;>simp only[bodyPostD]at h|- <;>first
  |exact h.elim
  |exact Leaves.mono hr h
  |exact hr _ _ h
end
def RetR(w0:World)(R:AVal->AHeap->Prop)(Ps:PMap):Ending->World->Prop:=fun e w'=>∃v,e= .returned v/\∃χ x h',Ps.le χ/\HRel w0 χ h' w'/\VR χ x v/\R x h'
theorem RetR.up{w0:World}{R:AVal->AHeap->Prop}{fi Ps:PMap}(hl:fi.le Ps){e:Ending}{w:World}(h:RetR w0 R Ps e w):RetR w0 R fi e w:=by
 obtain⟨v,h1,χ,x,h',h2,h3⟩:=h;exact⟨v,h1,χ,x,h',JN hl h2,h3⟩
def GC(P:Program)(w0:World)(fn:Func)(R:AVal->AHeap->Prop):Exit->PMap->Act->World->Prop:=fun e Ps a w=>bodyPostD P fn (RetR w0 R Ps) e a w
theorem qnS{P:Program}{w0:World}{f:FuncId}{args:List AVal}{h:AHeap}{R:AVal->AHeap->Prop}{fn:Func}{c:Code}{rs:List ResultVar}{k:Nat}(hf:P.funcs[f]?=some fn)
 (hname:(fn.name== "runtime.NumGoroutine")=false) (hb:fn.body=some c) (hn:fn.ntmps=k) (hrs:fn.results=rs.toArray) (hargs:args.length<=k)
 (hc:Awp P w0 ⟨k,[],GC P w0 fn R⟩ c (fun _ _ _=>False) (Xe 0 args) h):ACall P w0 f args h R:=by
 intro fi vals w hr hv;refine .inl ⟨fn,hf,hname,by rw[hb];rfl,?_⟩;have hl:=Zm hv;refine calls_of_wp_defers hf hb (wp_mono (hc fi _ w hr ⟨?_,rfl,fun i=>?_⟩) fun e a' w' q=>?_)
 ·simp[hn]
  omega
 ·have:=(qbk fi args vals 0 i hv).2 undef (Jq i)
  by_cases hi:i<vals.length
  ·have e:(vals.toArray++Ju (fn.ntmps-vals.toArray.size) undef).getD i undef=vals.getD i undef:=by
    simp[Ku,Jv,hi,Ko]
   rw[e];simpa using this
  ·have e:(vals.toArray++Ju (fn.ntmps-vals.toArray.size) undef).getD i undef=undef:=by
    simp[Ku,Jv,hi,Array.getElem?_replicate];split<;>simp
   rw[e];have e2:vals.getD (i-0) undef=undef:=by simp[Ko,List.getElem?_eq_none (Kt hi)]
   rw[e2]at this;exact this
 ·rcases q with⟨_,_,_,_,_,_,q⟩|⟨_,Ps,hl1,q⟩
  ·exact q.elim
  ·exact qiJ (fun e w q=>q.up hl1) q
def dOf(f:FuncId)(vs:List Value):Deferred:={target:= .fn (.func f) vs.toArray,args:= #[]}
def retQ(P1:Slots->AHeap->Prop):Exit->Slots->AHeap->Prop
 | .ret,s,h=>P1 s h
 |_,_,_=>False
theorem qnJ{P:Program}{w0:World}{k id:Nat}{l pre:List Oper}{x:Operand}{ts:Array TypeId}{ty:TypeId}{pos:String}{af:Array Edge}{rest:Code}{s s₀:Slots}{h:AHeap}{fn:Func}{R Rp:AVal->AHeap->Prop}{P1:Slots->AHeap->Prop}{f:FuncId}{cap:List AVal}
 (hl:l=pre++[⟨none, .defer ⟨.value x,#[],ts⟩,ty,pos,af,none⟩]) (hd:Xt k l=true)
 (hc:Xp P w0 l pre s h (fun s' h'=>ev s' x= .func f cap/\∀d,Awp P w0 ⟨k,[d],GP w0 k [d] s₀ Rp⟩ rest (retQ P1) s' h'))
 (hret:∀(Ps:PMap) (vs:List Value) (s':Slots) (h':AHeap) (a:Act) (w:World) (G:Exit->PMap->Act->World->Prop),VRs Ps cap vs->HRel w0 Ps h' w->SRel Ps ⟨k,[dOf f vs],G⟩ s' a->P1 s' h'->Leaves P fn a.tmps (RetR w0 R Ps) [dOf f vs] .returning w)
 (hpan:∀(Ps:PMap) (vs:List Value) (v:Value) (y:AVal) (h':AHeap) (a:Act) (w:World) (G:Exit->PMap->Act->World->Prop),VRs Ps cap vs->HRel w0 Ps h' w->VR Ps y v->Rp y h'->SRel Ps ⟨k,[dOf f vs],G⟩ s₀ a->Leaves P fn a.tmps (RetR w0 R Ps) [dOf f vs] (.panicking [{v,recovered:=false}]) w):
 Awp P w0 ⟨k,[],GC P w0 fn R⟩ (.seq (.region id l.toArray false) rest) (fun _ _ _=>False) s h:=by
 have hdp:Xt k pre=true:=by
  have:∀(p q:List Oper),Xt k (p++q)=true->Xt k p=true:=by
   intro p q hp;induction p with
   |nil=>rfl
   |cons o p ih=>
    simp only[Kh,Xt,Ky]at hp|-
    exact⟨hp.1,ih hp.2⟩
  exact this pre _ (hl ▸ hd)
 intro fi a w hr hs;refine wp_seq (wp_region ?_);rw[KC,BX];have hlen:l.length=pre.length+1:=by rw[hl];simp
 rw[hlen,List.range'_concat];refine qdn (P:=P) (w0:=w0) l ⟨k,[],GC P w0 fn R⟩ _ hd pre 0 fi s h a w _ _ (fun j hj=>by rw[hl,Jp,BZ hj]) hdp hc hr hs ?_;intro Ps s' h' a' w' hle hr' hs' ⟨em,hk⟩;have hat:l.toArray[0+1*pre.length]?=some ⟨none, .defer ⟨.value x,#[],ts⟩,ty,pos,af,none⟩:=by
  rw[Jp,Nat.one_mul,hl];simp
 simp only[wpOps,hat];rw[if_pos (by simp[Region.wanted])];refine .inl ?_;have hvx:=hs'.ev x;rw[em]at hvx;simp only[VR]at hvx;obtain⟨vs,hfe,hcap⟩:=hvx;have hx:(execOp a'.eval ⟨none, .defer ⟨.value x,#[],ts⟩,ty,pos,af,none⟩).run P w'= .ok (.defer (dOf f vs)) w':=by
  simp[execOp,resolve,hfe,Deferred.ofValue,dOf]
 simp only[Oper.wp,hx,Oper.upon_defer,Act.put,Exit.then];refine wp_mono (hk (dOf f vs) Ps _ w' hr' ⟨hs'.size,by rw[hs'.defers],hs'.val⟩) fun e a'' w'' q=>?_;rcases q with⟨χ,s'',h'',e1,e2,e3,e4⟩|⟨ha,χ,e1,q⟩
 ·cases e<;>simp only[retQ]at e4<;>first
   |exact e4.elim
   |skip
  refine .inr ⟨trivial,χ,JN hle e1,?_⟩;have:=hret χ vs s'' h'' a'' w'' _ (qaS e1 _ _ hcap) e2 e3 e4;simp only[GC,bodyPostD];rw[e3.defers];exact this
 ·obtain⟨v,rfl,χ2,y,h2,g1,g2,g3,g4,g5⟩:=q
  refine .inr ⟨trivial,χ,JN hle e1,?_⟩;have:=hpan χ2 vs v y h2 a'' w'' (fun _ _ _ _=>False) (qaS (JN e1 g1) _ _ hcap) g2 g3 g4 g5;simp only[GC,bodyPostD];rw[g5.defers];exact Leaves.mono (fun e w q=>q.up g1) this
section
variable {P:Program} {w0:World} {n:FrameK} {s:Slots} {h:AHeap} {Q:Exit->Slots->AHeap->Prop}
theorem awp_ta{id d:Nat}{l pre post:List Oper}{x:Operand}{t ti:TypeId}{ty:TypeId}{pos:String}{af:Array Edge}
 (hl:l=pre++⟨some d, .typeAssert x t ti true,ty,pos,af,none⟩::post) (hd:Xt n l=true) (hta:∀(y:Value) (w:World),(Instr.typeAssert (.iface ti y) t ti true).run P w= .ok (.tuple #[y, .bool true]) w)
 (hc:Xp P w0 l pre s h (fun s' h'=>∃y,ev s' x= .iface ti y/\Xp P w0 l post (putD s' (some d) (.tuple [y, .bool true])) h' (fun s'' h''=>Q .normal s'' h''))):
 Awp P w0 n (.region id l.toArray false) Q s h:=by
 have happ:∀(p q:List Oper),Xt n (p++q)=true->Xt n p=true/\Xt n q=true:=by
  intro p q hp;induction p with
  |nil=>exact⟨rfl,hp⟩
  |cons o p ih=>
   simp only[Kh,Xt,Ky]at hp|-
   exact⟨⟨hp.1,(ih hp.2).1⟩,(ih hp.2).2⟩
 have h1:=happ pre _ (hl ▸ hd);have hdx:d<n.sz/\Xt n post=true:=by
  have:=h1.2;simp only[Xt,Ky,decide_eq_true_eq]at this;exact this
 intro fi a w hr hs;refine wp_region ?_;rw[KC,BX];have hlen:l.length=pre.length+(post.length+1):=by rw[hl];simp
 rw[hlen,<-List.range'_append_1];refine qdn (P:=P) (w0:=w0) l n _ hd pre 0 fi s h a w _ _ (fun j hj=>by rw[hl,Jp,BZ hj]) h1.1 hc hr hs ?_;intro Ps s' h' a' w' hle hr' hs' ⟨y,hy,hk⟩;have hat:l.toArray[0+pre.length]?=some ⟨some d, .typeAssert x t ti true,ty,pos,af,none⟩:=by
  rw[Jp,hl];simp
 rw[List.range'_succ];simp only[wpOps,hat];rw[if_pos (by simp[Region.wanted])];refine .inl ?_;have hyv:=hs'.ev x;rw[hy]at hyv;simp only[VR]at hyv;obtain⟨yv,hye,hyy⟩:=hyv;have hx:(execOp a'.eval ⟨some d, .typeAssert x t ti true,ty,pos,af,none⟩).run P w'= .ok (.value (.tuple #[yv, .bool true])) w':=by
  simp[execOp,hye,hta]
 simp only[Oper.wp,hx,Oper.upon_value];have hs2:=hs'.put d hdx.1 (x:= .tuple [y, .bool true]) (v:= .tuple #[yv, .bool true]) (by simp only[VR,VRs];exact⟨_,rfl,_,_,rfl,hyy,_,_,rfl,rfl,rfl⟩);have:=qdn (P:=P) (w0:=w0) l n [] hd post (0+pre.length+1) Ps _ h' _ w' _ (AQ w0 n fi Q) (fun j hj=>by
  rw[hl,Jp,List.getElem?_append_right (by omega),show pre.length+1+j-pre.length=j+1 by omega];rfl) hdx.2 hk hr' hs2 (fun χ s'' h'' a'' w'' e1 e2 e3 e4=> .inl ⟨χ,s'',h'',JN hle e1,e2,e3,e4⟩)
 rwa [List.append_nil]at this
theorem qcP{ops:List Oper}{i:Nat}{o:Oper}{fi:PMap}{a:Act}{w:World}{Q:Exit->Act->World->Prop}{K:Act->World->Prop}(ho:ops[i]?=some o)(hg:o.guard=none)(hd:(match o.dst with|some d=>decide (d<n.sz)|none=>true)=true)
 (hp:(pop P w0 h s o.op).pre) (hr:HRel w0 fi h w) (hs:SRel fi n s a) (hK:∀a',SRel fi n (putD s o.dst (pop P w0 h s o.op).val) a'->K a' w):wpOp P ops.toArray Q i K a w:=by
 obtain⟨r,h1,h2⟩:=qgB o hp hr hs;have hx:=h1 w (Same.refl w);have ho':ops.toArray[i]?=some o:=by simpa using ho
 unfold wpOp;simp only[ho'];rw[if_pos (by simp[Region.wanted,hg])];refine .inl ?_;unfold Oper.wp;rw[hx,Oper.upon_value];exact hK _ (hs.putD hd h2)
end
end Go.AM
namespace Go.Proofs.YtgiadjbiimkbiaaDoor
open Go.AM
open Go.Proofs
open Go.Col (Str FaultC okF)
open Go.Tok (TokC)
open Go.Stm
open Go.RowKit (Below)
set_option maxRecDepth 100000
theorem qnE(p q:Addr)(w:World):CallsD Tryd.prog 17 #[.pointer (some p), .pointer (some q)] .returning w fun e u' w'=>e= .returned (.tuple #[])/\u'= .returning/\w'=w:=by
 refine callsD_of_wpS Tryd.func17 rfl fun c₀ cs hu=>?_;apply wpS_seq;apply wpS_region;simp[wpOpsS,go_sem,recoverD,hu,Tryd.ntmps17,Exit.thenS];apply wpS_seq;apply wpS_region;simp[wpOpsS,go_sem,Exit.thenS];refine wpS_cond (t:=false) (by simp[Act.eval,Ju]) ?_;simp only[Bool.false_eq_true,if_false];refine wpS_of_wp (wp_skip ?_);cases c₀
 simp_all [bodyPostS,results,Tryd.results17,Exit.thenS]
def ClosR(B:AHeap)(k2 k3:Nat)(f:FaultC):AVal->AHeap->Prop:=fun r h'=>r= .tuple []/\h' k2=some ⟨[.nilSlice],0⟩/\h' k3=some ⟨[.int .i64 f.e, .int .i64 f.line, .int .i64 f.col],0⟩/\Sub B h'
theorem l_clos(w0:World)(H B:AHeap)(k2 k3:Nat)(hB:Sub B H)(hB2:B k2=none)(hB3:B k3=none)(b2 b3:AVal)(y1 y2 y3:AVal)(f:FaultC)(eb_2:H k2=some ⟨[b2],0⟩)(eb_3:H k3=some ⟨[y1,y2,y3],0⟩)(ne_2_3:k2≠k3):
 Awp Tryd.prog w0 11 (WW 1 (qcM Tryd.f17)) (qcW Tryd.prog w0 [] (ClosR B k2 k3 f)) [(0, .ptr (.own k2) 0),(1, .ptr (.own k3) 0),(2, .iface 28 (faultV f))] (H):=by
 have hs_H:Sub H H:=Vg _;change Awp _ _ _ (Code.seq _ _) _ _ _;refine awp_rseq [0,1,2,5] (by rfl) fun K hK=>?_;simp+decide only[qh,qi,qj,qo,ev,qZ,qY,putD,Vz,VA,VB,Ka,VC,VD,Kb,and_true,↓qW,qU,↓Qj,Qa,qnm,cond_true,qpt Tryd.underlying20,qpu Tryd.underlying20,qmS Tryd.underlying20,qmT Tryd.underlying20,qM,ne_eq,not_false_eq_true,qO w0 eb_2,qO w0 eb_3,ne_2_3,ne_2_3.symm,qN,qJ,VE,setAt,VF,Kj,qC,VG,Kn,Jp,Nat.reduceAdd,qF,qG,qI,qf,qK,qa,qz,qd,qE,qc,qA,qg,qH,qy,allLive,J4,tokV,posV,faultV];repeat (with_reducible refine And.intro ?_ ?_;· first|trivial|omega|(intro hg;simp only[Ky,JH,Jh,VH,VI,VJ,decide_eq_true_eq,decide_eq_false_iff_not,qR]at hg;omega))
 apply hK;clear hK K;refine Qw (b:=_) rfl (fun hb1=>?_) (fun hb1=>?_)
 ·try simp only[decide_eq_true_eq,decide_eq_false_iff_not,Jh,VJ,Ky,VH,JH,VI,VV,VW,reduceCtorEq]at hb1
  refine awp_rseq [1,2] (by rfl) fun K hK=>?_;refine QR (by rfl) (by rfl) zqA qrp (by rfl) (by rfl) zqD (Jq _) (by rfl) ?_;simp only[Bi,setAt,VE,VF,Kj,Jp,Nat.reduceAdd];simp+decide only[qh,qi,qj,qo,ev,qZ,qY,putD,Vz,VA,VB,Ka,VC,VD,Kb,and_true,qM,ne_eq,not_false_eq_true,qO w0 eb_2,qO w0 eb_3,ne_2_3,ne_2_3.symm,qN,qJ,VE,setAt,VF,Kj,qC,VG,Kn,Jp,Nat.reduceAdd,qF,qG,qI,qf,qK,qa,qz,qd,qE,qc,qA,qg,qH,qy,allLive,J4,tokV,posV,faultV];repeat (with_reducible refine And.intro ?_ ?_;· first|trivial|omega|(intro hg;simp only[Ky,JH,Jh,VH,VI,VJ,decide_eq_true_eq,decide_eq_false_iff_not,qR]at hg;omega))
  apply hK;clear hK K;refine awp_ta (qgk (i:=1) (by rfl)) (by rfl) (fun y w=>?_) ?_
  ·simp[Instr.typeAssert,Qy Tryd.underlying28]
  simp only[Ki,Bj,Ba,Vk];simp+decide only[qh,ev,qZ,qY,putD,Vz,VA,VB,Ka,↓qW,qU,↓Zl,XY,KX,JD,VG,Kn,Kb,and_true];refine⟨_,rfl,?_⟩;try simp+decide only[qh,ev,qZ,qY,putD,Vz,VA,VB,Ka,↓qW,qU,↓Zl,XY,KX,JD,VG,Kn,Kb,and_true]
  refine⟨(by show(0:Nat)<2;decide),(by show(1:Nat)<2;decide),?_⟩;refine QR (v:= .agg [.int .i64 f.e, .int .i64 f.line, .int .i64 f.col]) (by rfl) (by rfl) ((Ve _ _ ne_2_3.symm).trans eb_3) qdt (by rfl) (by rfl) (by simp only[VE,KX,JD];omega) (Jq _) (by rfl) ?_;simp only[VE,setAt,VF,Kj,Jp,Nat.reduceAdd];rw[qh];exact⟨Qv,_,Vg _,rfl,(Ve _ _ ne_2_3).trans (Vf _ _ _),Vf _ _ _,(hB.off hB2 _).off hB3 _⟩
 ·cases hb1
theorem qpP(w0:World)(fi:PMap)(w:World)(H B:AHeap)(k2 k3:Nat)(hB:Sub B H)(hB2:B k2=none)(hB3:B k3=none)(b2 b3:AVal)(y1 y2 y3:AVal)(f:FaultC)(p2 p3 vf:Value)(eb_2:H k2=some ⟨[b2],0⟩)(eb_3:H k3=some ⟨[y1,y2,y3],0⟩)(ne_2_3:k2≠k3)(hr:HRel w0 fi H w)
 (h2:VR fi (.ptr (.own k2) 0) p2) (h3:VR fi (.ptr (.own k3) 0) p3) (hf:VR fi (.iface 28 (faultV f)) vf):
 CallsD Tryd.prog 17 #[p2,p3] (.panicking [{v:=vf,recovered:=false}]) w fun e u' w'=>∃r,e= .returned r/\u'= .panicking [{v:=vf,recovered:=true}]/\∃Ps h',fi.le Ps/\HRel w0 Ps h' w'/\h' k2=some ⟨[.nilSlice],0⟩/\h' k3=some ⟨[.int .i64 f.e, .int .i64 f.line, .int .i64 f.col],0⟩/\Sub B h':=by
 refine callsD_of_wpS Tryd.func17 rfl fun c₀ cs hu=>?_;apply wpS_seq;apply wpS_region;simp[wpOpsS,go_sem,recoverD,hu,Tryd.ntmps17,Exit.thenS];have hl:=l_clos w0 H B k2 k3 hB hB2 hB3 b2 b3 y1 y2 y3 f eb_2 eb_3 ne_2_3 fi;refine wpS_of_wp (wp_mono (hl _ w hr ⟨?_,?_,fun i=>?_⟩) fun e a' w' q=>?_)
 ·simp;rfl
 ·rfl
 ·match i with
  |0=>exact h2
  |1=>exact h3
  |2=>exact hf
  |i+3=>
   have:VA [(0,AVal.ptr (.own k2) 0),(1, .ptr (.own k3) 0),(2, .iface 28 (faultV f))] (i+3)= .dead:=by simp[VA]
   rw[this];simp[VR]
 ·rcases q with⟨Ps,s',h',e1,e2,e3,e4⟩|⟨_,_,_,q⟩
  ·cases e<;>simp only[qcW]at e4<;>first
    |exact e4.elim
    |skip
   all_goals
    obtain⟨hp,h'',hsub,-,g2,g3,g4⟩:=e4;simp only[bodyPostS];refine⟨e3.defers, .panicking [{v:=vf,recovered:=true}],rfl, .tuple #[],?_,⟨_,rfl⟩,rfl,Ps,e1,h'',e2.forget hsub,g2,g3,g4⟩;simp[results,Tryd.results17]
  ·exact q.elim
end Go.Proofs.YtgiadjbiimkbiaaDoor
namespace Go.AM
theorem qsh{es:Nat}(hes:es≠0){xs:List (List AVal)}(hw:∀x∈xs,x.length=es)(h:xs.flatten=[]):xs=[]:=by
 have:=Zw hw;rw[h,JD]at this;rcases Nat.mul_eq_zero.1 this.symm with e|e
 ·exact List.eq_nil_of_length_eq_zero e
 ·exact absurd e hes
section
variable {P:Program} {w0:World} {ops rest:List Oper} {s:Slots} {H:AHeap} {K:Slots->AHeap->Prop} {dst:Option Tmp} {ty:TypeId} {pos:String} {af:Array Edge} {ts:Array TypeId} {t u e:TypeId} {d:TypeDesc} {x y:Operand} {v v':AVal} {p:AHeap} {es by' i:Nat} {z:Value} {xs ys:List (List AVal)} {ps:List AHeap}
theorem Ya(h0:ts[0]?=some t)(h1:ts[1]?=some u)(ht:P.underlying t=some (.slice e))(hu:P.underlying u=some d)(hd:∀k,d≠ .int k)
 (hs:Yu P e=some es) (hb:qeo P e=some by') (hz:qap P e=some z) (hzs:z.cells.size=es) (hes:es≠0)
 (hx:ev s x=v) (hg:GrowV es v p xs) (hG:isG v=true) (hi:ps[i]?=some p) (hS:Sep ps H) (hy:ev s y=v') (hv':IsL w0 H es v' ys) (hsc:XR ys.flatten=true)
 (hl:(xs.length+ys.length)*by'<=140737488355328) (hl':xs.length+ys.length<4611686018427387904)
 (hkk:∀u p' H',GrowV es u p' (xs++ys)->isG u=true->Sep (ps.set i p') H'->Xp P w0 ops rest (putD s dst u) H' K):
 Xp P w0 ops (⟨dst, .call ⟨.builtin .append,[x,y].toArray,ts⟩,ty,pos,af,none⟩::rest) s H K:=by
 have hw:∀x∈xs++ys,x.length=es:=fun x hx=>by
  rcases JS.1 hx with h|h
  ·exact hg.wide x h
  ·exact hv'.wide x h
 have hal:allLive (xs++ys).flatten=true:=by rw[List.flatten_append,YE,(hg.isL (w0:=w0) (hS.in_ hi)).allLive,hv'.allLive];rfl
 have fin:∀(H0:AHeap) (b':Option Buf) (h':AHeap),(∀j q,j≠i->ps[j]?=some q->Sub q H0)->qhv H0 es b'->qhA b'=(xs++ys).flatten->Sub (qeZ H0 b') h'->Xp P w0 ops rest (putD s dst (qeY es b')) h' K:=by
  intro H0 b' h' hq o1 o2 o3;cases b' with
  |none=>
   have e0:xs++ys=[]:=qsh hes hw o2.symm;refine hkk _ emp h' (.inl ⟨rfl,rfl,e0⟩) rfl (hS.turn (fun j c hj=>by cases hj) fun j q hj hjq=>⟨(hq j q hj hjq).trans o3,(qlW q).symm⟩)
  |some b=>
   obtain⟨kb,cells⟩:=b;obtain⟨n1,n2,n3⟩:=o1;have hcl:cells=(xs++ys).flatten:=o2;subst hcl;have hlen2:(xs++ys).flatten.length / es=(xs++ys).length:=by rw[Zw hw,Vj _ (Vi hes)]
   simp only[qeY,hlen2];refine hkk _ (one kb ⟨(xs++ys).flatten,0⟩) h' (BU rfl (.inr rfl) hw hal rfl) rfl (hS.turn (fun j c hj=>by obtain⟨rfl,rfl⟩:=qkr hj;exact o3 _ _ (Vf _ _ _)) fun j q hj hjq=>?_);have hsub:=hq j q hj hjq;have hqn:q kb=none:=hsub.none n1;refine⟨(Bq (hsub.off hqn ⟨(xs++ys).flatten,0⟩) o3),fun x=>?_⟩;by_cases ex:x=kb
   ·subst ex;exact .inr hqn
   ·exact .inl (qih _ ex)
 rcases hg with⟨rfl,rfl,rfl⟩|⟨k,c,rfl,hc,rfl,hw1,hl1⟩
 ·refine qbS (zs:=[]) (H0:=H) (b:=none) h0 h1 ht hu hd hs hb hz hzs hes (by rw[hx];rfl) trivial rfl (fun x hx=>by cases hx) (Vg _) hy hv' hsc (by simpa using hl) (by simpa using hl') fun b' h' o1 o2 o3=>?_
  exact fin H b' h' (fun j q _ hq=>hS.in_ hq) o1 (by simpa using o2) o3
 ·have hcg:c= .grow es:=by
   rcases hc with rfl|rfl
   ·cases hG
   ·rfl
  subst hcg;have hk:=hS.at_ hi;have hlen:xs.flatten.length / es=xs.length:=by rw[Zw hw1,Vj _ (Vi hes)]
  refine qbS (zs:=xs) (H0:=H.del k) (b:=some ⟨k,xs.flatten⟩) h0 h1 ht hu hd hs hb hz hzs hes (by rw[hx];simp only[qeY,hlen]) ⟨by simp[Bu],by simp only;rw[Zw hw1];exact Nat.mul_mod_left _ _,hl1⟩ rfl hw1 ?_ hy hv' hsc hl hl' fun b' h' o1 o2 o3=>?_
  ·intro j d hj
   by_cases e:j=k
   ·subst e
    rw[show qeZ (H.del j) (some ⟨j,xs.flatten⟩)=(H.del j).set j ⟨xs.flatten,0⟩from rfl,Vf]at hj;rw[<-hj];exact hk
   ·rw[show qeZ (H.del k) (some ⟨k,xs.flatten⟩)=(H.del k).set k ⟨xs.flatten,0⟩from rfl,Ve _ _ e]at hj
    simpa[Bu,e]using hj
  ·refine fin (H.del k) b' h' (fun j q hj hq=>?_) o1 o2 o3
   have hqk:=hS.not hi hq (fun e=>hj e.symm);intro a b hab;have:a≠k:=fun e=>by subst e;rw[hqk]at hab;cases hab
   simpa[Bu,this]using hS.in_ hq _ _ hab
end
section
variable {P:Program} {w0:World} {s:Slots} {h:AHeap}
theorem qmz{n:FrameK}{ops:List Oper}{i:Nat}{dst:Option Tmp}{fo:Operand}{args:Array Operand}{ts:Array TypeId}{ty:TypeId}{pos:String}{af:Array Edge}{fi:PMap}{a:Act}{w:World}{Q:Exit->Act->World->Prop}{K:Act->World->Prop}{R Rp:AVal->AHeap->Prop}{f:FuncId}{cap:List AVal}
 (hd:(match dst with|some d=>decide (d<n.sz)|none=>true)=true) (ho:ops[i]?=some ⟨dst, .call ⟨.value fo,args,ts⟩,ty,pos,af,none⟩) (hf:ev s fo= .func f cap) (hcall:ACallE P w0 f (evs s args.toList++cap) h R Rp) (hr:HRel w0 fi h w) (hs:SRel fi n s a)
 (hk:∀(Ps:PMap) (x:AVal) (h':AHeap) (a':Act) (w':World),fi.le Ps->HRel w0 Ps h' w'->SRel Ps n (putD s dst x) a'->R x h'->K a' w')
 (hq:∀(Ps:PMap) (v:Value) (x:AVal) (h':AHeap) (w':World),fi.le Ps->HRel w0 Ps h' w'->VR Ps x v->Rp x h'->Q (.panic [{v,recovered:=false}]) a w'):wpOp P ops.toArray Q i K a w:=by
 have hv:=hs.evs args.toList;have hfv:=hs.ev fo;rw[hf]at hfv;simp only[VR]at hfv;obtain⟨vs,hfe,hcap⟩:=hfv;obtain⟨fn,g1,g2,g3,g4⟩:=hcall fi (args.toList.map a.eval++vs) w hr (qbh hv hcap);have hx:(execOp a.eval ⟨dst, .call ⟨.value fo,args,ts⟩,ty,pos,af,none⟩).run P w= .ok (.enter f (args.toList.map a.eval++vs).toArray) w:=by
  have hb:¬fn.body=none:=fun e=>by rw[e]at g3;cases g3
  have hn':¬fn.name= "runtime.NumGoroutine":=by simpa using g2
  have ea:args.map a.eval=(args.toList.map a.eval).toArray:=map_toArray _ _;simp only[execOp,resolve,hfe,Deferred.ofValue,Sem.run_bind,Sem.run_pure,Result.andThen_ok,invoke];rw[ea];simp[callFunc,g1,hn',hb]
 have ho':ops.toArray[i]?=some ⟨dst, .call ⟨.value fo,args,ts⟩,ty,pos,af,none⟩:=by simpa using ho
 unfold wpOp;simp only[ho'];rw[if_pos (by simp[Region.wanted])];refine .inl ?_;unfold Oper.wp;rw[hx,Oper.upon_enter];refine g4.mono fun e w' q=>?_;rcases q with⟨v,rfl,Ps,x,h'',q1,q2,q3,q4⟩|⟨v,rfl,Ps,x,h'',q1,q2,q3,q4⟩
 ·exact hk Ps x h'' _ w' q1 q2 ((hs.mono q1).putD hd q3) q4
 ·exact hq Ps v x h'' w' q1 q2 q3 q4
theorem qnN{k:Nat}{ds:List Deferred}{s₀:Slots}{R Rp:AVal->AHeap->Prop}{id:Nat}{l:List Oper}{o0 o1 o3 o4:Oper}{dst:Option Tmp}{fo:Operand}{args:Array Operand}{ts:Array TypeId}{ty:TypeId}{pos:String}{af:Array Edge}{Q:Exit->Slots->AHeap->Prop}{v0 v1:AVal}
 (hm:P.follows .mixedOrders=true) (hl:l=[o0,o1,⟨dst, .call ⟨.value fo,args,ts⟩,ty,pos,af,none⟩,o3,o4]) (hg0:o0.guard=none) (hg1:o1.guard=none) (hd:Xt k l=true)
 (hr0:Region.ready .any l.toArray #[false,false,false,false,false]=[0,1]) (hr1:Region.ready .any l.toArray #[true,false,false,false,false]=[1]) (hr2:Region.ready .any l.toArray #[false,true,false,false,false]=[0,2]) (hr3:Region.ready .any l.toArray #[true,true,false,false,false]=[2])
 (hr4:Region.ready .any l.toArray #[true,true,true,false,false]=[3]) (hr5:Region.ready .any l.toArray #[false,true,true,false,false]=[0]) (hr6:Region.ready .any l.toArray #[true,true,true,true,false]=[4]) (hr7:Region.ready .any l.toArray #[true,true,true,true,true]=[])
 (hp0:∀s' h',(h'=h\/∃x,R x h')->(s'=s\/s'=putD s o1.dst v1\/∃x,s'=putD (putD s o1.dst v1) dst x)->(pop P w0 h' s' o0.op).pre/\(pop P w0 h' s' o0.op).val=v0)
 (hp1:∀s',(s'=s\/s'=putD s o0.dst v0)->(pop P w0 h s' o1.op).pre/\(pop P w0 h s' o1.op).val=v1)
 (hA:∀s',s'=putD s o1.dst v1\/s'=putD (putD s o0.dst v0) o1.dst v1\/s'=putD (putD s o1.dst v1) o0.dst v0->
   (∃f cap,ev s' fo= .func f cap/\ACallE P w0 f (evs s' args.toList++cap) h R Rp)/\∀i,s₀.get i=s'.get i\/s₀.get i= .dead)
 (hK:∀s' x h',R x h'->s'=putD (putD (putD s o0.dst v0) o1.dst v1) dst x\/s'=putD (putD (putD s o1.dst v1) o0.dst v0) dst x\/s'=putD (putD (putD s o1.dst v1) dst x) o0.dst v0->Xp P w0 l [o3,o4] s' h' (fun s'' h''=>Q .normal s'' h'')):
 Awp P w0 ⟨k,ds,GP w0 k ds s₀ Rp⟩ (.region id l.toArray true) Q s h:=by
 intro fi a w hr hs;refine wp_region_any hm ?_;have hlen:l.length=5:=by rw[hl];rfl
 have ho0:l[0]?=some o0:=by rw[hl];rfl
 have ho1:l[1]?=some o1:=by rw[hl];rfl
 have ho2:l[2]?=some ⟨dst, .call ⟨.value fo,args,ts⟩,ty,pos,af,none⟩:=by rw[hl];rfl
 have hsz:l.toArray.size=5:=by simpa using hlen
 have hds:=hd;rw[hl]at hds;simp only[Xt,Ky,J4]at hds;obtain⟨hd0,hd1,hd2,hd34⟩:=hds;rw[hsz];have hw:HRel w0 fi h {w with drawn:=w.drawn+1}:=hr.drew;have tail:∀(Ps:PMap) (s':Slots) (h':AHeap) (a':Act) (w':World),fi.le Ps->HRel w0 Ps h' w'->SRel Ps ⟨k,ds,GP w0 k ds s₀ Rp⟩ s' a'->Xp P w0 l [o3,o4] s' h' (fun s'' h''=>Q .normal s'' h'')->
  wpAny P .any l.toArray (AQ w0 ⟨k,ds,GP w0 k ds s₀ Rp⟩ fi Q) 2 #[true,true,true,false,false] a' w':=by
  intro Ps s' h' a' w' hle hr' hs' hk;have:=qdn (P:=P) (w0:=w0) l ⟨k,ds,GP w0 k ds s₀ Rp⟩ [] hd [o3,o4] 3 Ps s' h' a' w' _ (AQ w0 ⟨k,ds,GP w0 k ds s₀ Rp⟩ fi Q) (fun j hj=>by
   rw[hl];match j,hj with
   |0,_=>rfl
   |1,_=>rfl) (by simp only[Xt,Ky,J4];exact hd34) hk hr' hs' (fun χ s'' h'' a'' w'' e1 e2 e3 e4=> .inl ⟨χ,s'',h'',JN hle e1,e2,e3,e4⟩)
  rw[show List.range' 3 [o3,o4].length++[]=[3,4]from rfl,wpOps_cons]at this;refine⟨fun e=>(by rw[hr4]at e;cases e),fun i hi=>?_⟩;rw[hr4]at hi;rw[V4.1 hi];refine wpOp_mono (fun a2 w2 q=>?_) this;rw[wpOps_cons]at q;show wpAny P .any l.toArray _ 1 #[true,true,true,true,false] a2 w2
  refine⟨fun e=>(by rw[hr6]at e;cases e),fun i hi=>?_⟩;rw[hr6]at hi;rw[V4.1 hi];refine wpOp_mono (fun a3 w3 q=>?_) q;exact⟨hr7,q⟩
 have call:∀(s':Slots) (a':Act) (K:Act->World->Prop),SRel fi ⟨k,ds,GP w0 k ds s₀ Rp⟩ s' a'->((∃f cap,ev s' fo= .func f cap/\ACallE P w0 f (evs s' args.toList++cap) h R Rp)/\∀i,s₀.get i=s'.get i\/s₀.get i= .dead)->
  (∀(Ps:PMap) (x:AVal) (h':AHeap) (a2:Act) (w':World),fi.le Ps->HRel w0 Ps h' w'->SRel Ps ⟨k,ds,GP w0 k ds s₀ Rp⟩ (putD s' dst x) a2->R x h'->K a2 w')->
  wpOp P l.toArray (AQ w0 ⟨k,ds,GP w0 k ds s₀ Rp⟩ fi Q) 2 K a' {w with drawn:=w.drawn+1}:=by
  intro s' a' K hs' ⟨⟨f,cap,hf,hcall⟩,hs0⟩ hk;refine qmz hd2 ho2 hf hcall hw hs' hk fun Ps v x h' w' q1 q2 q3 q4=> .inr ⟨trivial,Ps,q1,v,rfl,Ps,x,h',Ps.le_refl,q2,q3,q4,⟨hs'.size,hs'.defers,fun i=>?_⟩⟩;rcases hs0 i with e|e
  ·rw[e];exact WB q1 _ _ (hs'.val i)
  ·rw[e];simp[VR]
 show wpAny P .any l.toArray _ 5 #[false,false,false,false,false] a _
 refine⟨fun e=>(by rw[hr0]at e;cases e),fun i hi=>?_⟩;rw[hr0]at hi;rcases KW.1 hi with rfl|hi
 ·obtain⟨p0,e0⟩:=hp0 s h (.inl rfl) (.inl rfl)
  refine qcP ho0 hg0 hd0 p0 hw hs fun a1 hs1=>?_;rw[e0]at hs1;show wpAny P .any l.toArray _ 4 #[true,false,false,false,false] a1 _
  refine⟨fun e=>(by rw[hr1]at e;cases e),fun i hi=>?_⟩;rw[hr1]at hi;rw[V4.1 hi];obtain⟨p1,e1⟩:=hp1 _ (.inr rfl);refine qcP ho1 hg1 hd1 p1 hw hs1 fun a2 hs2=>?_;rw[e1]at hs2;show wpAny P .any l.toArray _ 3 #[true,true,false,false,false] a2 _
  refine⟨fun e=>(by rw[hr3]at e;cases e),fun i hi=>?_⟩;rw[hr3]at hi;rw[V4.1 hi];refine call _ _ _ hs2 (hA _ (.inr (.inl rfl))) fun Ps x h' a3 w' q1 q2 q3 q4=>?_;exact tail Ps _ h' a3 w' q1 q2 q3 (hK _ x h' q4 (.inl rfl))
 ·rw[V4.1 hi]
  obtain⟨p1,e1⟩:=hp1 _ (.inl rfl);refine qcP ho1 hg1 hd1 p1 hw hs fun a1 hs1=>?_;rw[e1]at hs1;show wpAny P .any l.toArray _ 4 #[false,true,false,false,false] a1 _
  refine⟨fun e=>(by rw[hr2]at e;cases e),fun i hi=>?_⟩;rw[hr2]at hi;rcases KW.1 hi with rfl|hi
  ·obtain⟨p0,e0⟩:=hp0 _ h (.inl rfl) (.inr (.inl rfl))
   refine qcP ho0 hg0 hd0 p0 hw hs1 fun a2 hs2=>?_;rw[e0]at hs2;show wpAny P .any l.toArray _ 3 #[true,true,false,false,false] a2 _
   refine⟨fun e=>(by rw[hr3]at e;cases e),fun i hi=>?_⟩;rw[hr3]at hi;rw[V4.1 hi];refine call _ _ _ hs2 (hA _ (.inr (.inr rfl))) fun Ps x h' a3 w' q1 q2 q3 q4=>?_;exact tail Ps _ h' a3 w' q1 q2 q3 (hK _ x h' q4 (.inr (.inl rfl)))
  ·rw[V4.1 hi]
   refine call _ _ _ hs1 (hA _ (.inl rfl)) fun Ps x h' a3 w' q1 q2 q3 q4=>?_;show wpAny P .any l.toArray _ 3 #[false,true,true,false,false] a3 w'
   refine⟨fun e=>(by rw[hr5]at e;cases e),fun i hi=>?_⟩;rw[hr5]at hi;rw[V4.1 hi];obtain⟨p0,e0⟩:=hp0 _ h' (.inr ⟨x,q4⟩) (.inr (.inr ⟨x,rfl⟩));refine qcP ho0 hg0 hd0 p0 q2 q3 fun a4 hs4=>?_;rw[e0]at hs4;exact tail Ps _ h' a4 w' q1 q2 hs4 (hK _ x h' q4 (.inr (.inr rfl)))
end
end Go.AM
namespace Go.Proofs.YtgiadjbiimkbiaaDoor
open Go.AM
open Go.Proofs
open Go.Col (Str FaultC okF)
open Go.Tok (TokC)
open Go.Stm
open Go.RowKit (Below)
set_option maxRecDepth 100000
def qoV(w0:World)(l:List TokC)(h:AHeap):AVal->AHeap->Prop:=fun r h'=>Sub h h'/\∃L j rv,ParseR QY l Xi (.ok L j)/\r= .tuple [rv,faultV okF]/\StsV w0 32 h' rv L
def qoc(l:List TokC)(h:AHeap)(k2 k3:Nat):AVal->AHeap->Prop:=fun x h'=>Sub h h'/\∃f,ParseR QY l Xi (.bad f)/\x= .iface 28 (faultV f)/\(∃b,h' k2=some ⟨[b],0⟩)/\∃y1 y2 y3,h' k3=some ⟨[y1,y2,y3],0⟩
structure PaG where
 i:Nat
 ov:AVal
 op:AHeap
 qs:List (StC×AVal×AVal)
 rv:AVal
 rp:AHeap
 E:AHeap
 H:AHeap
structure PaI(w0:World)(l:List TokC)(h:AHeap)(k2 k3 kp:Nat)(v:AVal)(g:PaG):Prop where
 sep:Sep [h,one k2 ⟨[g.rv],0⟩,one k3 ⟨[.int .i64 0, .int .i64 0, .int .i64 0],0⟩,one kp (parB3 v g.i g.ov),g.op,g.rp,g.E] g.H
 par:ParS w0 l h v g.ov g.op [] g.i
 row:GrowV 5 g.rv g.rp (g.qs.map qdV)
 isG:isG g.rv=true
 els:∀q∈g.qs,PhV w0 g.E q.2.1 q.1.phrases/\BdV w0 (StsV w0 31 g.E) g.E q.2.2 q.1.bodies
 few:g.qs.length<=g.i
 go:∀r,SentR QY l Xi g.i (g.qs.map (·.1)) r->SentR QY l Xi 0 [] r
theorem qrr{qs:List (StC×AVal×AVal)}(h:∀q∈qs,q.2.1.scal=true/\q.2.2.scal=true):XR (qs.map qdV).flatten=true:=by
 induction qs with
 |nil=>rfl
 |cons q qs ih=>
  obtain⟨a,b⟩:=h q Je;rw[Ke,Vm];show(true && (true && (true && (q.2.1.scal && (q.2.2.scal && XR (qs.map qdV).flatten)))))=true
  rw[a,b,ih fun x hx=>h x (Jf _ hx)];rfl
set_option maxHeartbeats 16000000 in
theorem l_parse(w0:World)(hm:MaxL w0)(ha:Asp w0)(l:List TokC)(hl:l.length<=1000000)(hsh:Short l)(h H:AHeap)(k2 k3:Nat)(v:AVal)(d:Deferred)(hv:IsL w0 h 5 v (l.map Zh))(hS:Sep [h,one k2 ⟨[.nilSlice],0⟩,one k3 ⟨[.int .i64 0, .int .i64 0, .int .i64 0],0⟩] H):
 Awp Tryd.prog w0 ⟨59,[d],GP w0 59 [d] [(2, .ptr (.own k2) 0),(3, .ptr (.own k3) 0)] (qoc l h k2 k3)⟩ (WW 2 (qcM Tryd.f6)) (retQ fun sX hX=>qcW Tryd.prog w0 [.cell 2 23, .cell 3 28] (qoV w0 l h) .ret sX hX) [(0,v),(2, .ptr (.own k2) 0),(3, .ptr (.own k3) 0)] (H):=by
 have eb_2:H k2=some _:=hS.at_ (i:=1) rfl;have eb_3:H k3=some _:=hS.at_ (i:=2) rfl;have ne_2_3:k2≠k3:=hS.ne (i:=1) (j:=2) rfl rfl (by decide);have hs_H:Sub h H:=hS.in_ (i:=0) rfl;have hlv:=hv.live;have nv:=Yl hv;have hbu:Uc Tryd.prog 60 [(0,v)]=⟨True, .agg [v, .int .i64 0, .nilSlice]⟩:=by generalize l.map Zh=X at hv;cases hv<;>kernel_rfl
 change Awp _ _ _ (Code.seq _ _) _ _ _;refine awp_rseq [0,2,3,4] (by rfl) fun K hK=>?_;simp+decide only[qh,qi,qj,qo,ev,qZ,qY,putD,Vz,VA,VB,Ka,VC,VD,Kb,and_true,↓qW,qU,↓Wm,ZU,↓Zz,bld60_0,evP,Ke,Vh,Ym,Zr,ZV,Ue,ZA,Wt,ZW,qM,ne_eq,not_false_eq_true,qO w0 eb_2,qO w0 eb_3,ne_2_3,ne_2_3.symm,qN,qJ,VE,setAt,VF,Kj,qC,VG,Kn,Jp,Nat.reduceAdd,qF,qG,qI,qf,qK,qa,qz,qd,qE,qc,qA,qg,qH,qy,allLive,J4,tokV,posV,faultV,hlv,nv,hbu];repeat (with_reducible refine And.intro ?_ ?_;· first|trivial|omega|(intro hg;simp only[Ky,JH,Jh,VH,VI,VJ,decide_eq_true_eq,decide_eq_false_iff_not,qR]at hg;omega))
 refine qcu (v:= .agg [v, .int .i64 0, .nilSlice]) (cs:=[v, .int .i64 0, .nilSlice]) (by rfl) (by simp+decide only[qH,allLive,qG,qa,hlv,J4]) (by rfl) fun k2q2 hk2q2=>?_;simp+decide only[qh,qi,qj,qo,ev,qZ,qY,putD,Vz,VA,VB,Ka,VC,VD,Kb,and_true,↓qV,qP,qM,ne_eq,not_false_eq_true,qO w0 eb_2,qO w0 eb_3,ne_2_3,ne_2_3.symm,qN,qJ,VE,setAt,VF,Kj,qC,VG,Kn,Jp,Nat.reduceAdd,qF,qG,qI,qf,qK,qa,qz,qd,qE,qc,qA,qg,qH,qy,allLive,J4,tokV,posV,faultV,hlv,nv,hbu];repeat (with_reducible refine And.intro ?_ ?_;· first|trivial|omega|(intro hg;simp only[Ky,JH,Jh,VH,VI,VJ,decide_eq_true_eq,decide_eq_false_iff_not,qR]at hg;omega))
 apply hK;clear hK K;refine Qp ?_;obtain⟨H3,hH3⟩:∃H3,H3=H.set k2q2 ⟨[v, .int .i64 0, .nilSlice],0⟩:=⟨_,rfl⟩
 refine BJ (h':=H3) (by rw[hH3];exact Vg _) ?_;have hS3:=hS.lay hk2q2 ⟨[v, .int .i64 0, .nilSlice],0⟩;rw[<-hH3]at hS3;simp only[Kh,Jd]at hS3;have eb_2:H3 k2=some _:=hS3.at_ (i:=1) rfl;have eb_3:H3 k3=some _:=hS3.at_ (i:=2) rfl;have eb_2q2:H3 k2q2=some _:=hS3.at_ (i:=3) rfl;have ne_2_2q2:k2≠k2q2:=hS3.ne (i:=1) (j:=3) rfl rfl (by decide);have ne_3_2q2:k3≠k2q2:=hS3.ne (i:=2) (j:=3) rfl rfl (by decide);have hs_H3:Sub h H3:=hS3.in_ (i:=0) rfl;refine awp_rseq [0,2,3,4,11] (by rfl) fun K hK=>?_;simp+decide only[qh,qi,qj,qo,ev,qZ,qY,putD,Vz,VA,VB,Ka,VC,VD,Kb,and_true,↓qW,qU,↓XG,Xh,QE Tryd.underlying31,QT Tryd.underlying31,↓Qj,Qa,Qm,cond_false,Qh,UE,qM,ne_eq,not_false_eq_true,qO w0 eb_2,qO w0 eb_3,qO w0 eb_2q2,ne_2_3,ne_2_3.symm,qN,qJ,VE,setAt,VF,Kj,qC,VG,Kn,Jp,Nat.reduceAdd,qF,qG,qI,qf,qK,qa,qz,qd,qE,qc,qA,qg,qH,qy,allLive,J4,tokV,posV,faultV,hlv,nv];repeat (with_reducible refine And.intro ?_ ?_;· first|trivial|omega|(intro hg;simp only[Ky,JH,Jh,VH,VI,VJ,decide_eq_true_eq,decide_eq_false_iff_not,qR]at hg;omega))
 apply hK;clear hK K;refine Qw (b:=_) rfl (fun hb1=>?_) (fun hb1=>?_)
 ·try simp only[decide_eq_true_eq,decide_eq_false_iff_not,Jh,VJ,Ky,VH,JH,VI,VV,VW,reduceCtorEq]at hb1
  refine YO 1 (by rfl) (by rfl) ?_;simp only[Ki,Bj];simp+decide only[qh,qi,qj,qo,ev,qZ,qY,putD,Vz,VA,VB,Ka,VC,VD,Kb,and_true,↓qW,qU,qM,ne_eq,not_false_eq_true,qO w0 eb_2,qO w0 eb_3,qO w0 eb_2q2,ne_2_3,ne_2_3.symm,qN,qJ,VE,setAt,VF,Kj,qC,VG,Kn,Jp,Nat.reduceAdd,qF,qG,qI,qf,qK,qa,qz,qd,qE,qc,qA,qg,qH,qy,allLive,J4,tokV,posV,faultV,hlv,nv];repeat (with_reducible refine And.intro ?_ ?_;· first|trivial|omega|(intro hg;simp only[Ky,JH,Jh,VH,VI,VJ,decide_eq_true_eq,decide_eq_false_iff_not,qR]at hg;omega))
  refine⟨⟨_,_,by rfl,?_⟩,fun i=>match i with|0=> .inr rfl|1=> .inr rfl|2=> .inl rfl|3=> .inl rfl|i+4=> .inr (by simp[VA])⟩;exact(qdI w0 _ h k2q2 v .nilSlice l 0 3 65536 eb_2q2 hs_H3 hv hl (by omega)).mono (fun _ _ q=>q) fun x h' ⟨q1,q2⟩=>⟨hs_H3.trans q2,_,ParseR.long (by omega),q1,⟨_,q2 _ _ eb_2⟩,_,_,_,q2 _ _ eb_3⟩
 ·try simp only[decide_eq_true_eq,decide_eq_false_iff_not,Jh,VJ,Ky,VH,JH,VI,VV,VW,reduceCtorEq]at hb1
  have hl5:l.length<=65536:=by omega
  refine QJ ?_;change Awp _ _ _ _ _ _ _;refine Qp ?_;refine QL ?_;refine XI [0,2,3,4] (fun g:PaG=>[(0,v),(2, .ptr (.own k2) 0),(3, .ptr (.own k3) 0),(4, .ptr (.own k2q2) 0)]) (fun g:PaG=>g.H) (fun g:PaG=>PaI w0 l h k2 k3 k2q2 v g) (fun g:PaG=>l.length-g.i) ⟨0, .nilSlice,emp,[], .nilSlice,emp,emp,H3⟩ (by rfl) (Vg _) ⟨hS3.emp.emp.emp,⟨hv, .nil,rfl,Jq _⟩, .nil,rfl,(fun q hq=>by cases hq),Jq _,fun r hr=>hr⟩ ?_;rintro⟨i,ov,op,qs,rv,rp,E,H⟩ ⟨hS,hP,hrow,hG,hels,hfew,hgo⟩;simp only at hS hP hrow hG hels hfew hgo|-
  have eb_2:H k2=some _:=hS.at_ (i:=1) rfl;have eb_3:H k3=some _:=hS.at_ (i:=2) rfl;have eb_2q2:H k2q2=some _:=hS.at_ (i:=3) rfl;have hs_H:Sub h H:=hS.in_ (i:=0) rfl;have hrl:=hrow.live;refine Qp ?_;refine awp_rseq [0,2,3,4,20] (by rfl) fun K hK=>?_;simp+decide only[qh,qi,qj,qo,ev,qZ,qY,putD,Vz,VA,VB,Ka,VC,VD,Kb,and_true,↓qW,qU,↓XE,Xg,XP,XF,↓Qo,Qd,Wl,↓Qu,QM,Qi ag3,↓XG,Xh,QE Tryd.underlying31,QT Tryd.underlying31,↓Qj,Qa,Qz,cond_false,Qh,Zo,qM,ne_eq,not_false_eq_true,qO w0 eb_2,qO w0 eb_3,qO w0 eb_2q2,ne_2_3,ne_2_3.symm,qN,qJ,VE,setAt,VF,Kj,qC,VG,Kn,Jp,Nat.reduceAdd,qF,qG,qI,qf,qK,qa,qz,qd,qE,qc,qA,qg,qH,qy,allLive,J4,tokV,posV,faultV,hlv,nv];repeat (with_reducible refine And.intro ?_ ?_;· first|trivial|omega|(intro hg;simp only[Ky,JH,Jh,VH,VI,VJ,decide_eq_true_eq,decide_eq_false_iff_not,qR]at hg;omega))
  apply hK;clear hK K;refine Qw (b:=_) rfl (fun hb2=>?_) (fun hb2=>?_)
  ·try simp only[decide_eq_true_eq,decide_eq_false_iff_not,Jh,VJ,Ky,VH,JH,VI,VV,VW,reduceCtorEq]at hb2
   have hil:i<l.length:=by omega
   have hdj:[h,one k2 ⟨[rv],0⟩,one k3 ⟨[.int .i64 0, .int .i64 0, .int .i64 0],0⟩,rp,E].Pairwise disj:=(hS.pick [0,1,2,5,6] (by decide) (by simp)).2;have hu:=Yb hdj;obtain⟨BB,hBB⟩:∃BB,BB=qaY [h,one k2 ⟨[rv],0⟩,one k3 ⟨[.int .i64 0, .int .i64 0, .int .i64 0],0⟩,rp,E]:=⟨_,rfl⟩
   rw[<-hBB]at hu;have hcall:=(c_list w0 hm ha l (by omega) hsh H BB k2q2 v ov op [] i (by rw[hBB];exact BK (ps:=[h,one k2 ⟨[rv],0⟩,one k3 ⟨[.int .i64 0, .int .i64 0, .int .i64 0],0⟩,rp,E]) (hS.pick [0,1,2,5,6,3,4] (by decide) (by simp))) ⟨hv.mono (hu h (by simp)),hP.open_,hP.isG,hP.at_⟩ (fun f hf=>by cases hf) rfl).mono (R':=qhM w0 l BB k2q2 v [] 1 i) (Rp':=qoc l h k2 k3) (fun _ _ q=>q) fun x h' ⟨f,q1,q2,q3⟩=>⟨(hu h (by simp)).trans q3,f,Ea (by omega) (hgo _ (SentR.bad hil q1)),q2,⟨rv,q3 _ _ (hu _ (by simp) _ _ (one_at _ _))⟩,_,_,_,q3 _ _ (hu (one k3 ⟨[.int .i64 0, .int .i64 0, .int .i64 0],0⟩) (by simp) _ _ (one_at _ _))⟩
   refine QJ ?_;change Awp _ _ _ _ _ _ _;refine QL ?_;refine Qp ?_;have hR2:∀x h',qhM w0 l BB k2q2 v [] 1 i x h'->h' k2=some ⟨[rv],0⟩:=fun x h' ⟨L,j,ov2,op2,E2,q1,q2,q3,q4,q5,q6⟩=>q6.in_ (i:=0) rfl _ _ (hu _ (by simp) _ _ (one_at _ _));refine qnN (v0:=rv) (v1:= .ptr (.own k2q2) 0) (R:=qhM w0 l BB k2q2 v [] 1 i) mixed (by rfl) rfl rfl (by rfl) (by kernel_rfl) (by kernel_rfl) (by kernel_rfl) (by kernel_rfl) (by kernel_rfl) (by kernel_rfl) (by kernel_rfl) (by kernel_rfl) (fun s' h' hh hs=>?_) (fun s' hs=>?_) (fun s' hs=>?_) (fun s' x h' hx hs=>?_)
   ·have e2:h' k2=some ⟨[rv],0⟩:=by
     rcases hh with rfl|⟨x,hx⟩
     ·exact eb_2
     ·exact hR2 x h' hx
    have es:VA s' 2= .ptr (.own k2) 0:=by rcases hs with rfl|rfl|⟨x,rfl⟩<;>rfl
    show(YC Tryd.prog w0 h' 23 (s'.get 2)).pre/\(YC Tryd.prog w0 h' 23 (s'.get 2)).val=rv
    rw[es,Qi qhb,qO w0 e2];exact⟨hrl,rfl⟩
   ·have es:VA s' 4= .ptr (.own k2q2) 0:=by rcases hs with rfl|rfl<;>rfl
    exact⟨trivial,es⟩
   ·refine⟨⟨19,[],rfl,?_⟩,?_⟩
    ·have es:evs s' [Operand.tmp 22, .const (.int .i64 1)]=[.ptr (.own k2q2) 0, .int .i64 1]:=by rcases hs with rfl|rfl|rfl<;>rfl
     show ACallE _ _ _ (evs s' [Operand.tmp 22, .const (.int .i64 1)]++[]) _ _ _
     rw[es];exact hcall
    ·intro i
     match i with
     |0=>exact .inr rfl
     |1=>exact .inr rfl
     |2=>rcases hs with rfl|rfl|rfl<;>exact .inl rfl
     |3=>rcases hs with rfl|rfl|rfl<;>exact .inl rfl
     |i+4=>exact .inr (by simp[VA])
   obtain⟨L,j,ov2,op2,E2,hR,hij,hLn,hsts,hP2,hS2⟩:=hx;rw[hBB]at hS2;have hS2:=hS2.unfold hdj;have hse:s'=[(0,v),(2, .ptr (.own k2) 0),(3, .ptr (.own k3) 0),(4, .ptr (.own k2q2) 0),(20, .bool (decide ((i:Int)<(l.length:Int)))),(21,rv),(22, .ptr (.own k2q2) 0),(23,x)]:=by rcases hs with rfl|rfl|rfl<;>rfl
   subst hse;obtain⟨qL,hqL,hrL,hels2⟩:=(show StsV w0 (31+1) E2 x L from hsts)
   have hjl:=hP2.at_;have hqn:qL.length=L.length:=by rw[hqL,Jn]
   refine Ya (es:=5) (v:=rv) (p:=rp) (xs:=qs.map qdV) (ys:=qL.map qdV) (i:=3) (by rfl) (by rfl) Tryd.underlying23 Tryd.underlying23 (fun k e=>by cases e) WJ by48 qka (by rfl) (by decide) (by rfl) hrow hG rfl hS2 (by rfl) (hrL.mono (hS2.in_ (i:=7) rfl)) (qrr fun q hq=>⟨(hels2 q hq).1.scal,(hels2 q hq).2.scal⟩) (by simp only[Jn];omega) (by simp only[Jn];omega) fun rv2 rp2 h6 hrow2 hG2 hS6=>?_;refine QR (v:=rv2) (by rfl) (by rfl) (hS6.at_ (i:=1) rfl) qrp hrow2.live (by rw[hrow2.cells];rfl) (by simp only[hrow2.cells,KX,JD];omega) (Jq _) (by rw[hrow2.cells];simp[XR,hrow2.scal]) ?_;simp only[hrow2.cells,setAt,VF,Kj,Jp,Nat.reduceAdd];rw[qh];show Awp _ _ _ _ _ _ _
   obtain⟨H7,hH7⟩:∃H7,H7=h6.set k2 ⟨[rv2],0⟩:=⟨_,rfl⟩
   refine BJ (h':=H7) (by rw[hH7];exact Vg _) ?_;have hS7:=hS6.put (i:=1) rfl ⟨[rv2],0⟩;rw[<-hH7]at hS7;simp only[VF,Kj,Kh,Jd]at hS7;have eb_2:H7 k2=some _:=hS7.at_ (i:=1) rfl;have eb_3:H7 k3=some _:=hS7.at_ (i:=2) rfl;have eb_2q2:H7 k2q2=some _:=hS7.at_ (i:=5) rfl;have hs_H7:Sub h H7:=hS7.in_ (i:=0) rfl;have hlo2:=hP2.open_.live;refine Awp.keep [0,2,3,4] ?_;refine Qp ?_;have mcase:(∃(lc:AM.Loc) (o:Nat) (cc:Cap),v= .slice lc o l.length cc/\j<l.length/\decide ((j:Int)=(l.length:Int))=false/\rd w0 H7 lc (o+j*5)= .int .u8 (l.getD j noT).kind.toNat/\decide (((l.getD j noT).kind.toNat:Int)=6)=decide ((l.getD j noT).kind=6)/\decide (j=l.length\/(l.getD j noT).kind≠6)= !decide ((l.getD j noT).kind=6))\/
    (∃(lc:AM.Loc) (o:Nat) (cc:Cap),v=v/\¬j<l.length/\decide ((j:Int)=(l.length:Int))=true/\True/\True/\decide (j=l.length\/(l.getD j noT).kind≠6)=true):=by
    by_cases hlt:j<l.length
    ·obtain⟨lc,o,cc,hve⟩:=YA hv (by omega)
     have hv2:=hv.mono hs_H7;rw[hve]at hv2;refine .inl ⟨lc,o,cc,hve,hlt,by rw[decide_eq_false_iff_not];omega,(Uy hv2 hlt).1,Wj _ 6,?_⟩;by_cases q:(l.getD j noT).kind=6
     ·rw[decide_eq_true q,decide_eq_false]
      ·rfl
      ·rintro(z|z)
       ·omega
       ·exact z q
     ·rw[decide_eq_false q,decide_eq_true (.inr q)];rfl
    ·exact .inr ⟨.base 0,0, .exact 0,rfl,hlt,by rw[decide_eq_true_eq];omega,trivial,trivial,decide_eq_true (.inl (by omega))⟩
   refine awp_rseq [0,2,3,4,42] (by rfl) fun K hK=>?_;suffices hM:∀b:Bool,b=decide (j=l.length\/(l.getD j noT).kind≠6)->K [(0,v),(2, .ptr (.own k2) 0),(3, .ptr (.own k3) 0),(4, .ptr (.own k2q2) 0),(42, .bool b)] (H7) by
    rcases mcase with⟨lc,o,cc,hve,hkl,hkd,e0,hk6,hfin⟩|⟨lc,o,cc,hve,hkl,hkd,e0,hk6,hfin⟩<;>(
     simp+decide only[qh,qi,qj,qo,ev,qZ,qY,putD,Vz,VA,VB,Ka,VC,VD,Kb,and_true,↓qW,qU,↓XE,Xg,XP,XF,↓Qo,Qd,Wl,↓Qu,QM,Qi ag3,↓XG,Xh,QE Tryd.underlying31,QT Tryd.underlying31,↓Qj,Qa,Qz,cond_false,Qh,ZE,↓Zj,agP,Xw,gv,QB,QD,QC,Qs,Qg,Qe,Zk,implies_true,VK,decide_true,decide_false,VL,VM,Qc,Qb,forall_const,false_implies,Qk,Qf,J4,VN,VO,VP,VQ,VS,VT,VU,Xb,Xc,Xa,↓qes,qgS,qgT,↓XW,XN,XO,↓ZG,Zt,Wn,ZP,ZO,ZN,ZM,ZL,ZK,ZI,ZJ,↓Ye,Uv,Uu,Ut,Us,Ur,Uo,Uj,Ui,Un,Um,Ul,Uk,Ql Tryd.underlying31 Yv,YL,YK,YN,YM,Ud,Qi qha,↓XT,Qm,Zb,Za,Zd,Zc,qai,↓XH,Xj,QO,QH,QG,QA,Xo,Xn,Xm,Xl,QZ,Xk,qM,ne_eq,not_false_eq_true,qO w0 eb_2,qO w0 eb_3,qO w0 eb_2q2,ne_2_3,ne_2_3.symm,qN,qJ,VE,setAt,VF,Kj,qC,VG,Kn,Jp,Nat.reduceAdd,qF,qG,qI,qf,qK,qa,qz,qd,qE,qc,qA,qg,qH,qy,allLive,J4,tokV,posV,faultV,hlv,nv,hlv,nv,hve,hkd,e0,hk6,VX,K6,qaL,Qb,Qc,VP,VO];repeat (with_reducible refine And.intro ?_ ?_;· first|trivial|omega|(intro hg;simp only[Ky,JH,Jh,VH,VI,VJ,decide_eq_true_eq,decide_eq_false_iff_not,qR]at hg;omega))
     first|exact hM _ hfin.symm|(rw[hve]at hM;exact hM _ hfin.symm))
   intro b hb_7;apply hK;clear hK K;refine Qw (b:=_) rfl (fun hb3=>?_) (fun hb3=>?_)
   ·try simp only[decide_eq_true_eq,decide_eq_false_iff_not,Jh,VJ,Ky,VH,JH,VI,VV,VW,reduceCtorEq]at hb3
    have hend:j=l.length\/(l.getD j noT).kind≠6:=of_decide_eq_true (by rw[<-hb_7];exact hb3);refine YO 5 (by rfl) (by rfl) ?_;simp only[Ki,Bj];simp+decide only[qh,qi,qj,qo,ev,qZ,qY,putD,Vz,VA,VB,Ka,VC,VD,Kb,and_true,↓qW,qU,↓XE,Xg,XP,XF,↓Qo,Qd,Wl,↓Qu,QM,Qi ag3,qM,ne_eq,not_false_eq_true,qO w0 eb_2,qO w0 eb_3,qO w0 eb_2q2,ne_2_3,ne_2_3.symm,qN,qJ,VE,setAt,VF,Kj,qC,VG,Kn,Jp,Nat.reduceAdd,qF,qG,qI,qf,qK,qa,qz,qd,qE,qc,qA,qg,qH,qy,allLive,J4,tokV,posV,faultV,hlv,nv];repeat (with_reducible refine And.intro ?_ ?_;· first|trivial|omega|(intro hg;simp only[Ky,JH,Jh,VH,VI,VJ,decide_eq_true_eq,decide_eq_false_iff_not,qR]at hg;omega))
    refine⟨⟨_,_,by rfl,?_⟩,fun i=>match i with|0=> .inr rfl|1=> .inr rfl|2=> .inl rfl|3=> .inl rfl|i+4=> .inr (by simp[VA])⟩;exact(qdI w0 _ h k2q2 v ov2 l j 4 j eb_2q2 hs_H7 hv hl (by omega)).mono (fun _ _ q=>q) fun x h' ⟨q1,q2⟩=>⟨hs_H7.trans q2,_,Ea (by omega) (hgo _ (SentR.open hil hR hend)),q1,⟨_,q2 _ _ eb_2⟩,_,_,_,q2 _ _ eb_3⟩
   ·try simp only[decide_eq_true_eq,decide_eq_false_iff_not,Jh,VJ,Ky,VH,JH,VI,VV,VW,reduceCtorEq]at hb3
    have hend:¬(j=l.length\/(l.getD j noT).kind≠6):=of_decide_eq_false (by rw[<-hb_7];exact hb3);have hjl2:j<l.length:=by
     rcases KT j l.length with z|z
     ·exact z
     ·exact absurd (.inl (by omega)) hend
    have hwj:IntKind.i64.wrap ((j:Int)+1)=((j+1:Nat):Int):=by rw[wrap_i64 (by omega) (by omega)];omega
    refine QJ ?_;change Awp _ _ _ _ _ _ _;refine XZ [0,2,3,4] (by rfl) ?_;simp+decide only[qh,qi,qj,qo,ev,qZ,qY,putD,Vz,VA,VB,Ka,VC,VD,Kb,and_true,↓qW,qU,↓XE,Xg,XP,XF,↓Qo,Qd,Wl,↓Qu,QM,Qi ag3,↓Qj,Qa,Qm,cond_false,Qh,XM,qM,ne_eq,not_false_eq_true,qO w0 eb_2,qO w0 eb_3,qO w0 eb_2q2,ne_2_3,ne_2_3.symm,qN,qJ,VE,setAt,VF,Kj,qC,VG,Kn,Jp,Nat.reduceAdd,qF,qG,qI,qf,qK,qa,qz,qd,qE,qc,qA,qg,qH,qy,allLive,J4,tokV,posV,faultV,hlv,nv,hwj];try simp(disch:=omega)only[wrap_i64,wrap_u8]
    repeat (with_reducible refine And.intro ?_ ?_;· first|trivial|omega|(intro hg;simp only[Ky,JH,Jh,VH,VI,VJ,decide_eq_true_eq,decide_eq_false_iff_not,qR]at hg;omega))
    refine QR (by rfl) (by rfl) zqA sz3 (by rfl) (by rfl) zqD (Jq _) (by rfl) ?_;simp only[Bi,setAt,VE,VF,Kj,Jp,Nat.reduceAdd];simp+decide only[qh,qi,qj,qo,ev,qZ,qY,putD,Vz,VA,VB,Ka,VC,VD,Kb,and_true,qM,ne_eq,not_false_eq_true,qO w0 eb_2,qO w0 eb_3,qO w0 eb_2q2,ne_2_3,ne_2_3.symm,qN,qJ,VE,setAt,VF,Kj,qC,VG,Kn,Jp,Nat.reduceAdd,qF,qG,qI,qf,qK,qa,qz,qd,qE,qc,qA,qg,qH,qy,allLive,J4,tokV,posV,faultV,hlv,nv,hwj];repeat (with_reducible refine And.intro ?_ ?_;· first|trivial|omega|(intro hg;simp only[Ky,JH,Jh,VH,VI,VJ,decide_eq_true_eq,decide_eq_false_iff_not,qR]at hg;omega))
    try simp only[QK,Qt]
    have hS8:=(BK (ps:=[E,E2]) ((hS7.put (i:=5) rfl (parB3 v (j+1) ov2)).pick [4,7,0,1,2,5,6,3] (by decide) (by simp))).pick [1,2,3,4,5,6,0] (by decide) (by simp);have hue:=Yb (ps:=[E,E2]) (hS7.pick [4,7] (by decide) (by simp)).2;refine⟨⟨j+1,ov2,op2,qs++qL,rv2,rp2,qaY [E,E2],H7.set k2q2 (parB3 v (j+1) ov2)⟩,rfl,Vg _,⟨hS8,⟨hv,hP2.open_,hP2.isG,hjl2⟩,by simp only;rw[VZ];exact hrow2,hG2,fun q hq=>?_,by simp only[Jb];omega,fun r hr=>?_⟩,by simp only;omega⟩
    ·rcases JS.1 hq with z|z
     ·exact⟨(hels q z).1.mono (hue E (by simp)),(hels q z).2.mono (hue E (by simp)) fun _ _=>BL (hue E (by simp))⟩
     ·exact⟨(hels2 q z).1.mono (hue E2 (by simp)),(hels2 q z).2.mono (hue E2 (by simp)) fun _ _=>BL (hue E2 (by simp))⟩
    ·refine hgo r (SentR.next hil hR hend ?_)
     simp only[VZ]at hr;rw[hqL];exact hr
  ·try simp only[decide_eq_true_eq,decide_eq_false_iff_not,Jh,VJ,Ky,VH,JH,VI,VV,VW,reduceCtorEq]at hb2
   have hin:i=l.length:=by have:=hP.at_;omega
   have hRes:ParseR QY l Xi (.ok (qs.map (·.1)) i):=Ea (by omega) (hgo _ (SentR.stop (by omega)));have hu2:=Yb (ps:=[rp,E]) (hS.pick [5,6] (by decide) (by simp)).2;have hrow3:=hrow.isL (w0:=w0) (hS.in_ (i:=5) rfl);have hck:=hrow3.clip;have hckl:=hck.live;refine XJ ?_;change Awp _ _ _ _ _ _ _;refine awp_rseq [2,3] (by rfl) fun K hK=>?_;simp+decide only[qh,qi,qj,qo,ev,qZ,qY,putD,Vz,VA,VB,Ka,VC,VD,Kb,and_true,↓Qu,QM,Qi qhb,qM,ne_eq,not_false_eq_true,qO w0 eb_2,qO w0 eb_3,qO w0 eb_2q2,ne_2_3,ne_2_3.symm,qN,qJ,VE,setAt,VF,Kj,qC,VG,Kn,Jp,Nat.reduceAdd,qF,qG,qI,qf,qK,qa,qz,qd,qE,qc,qA,qg,qH,qy,allLive,J4,tokV,posV,faultV,hlv,nv,hrl,hckl];repeat (with_reducible refine And.intro ?_ ?_;· first|trivial|omega|(intro hg;simp only[Ky,JH,Jh,VH,VI,VJ,decide_eq_true_eq,decide_eq_false_iff_not,qR]at hg;omega))
   refine XD (V:=Yd rv) (by rfl) (by rfl) (qmg w0 _ rv _ (hrow3.mono zqB)) ?_;simp+decide only[qh,qi,qj,qo,ev,qZ,qY,putD,Vz,VA,VB,Ka,VC,VD,Kb,and_true,↓Wm,ZU,↓Zz,bld28_,evP,Ke,Vh,Ym,Zr,ZV,Ue,ZA,Wt,ZW,qM,ne_eq,not_false_eq_true,qO w0 eb_2,qO w0 eb_3,qO w0 eb_2q2,ne_2_3,ne_2_3.symm,qN,qJ,VE,setAt,VF,Kj,qC,VG,Kn,Jp,Nat.reduceAdd,qF,qG,qI,qf,qK,qa,qz,qd,qE,qc,qA,qg,qH,qy,allLive,J4,tokV,posV,faultV,hlv,nv,hrl,hckl];repeat (with_reducible refine And.intro ?_ ?_;· first|trivial|omega|(intro hg;simp only[Ky,JH,Jh,VH,VI,VJ,decide_eq_true_eq,decide_eq_false_iff_not,qR]at hg;omega))
   refine QR (v:=Yd rv) (by rfl) (by rfl) eb_2 qrp hckl (by rw[hck.cells];rfl) (by simp only[hck.cells,KX,JD];omega) (Jq _) (by rw[hck.cells];simp[XR,hck.scal]) ?_;simp only[hck.cells,setAt,VF,Kj,Jp,Nat.reduceAdd];refine QR (by rfl) (by rfl) zqA qdt (by rfl) (by rfl) zqD (Jq _) (by rfl) ?_;simp only[Bi,setAt,VE,VF,Kj,Jp,Nat.reduceAdd];simp+decide only[qh,qi,qj,qo,ev,qZ,qY,putD,Vz,VA,VB,Ka,VC,VD,Kb,and_true,qM,ne_eq,not_false_eq_true,qO w0 eb_2,qO w0 eb_3,qO w0 eb_2q2,ne_2_3,ne_2_3.symm,qN,qJ,VE,setAt,VF,Kj,qC,VG,Kn,Jp,Nat.reduceAdd,qF,qG,qI,qf,qK,qa,qz,qd,qE,qc,qA,qg,qH,qy,allLive,J4,tokV,posV,faultV,hlv,nv,hrl,hckl];repeat (with_reducible refine And.intro ?_ ?_;· first|trivial|omega|(intro hg;simp only[Ky,JH,Jh,VH,VI,VJ,decide_eq_true_eq,decide_eq_false_iff_not,qR]at hg;omega))
   apply hK;clear hK K;refine Xd ?_;try simp only[QF,Qn]
   refine Xu (?_) ?_
   ·simp+decide only[UA,qcY,qak,qh,ev,VA,Ka,and_true,Kb,Vf,qcY,qak,Qi qhb,Xy qmr qdt,qid,qC,VG,Kn,Jp,Nat.reduceAdd,setAt,VF,Kj,VE,qF,qG,qI,qf,qK,qa,qz,qd,qE,qc,qA,qg,qH,qy,allLive,J4,VO,qJ,qM,ne_eq,not_false_eq_true,qO w0 eb_2,qO w0 eb_3,qO w0 eb_2q2,ne_2_3,ne_2_3.symm,qN,qJ,VE,setAt,VF,Kj,qC,VG,Kn,Jp,Nat.reduceAdd,qF,qG,qI,qf,qK,qa,qz,qd,qE,qc,qA,qg,qH,qy,allLive,J4,tokV,posV,faultV,hlv,nv,hckl]
   simp+decide only[qh,qi,qj,qo,ev,qZ,qY,putD,Vz,VA,VB,Ka,VC,VD,Kb,and_true,qic,qcY,qak,Qi qhb,Xy qmr qdt,qid,qC,VG,Kn,Jp,Nat.reduceAdd,setAt,VF,Kj,VE,qF,qG,qI,qf,qK,qa,qz,qd,qE,qc,qA,qg,qH,qy,allLive,J4,VO,qJ,qM,ne_eq,not_false_eq_true,qO w0 eb_2,qO w0 eb_3,qO w0 eb_2q2,ne_2_3,ne_2_3.symm,qN,qJ,VE,setAt,VF,Kj,qC,VG,Kn,Jp,Nat.reduceAdd,qF,qG,qI,qf,qK,qa,qz,qd,qE,qc,qA,qg,qH,qy,allLive,J4,tokV,posV,faultV,hlv,nv,hckl];have hS8:=(hS.put (i:=1) rfl ⟨[Yd rv],0⟩).put (i:=2) rfl ⟨[.int .i64 0, .int .i64 0, .int .i64 0],0⟩;exact⟨_,Vg _,hS8.in_ (i:=0) rfl,_,_,_,hRes,rfl,qs,rfl,(hrow.isL (w0:=w0) (hS8.in_ (i:=5) rfl)).clip,fun q hq=>⟨(hels q hq).1.mono (hS8.in_ (i:=6) rfl),(hels q hq).2.mono (hS8.in_ (i:=6) rfl) fun _ _=>BL (hS8.in_ (i:=6) rfl)⟩⟩
def qiW(w0:World)(l:List TokC)(h:AHeap):AVal->AHeap->Prop:=fun r h'=>Sub h h'/\((∃f,ParseR QY l Xi (.bad f)/\r= .tuple [.nilSlice,faultV f])\/∃L j rv,ParseR QY l Xi (.ok L j)/\r= .tuple [rv,faultV okF]/\StsV w0 32 h' rv L)
theorem qlJ(p2 p3:Value)(w:World):(invoke (.fn (.func 17) #[p2,p3]) #[]).run Tryd.prog w= .ok (.enter 17 #[p2,p3]) w:=by
 simp[go_sem]
set_option maxHeartbeats 4000000 in
theorem qcF(w0:World)(hm:MaxL w0)(ha:Asp w0)(l:List TokC)(hl:l.length<=1000000)(hsh:Short l)(h:AHeap)(v:AVal)(hv:IsL w0 h 5 v (l.map Zh)):ACall Tryd.prog w0 6 [v] h (qiW w0 l h):=by
 refine qnS (k:=59) (rs:=[.cell 2 23, .cell 3 28]) Tryd.func6 rfl rfl rfl rfl (Vy rfl) ?_;simp only[Xe];refine awp_rseq [0,2,3] (by rfl) fun K hK=>?_;refine XL ze23 (cs:=[.nilSlice]) (by rfl) fun k0q0 hk0q0=>?_;try have hf_0q0:h k0q0=none:=by first|assumption|(simp only[V7]at hk0q0;simp only[hk0q0])
 refine XL qje (cs:=[.int .i64 0, .int .i64 0, .int .i64 0]) (by rfl) fun k0q1 hk0q1=>?_;have ne_0q1_0q0:k0q1≠k0q0:=by simp only[V7]at hk0q1;simp only[hk0q1,ne_eq,not_false_eq_true]
 try have hf_0q1:h k0q1=none:=by first|assumption|(simp only[V7]at hk0q1;simp only[hk0q1])
 simp+decide only[qh,qi,qj,qo,ev,qZ,qY,putD,Vz,VA,VB,Ka,VC,VD,Kb,and_true,qM,ne_eq,not_false_eq_true,ne_0q1_0q0,ne_0q1_0q0.symm,qN,qJ,VE,setAt,VF,Kj,qC,VG,Kn,Jp,Nat.reduceAdd,qF,qG,qI,qf,qK,qa,qz,qd,qE,qc,qA,qg,qH,qy,allLive,J4,tokV,posV,faultV];repeat (with_reducible refine And.intro ?_ ?_;· first|trivial|omega|(intro hg;simp only[Ky,JH,Jh,VH,VI,VJ,decide_eq_true_eq,decide_eq_false_iff_not,qR]at hg;omega))
 apply hK;clear hK K;have hS:=(Eb (Eb (ps:=[h]) ⟨fun p hp=>by rw[V4.1 hp];exact Vg _,by simp⟩ hk0q0 ⟨[.nilSlice],0⟩) hk0q1 ⟨[.int .i64 0, .int .i64 0, .int .i64 0],0⟩)
 simp only[Kh,Jd]at hS;refine qnJ (pre:=[_]) (P1:=fun s h'=>qcW Tryd.prog w0 [.cell 2 23, .cell 3 28] (qoV w0 l h) .ret s h') (s₀:=[(2, .ptr (.own k0q0) 0),(3, .ptr (.own k0q1) 0)]) (Rp:=qoc l h k0q0 k0q1) (f:=17) (cap:=[.ptr (.own k0q0) 0, .ptr (.own k0q1) 0]) (by rfl) (by rfl) ?_ ?_ ?_
 ·simp+decide only[qh,ev,evs,qZ,qY,putD,Vz,VA,Ka,↓qmm,qkl,Ke,Vh,Kb,and_true]
  intro d;refine Awp.keep [0,2,3] ?_;exact l_parse w0 hm ha l hl hsh h _ k0q0 k0q1 v d hv hS
 ·intro Ps vs s' h' a w G hcap hr hs hq
  simp only[VRs,VR]at hcap;obtain⟨_,_,rfl,⟨a2,-,rfl⟩,_,_,rfl,⟨a3,-,rfl⟩,rfl⟩:=hcap;obtain⟨hp,h'',hsub,hR⟩:=hq;obtain⟨vr,g1,g2⟩:=qdv hr hs Tryd.f6 hp;refine leaves_cons (f:=17) (args:= #[.pointer (some a2), .pointer (some a3)]) (by simp) (qlJ _ _ w) ((qnE a2 a3 w).mono ?_);rintro e u' w' ⟨rfl,rfl,rfl⟩;exact⟨vr,g1,vr,rfl,Ps,_,h'',Ps.le_refl,hr.forget hsub,g2,hR.1, .inr hR.2⟩
 ·intro Ps vs vf y h' a w G hcap hr hvf hRp hs
  simp only[VRs]at hcap;obtain⟨p2,_,rfl,h2,p3,_,rfl,h3,rfl⟩:=hcap;obtain⟨hsh',f,q1,rfl,⟨b,e2⟩,y1,y2,y3,e3⟩:=hRp;have ne:k0q0≠k0q1:=hS.ne (i:=1) (j:=2) rfl rfl (by decide);have hn1:h k0q1=none:=(Ve _ _ ne.symm).symm.trans hk0q1;refine leaves_cons (f:=17) (args:= #[p2,p3]) (by simp) (qlJ _ _ w) ((qpP w0 Ps w h' h k0q0 k0q1 hsh' hk0q0 hn1 b b y1 y2 y3 f p2 p3 vf e2 e3 ne hr h2 h3 hvf).mono ?_);rintro e u' w' ⟨r,rfl,rfl,χ,h2',hle,hr2,g2,g3,g4⟩;have hs2:SRel χ ⟨59,[dOf 17 [p2,p3]],G⟩ [(2, .ptr (.own k0q0) 0),(3, .ptr (.own k0q1) 0)] a:=hs.mono hle;have hpr:UA Tryd.prog w0 [(2, .ptr (.own k0q0) 0),(3, .ptr (.own k0q1) 0)] h2' Tryd.f6.results.toList:=by
   show UA Tryd.prog w0 _ _ [.cell 2 23, .cell 3 28]
   simp+decide only[UA,qak,ev,VA,Ka,and_true,Kb,Qi qhb,Xy qmr qdt,qO w0 g2,qO w0 g3,qC,VG,Kn,Jp,Nat.reduceAdd,qa,qG,allLive,J4]
  have hro:qbF Tryd.prog w0 [(2, .ptr (.own k0q0) 0),(3, .ptr (.own k0q1) 0)] h2' Tryd.f6.results.toList= .tuple [.nilSlice,faultV f]:=by
   show qbF Tryd.prog w0 _ _ [.cell 2 23, .cell 3 28]=_
   simp+decide only[qic,qak,ev,VA,Ka,Qi qhb,Xy qmr qdt,qO w0 g2,qO w0 g3,qC,VG,Kn,Jp,Nat.reduceAdd]
  obtain⟨vr,r1,r2⟩:=qdv hr2 hs2 Tryd.f6 hpr;rw[hro]at r2;exact⟨vr,r1,vr,rfl,χ,_,h2',hle,hr2,r2,g4, .inl ⟨f,q1,rfl⟩⟩
end Go.Proofs.YtgiadjbiimkbiaaDoor
namespace Go.Stm
open Go.Col (Str)
open Go.Tok
def YU:Nat->List StC->Bool
 |0,l=>decide (0<l.length)
 |m+1,l=>l.any fun s=>s.bodies.any fun b=>YU m b.2.2
def ZY:Nat->List StC->Nat
 |0,l=>l.length
 |m+1,l=>l.length+(l.map fun s=>(s.bodies.map fun b=>ZY m b.2.2).sum).sum
def YR(a b:List TokC):Bool:=decide (a.map (fun t=>(t.kind,t.text))=b.map (fun t=>(t.kind,t.text)))
def SmallS:Nat->List StC->Prop
 |0,l=>l.length<=1000000
 |m+1,l=>l.length<=1000000/\∀s∈l,s.bodies.length<=1000000/\s.phrases.length<=1000000/\(∀p∈s.phrases,p.toks.length<=1000000)/\∀b∈s.bodies,b.2.1.length<=1000000/\SmallS m b.2.2
theorem SmallS.len{m:Nat}{l:List StC}(h:SmallS m l):l.length<=1000000:=by cases m<;>first|exact h|exact h.1
end Go.Stm
namespace Go.Proofs.YtgiadjbiimkbiaaDoor
open Go.AM
open Go.Proofs
open Go.Col (Str FaultC okF)
open Go.Tok (TokC)
open Go.Stm
open Go.RowKit (Below)
set_option maxRecDepth 100000
def qdR:StC×AVal×AVal:=(.mk [] 0 0 [] [], .nilSlice, .nilSlice)
theorem qdW{w0:World}{h:AHeap}{lc:AM.Loc}{o:Nat}{c:Cap}{qs:List (StC×AVal×AVal)}(ht:IsL w0 h 5 (.slice lc o qs.length c) (qs.map qdV)){i:Nat}(hi:i<qs.length):
 rd w0 h lc (o+i*5)= .str (qs.getD i qdR).1.verb/\rd w0 h lc (o+i*5+1)= .int .i64 (qs.getD i qdR).1.line/\rd w0 h lc (o+i*5+2)= .int .i64 (qs.getD i qdR).1.col/\rd w0 h lc (o+i*5+3)=(qs.getD i qdR).2.1/\rd w0 h lc (o+i*5+4)=(qs.getD i qdR).2.2:=by
 have he:=ht.elem (i:=i) (by rw[Jn];exact hi);rw[getD_map qdR hi]at he;simp only[qC,qdV,List.cons.injEq,and_true]at he;exact he
theorem qeA{w0:World}{h:AHeap}{v:AVal}{qs:List (StC×AVal×AVal)}(ht:IsL w0 h 5 v (qs.map qdV))(hn:0<qs.length):∃lc o c,v= .slice lc o qs.length c:=by
 obtain⟨lc,o,c,e⟩:=ht.open (fun e=>by rw[List.map_eq_nil_iff]at e;subst e;simp at hn);rw[Jn]at e;exact⟨lc,o,c,e⟩
theorem qgu{w0:World}{h:AHeap}{v:AVal}{qs:List (StC×AVal×AVal)}(ht:IsL w0 h 5 v (qs.map qdV)):∀H:AHeap,YZ Tryd.prog H 23 v=⟨True, .int .i64 qs.length⟩:=by
 intro H;have:=ht.len Tryd.underlying23 H
 rwa [Jn]at this
structure D1G where
 j:Nat
 H:AHeap
structure D2G where
 j:Nat
 H:AHeap
theorem qmo{α β:Type}{qs:List (α×β)}{p:α->Bool}{j:Nat}{d:α×β}(hj:j<qs.length):((qs.drop j).map (·.1)).any p=(p (qs.getD j d).1||((qs.drop (j+1)).map (·.1)).any p):=by
 rw[J9 hj,Ke,List.any_cons];congr 1;simp[Ko,hj]
theorem qez{w0:World}{d:Nat}{h:AHeap}{v:AVal}{l:List StC}(hs:StsV w0 d h v l)(hsm:SmallS d l):∃qs:List (StC×AVal×AVal),l=qs.map (·.1)/\IsL w0 h 5 v (qs.map qdV)/\∀q∈qs,PhV w0 h q.2.1 q.1.phrases/\BdV w0 (StsV w0 (d-1) h) h q.2.2 q.1.bodies/\q.1.bodies.length<=1000000/\q.1.phrases.length<=1000000/\(∀p∈q.1.phrases,p.toks.length<=1000000)/\∀b∈q.1.bodies,b.2.1.length<=1000000/\SmallS (d-1) b.2.2:=by
 cases d with
 |zero=>exact⟨[],hs.1,hs.2,fun q hq=>by cases hq⟩
 |succ d=>
  obtain⟨qs,e,a,b⟩:=hs;exact⟨qs,e,a,fun q hq=>⟨(b q hq).1,(b q hq).2,hsm.2 q.1 (by rw[e];exact Ec (f:=(·.1)) hq)⟩⟩
theorem c_deep0(w0:World)(d:Nat)(h:AHeap)(v:AVal)(l:List StC)(hs:StsV w0 d h v l):ACall Tryd.prog w0 33 [v, .int .i64 0] h (fun r h'=>r= .bool (YU 0 l)/\Sub h h'):=by
 have nL:=qau hs;have hlv:=hs.shape.1;have hR:YU 0 l=decide (0<l.length):=rfl;rw[hR];refine Xf (n:=34) (rs:=[.tmp 4]) Tryd.func33 rfl rfl rfl rfl (Vy rfl) ?_;simp only[Xe];refine awp_rseq [0,1] (by rfl) fun K hK=>?_;simp+decide only[qh,qi,qj,qo,ev,qZ,qY,putD,Vz,VA,VB,Ka,VC,VD,Kb,and_true,↓qV,qP,qM,ne_eq,not_false_eq_true,qN,qJ,VE,setAt,VF,Kj,qC,VG,Kn,Jp,Nat.reduceAdd,qF,qG,qI,qf,qK,qa,qz,qd,qE,qc,qA,qg,qH,qy,allLive,J4,tokV,nL,hlv];repeat (with_reducible refine And.intro ?_ ?_;· first|trivial|omega|(intro hg;simp only[Ky,JH,Jh,VH,VI,VJ,decide_eq_true_eq,decide_eq_false_iff_not,qR]at hg;omega))
 apply hK;clear hK K;refine Qp ?_;refine awp_rseq [0,1,10] (by rfl) fun K hK=>?_;simp+decide only[qh,qi,qj,qo,ev,qZ,qY,putD,Vz,VA,VB,Ka,VC,VD,Kb,and_true,↓qW,qU,↓Qj,Qa,Qm,cond_false,Qh,ZE,qM,ne_eq,not_false_eq_true,qN,qJ,VE,setAt,VF,Kj,qC,VG,Kn,Jp,Nat.reduceAdd,qF,qG,qI,qf,qK,qa,qz,qd,qE,qc,qA,qg,qH,qy,allLive,J4,tokV,nL,hlv];repeat (with_reducible refine And.intro ?_ ?_;· first|trivial|omega|(intro hg;simp only[Ky,JH,Jh,VH,VI,VJ,decide_eq_true_eq,decide_eq_false_iff_not,qR]at hg;omega))
 apply hK;clear hK K;refine Qw (b:=_) rfl (fun hb1=>?_) (fun hb1=>?_)
 ·try simp only[decide_eq_true_eq,decide_eq_false_iff_not,Jh,VJ,Ky,VH,JH,VI,VV,VW,reduceCtorEq]at hb1
  refine awp_rseq [4] (by rfl) fun K hK=>?_;simp+decide only[qh,qi,qj,qo,ev,qZ,qY,putD,Vz,VA,VB,Ka,VC,VD,Kb,and_true,↓qW,qU,↓XG,Xh,QE Tryd.underlying23,QT Tryd.underlying23,↓Qj,Qa,Qm,cond_false,Qh,UE,↓qV,qP,qM,ne_eq,not_false_eq_true,qN,qJ,VE,setAt,VF,Kj,qC,VG,Kn,Jp,Nat.reduceAdd,qF,qG,qI,qf,qK,qa,qz,qd,qE,qc,qA,qg,qH,qy,allLive,J4,tokV,nL,hlv];repeat (with_reducible refine And.intro ?_ ?_;· first|trivial|omega|(intro hg;simp only[Ky,JH,Jh,VH,VI,VJ,decide_eq_true_eq,decide_eq_false_iff_not,qR]at hg;omega))
  apply hK;clear hK K;refine Xd ?_;try simp only[QF,Qn]
  refine XV h zqC (Qr (Qv)) ?_;simp+decide only[qh,qi,qj,qo,ev,qZ,qY,putD,Vz,VA,VB,Ka,VC,VD,Kb,and_true,QU,qM,ne_eq,not_false_eq_true,qN,qJ,VE,setAt,VF,Kj,qC,VG,Kn,Jp,Nat.reduceAdd,qF,qG,qI,qf,qK,qa,qz,qd,qE,qc,qA,qg,qH,qy,allLive,J4,tokV,nL,hlv];exact⟨by congr 1;rw[Bool.eq_iff_iff];simp only[decide_eq_true_eq];omega,Vg _⟩
 ·cases hb1
set_option maxHeartbeats 8000000 in
theorem c_deepS(w0:World)(m d:Nat)(h:AHeap)(v:AVal)(l:List StC)(hm:m<=1000)(hs:StsV w0 d h v l)(hsm:SmallS d l)
 (ih:∀(h':AHeap) (v:AVal) (l:List StC),StsV w0 (d-1) h' v l->SmallS (d-1) l->ACall Tryd.prog w0 33 [v, .int .i64 m] h' (fun r h''=>r= .bool (YU m l)/\Sub h' h'')):
 ACall Tryd.prog w0 33 [v, .int .i64 ((m+1:Nat):Int)] h (fun r h'=>r= .bool (YU (m+1) l)/\Sub h h'):=by
 obtain⟨qs,hqe,hqL,hels⟩:=qez hs hsm;have nL:=qgu hqL;have hlv:=hqL.live;have hln:qs.length<=1000000:=by have:=hsm.len;rw[hqe,Jn]at this;exact this
 have hR:YU (m+1) l=(qs.map (·.1)).any fun s=>s.bodies.any fun b=>YU m b.2.2:=by rw[<-hqe];rfl
 obtain⟨R,hRR⟩:∃R,R=YU (m+1) l:=⟨_,rfl⟩
 rw[<-hRR]at hR|-
 refine Xf (n:=34) (rs:=[.tmp 4]) Tryd.func33 rfl rfl rfl rfl (Vy rfl) ?_;simp only[Xe];refine awp_rseq [0,1] (by rfl) fun K hK=>?_;simp+decide only[qh,qi,qj,qo,ev,qZ,qY,putD,Vz,VA,VB,Ka,VC,VD,Kb,and_true,↓qV,qP,qM,ne_eq,not_false_eq_true,qN,qJ,VE,setAt,VF,Kj,qC,VG,Kn,Jp,Nat.reduceAdd,qF,qG,qI,qf,qK,qa,qz,qd,qE,qc,qA,qg,qH,qy,allLive,J4,tokV,nL,hlv];repeat (with_reducible refine And.intro ?_ ?_;· first|trivial|omega|(intro hg;simp only[Ky,JH,Jh,VH,VI,VJ,decide_eq_true_eq,decide_eq_false_iff_not,qR]at hg;omega))
 apply hK;clear hK K;refine Qp ?_;refine awp_rseq [0,1,10] (by rfl) fun K hK=>?_;simp+decide only[qh,qi,qj,qo,ev,qZ,qY,putD,Vz,VA,VB,Ka,VC,VD,Kb,and_true,↓qW,qU,↓Qj,Qa,Qm,cond_false,Qh,ZE,qM,ne_eq,not_false_eq_true,qN,qJ,VE,setAt,VF,Kj,qC,VG,Kn,Jp,Nat.reduceAdd,qF,qG,qI,qf,qK,qa,qz,qd,qE,qc,qA,qg,qH,qy,allLive,J4,tokV,nL,hlv];repeat (with_reducible refine And.intro ?_ ?_;· first|trivial|omega|(intro hg;simp only[Ky,JH,Jh,VH,VI,VJ,decide_eq_true_eq,decide_eq_false_iff_not,qR]at hg;omega))
 apply hK;clear hK K;refine Qw (b:=_) rfl (fun hb1=>?_) (fun hb1=>?_)
 ·have:=of_decide_eq_true hb1;omega
 ·try simp only[decide_eq_true_eq,decide_eq_false_iff_not,Jh,VJ,Ky,VH,JH,VI,VV,VW,reduceCtorEq]at hb1
  refine QJ ?_;change Awp _ _ _ _ _ _ _;refine Qp ?_;refine awp_rseq [1,14,15,16] (by rfl) fun K hK=>?_;simp+decide only[qh,qi,qj,qo,ev,qZ,qY,putD,Vz,VA,VB,Ka,VC,VD,Kb,and_true,↓qW,qU,↓XG,Xh,QE Tryd.underlying23,QT Tryd.underlying23,qM,ne_eq,not_false_eq_true,qN,qJ,VE,setAt,VF,Kj,qC,VG,Kn,Jp,Nat.reduceAdd,qF,qG,qI,qf,qK,qa,qz,qd,qE,qc,qA,qg,qH,qy,allLive,J4,tokV,nL,hlv];repeat (with_reducible refine And.intro ?_ ?_;· first|trivial|omega|(intro hg;simp only[Ky,JH,Jh,VH,VI,VJ,decide_eq_true_eq,decide_eq_false_iff_not,qR]at hg;omega))
  apply hK;clear hK K;refine QL ?_;refine XI [1,14,15,16] (fun g:D1G=>[(1, .int .i64 ((m+1:Nat):Int)),(14,v),(15, .int .i64 qs.length),(16, .int .i64 g.j)]) (fun g:D1G=>g.H) (fun g:D1G=>Sub h g.H/\g.j<=qs.length/\R=((qs.drop g.j).map (·.1)).any fun s=>s.bodies.any fun b=>YU m b.2.2) (fun g:D1G=>qs.length-g.j) ⟨0,h⟩ (by rfl) (Vg _) ⟨Vg _,Jq _,hR⟩ ?_;rintro⟨j,H⟩ ⟨hs_H,hj,hg⟩;simp only at hs_H hj hg|-
  refine awp_rseq [1,14,15,16,17] (by rfl) fun K hK=>?_;simp+decide only[qh,qi,qj,qo,ev,qZ,qY,putD,Vz,VA,VB,Ka,VC,VD,Kb,and_true,↓Qj,Qa,Qz,cond_false,Qh,Zo,qM,ne_eq,not_false_eq_true,qN,qJ,VE,setAt,VF,Kj,qC,VG,Kn,Jp,Nat.reduceAdd,qF,qG,qI,qf,qK,qa,qz,qd,qE,qc,qA,qg,qH,qy,allLive,J4,tokV,nL,hlv];repeat (with_reducible refine And.intro ?_ ?_;· first|trivial|omega|(intro hg;simp only[Ky,JH,Jh,VH,VI,VJ,decide_eq_true_eq,decide_eq_false_iff_not,qR]at hg;omega))
  apply hK;clear hK K;refine Qp (Qw (b:=_) rfl (fun hb2=>?_) (fun hb2=>?_))
  ·try simp only[decide_eq_true_eq,decide_eq_false_iff_not,Jh,VJ,Ky,VH,JH,VI,VV,VW,reduceCtorEq]at hb2
   have hj':j<qs.length:=by omega
   obtain⟨q,hqj⟩:∃q,q=qs.getD j qdR:=⟨_,rfl⟩
   have hqm:q∈qs:=by rw[hqj,Ko,JB hj'];exact Vr hj'
   obtain⟨lc,o,cc,hpe⟩:=qeA hqL (by omega);have hq2:=hqL.mono hs_H;rw[hpe]at hq2;obtain⟨e0,e1,e2,e3,e4⟩:=qdW hq2 hj';rw[<-hqj]at e0 e1 e2 e3 e4;obtain⟨hph,hbd,hbn,hpn,hpt,hbb⟩:=hels q hqm;have hst:=qmo (p:=fun s:StC=>s.bodies.any fun b=>YU m b.2.2) (d:=qdR) hj';rw[<-hg,<-hqj]at hst;have hl1:=hph.live;have hs1:=hph.scal;have hl2:=hbd.live;have hs2:=hbd.scal;have hs3:=hs1;have hs4:=hs2;obtain⟨ql,hql,hqb,hqq⟩:=id hbd;have nb:=qdJ hqb;have hbn2:ql.length<=1000000:=by rw[hql,Jn]at hbn;exact hbn
   obtain⟨qs1,qp,qb⟩:=q;simp only at e0 e1 e2 e3 e4 hl1 hs1 hl2 hs2 hs3 hs4 hst nb hqb hql hbb;rw[hql]at hst;obtain⟨X,hX⟩:∃X,X=((qs.drop (j+1)).map (·.1)).any fun s=>s.bodies.any fun b=>YU m b.2.2:=⟨_,rfl⟩
   rw[<-hX]at hst;have hwj:IntKind.i64.wrap ((j:Int)+1)=((j+1:Nat):Int):=by rw[wrap_i64 (by omega) (by omega)];omega
   refine QJ ?_;change Awp _ _ _ _ _ _ _;refine Qp ?_;refine QL ?_;refine awp_rseq [1,6,14,15,16] (by rfl) fun K hK=>?_;simp+decide only[qh,qi,qj,qo,ev,qZ,qY,putD,Vz,VA,VB,Ka,VC,VD,Kb,and_true,↓QV,QM,Ql Tryd.underlying23 WJ,↓Qu,Xy qgm WJ,qM,ne_eq,not_false_eq_true,qN,qJ,VE,setAt,VF,Kj,qC,VG,Kn,Jp,Nat.reduceAdd,qF,qG,qI,qf,qK,qa,qz,qd,qE,qc,qA,qg,qH,qy,allLive,J4,tokV,nL,hlv,hpe,e0,e1,e2,e3,e4,hl1,hl2,VO,VX,K6];repeat (with_reducible refine And.intro ?_ ?_;· first|trivial|omega|(intro hg;simp only[Ky,JH,Jh,VH,VI,VJ,decide_eq_true_eq,decide_eq_false_iff_not,qR]at hg;omega))
   refine XL qka (cs:=[.str [], .int .i64 0, .int .i64 0, .nilSlice, .nilSlice]) (by rfl) fun k5q2 hk5q2=>?_;have hn_5q2:H k5q2=none:=by first|assumption|(simp only[V7]at hk5q2;simp only[hk5q2])
   have hf_5q2:h k5q2=none:=Bh hs_H hn_5q2;refine QR (by rfl) (by rfl) zqA WJ (by rfl) (by rfl) zqD (Jq _) (by first|rfl|(simp+decide only[ev,putD,Vz,VA,Ka,VE,XR,J4,VO,hs1,hs2,hs3,hs4,qaa,UZ,WH])) ?_;simp only[Bi,setAt,VE,VF,Kj,Jp,Nat.reduceAdd];simp+decide only[qh,qi,qj,qo,ev,qZ,qY,putD,Vz,VA,VB,Ka,VC,VD,Kb,and_true,qM,ne_eq,not_false_eq_true,qN,qJ,VE,setAt,VF,Kj,qC,VG,Kn,Jp,Nat.reduceAdd,qF,qG,qI,qf,qK,qa,qz,qd,qE,qc,qA,qg,qH,qy,allLive,J4,tokV,nL,hlv,hpe,e0,e1,e2,e3,e4,hl1,hl2,VO,VX,K6];repeat (with_reducible refine And.intro ?_ ?_;· first|trivial|omega|(intro hg;simp only[Ky,JH,Jh,VH,VI,VJ,decide_eq_true_eq,decide_eq_false_iff_not,qR]at hg;omega))
   apply hK;clear hK K;refine awp_rseq [1,14,15,16,21,22,23] (by rfl) fun K hK=>?_;simp+decide only[qh,qi,qj,qo,ev,qZ,qY,putD,Vz,VA,VB,Ka,VC,VD,Kb,and_true,↓Qo,Qd,WG,↓Qu,QM,Qi qdL,↓XG,Xh,QE Tryd.underlying46,QT Tryd.underlying46,↓qW,qU,qM,ne_eq,not_false_eq_true,qN,qJ,VE,setAt,VF,Kj,qC,VG,Kn,Jp,Nat.reduceAdd,qF,qG,qI,qf,qK,qa,qz,qd,qE,qc,qA,qg,qH,qy,allLive,J4,tokV,nL,hlv,nb,hl2];repeat (with_reducible refine And.intro ?_ ?_;· first|trivial|omega|(intro hg;simp only[Ky,JH,Jh,VH,VI,VJ,decide_eq_true_eq,decide_eq_false_iff_not,qR]at hg;omega))
   apply hK;clear hK K;refine QL ?_;refine XI [1,14,15,16,21,22,23] (fun g:D2G=>[(1, .int .i64 ((m+1:Nat):Int)),(14,v),(15, .int .i64 qs.length),(16, .int .i64 j),(21,qb),(22, .int .i64 ql.length),(23, .int .i64 g.j)]) (fun g:D2G=>g.H) (fun g:D2G=>Sub h g.H/\g.j<=ql.length/\R=((((ql.drop g.j).map (·.1)).any fun b=>YU m b.2.2)||X)) (fun g:D2G=>ql.length-g.j) ⟨0,_⟩ (by rw[hpe];rfl) (Vg _) ⟨zqB,Jq _,hst⟩ ?_;rintro⟨a,H2⟩ ⟨hs_H2,ha,hga⟩;simp only at hs_H2 ha hga|-
   refine awp_rseq [1,14,15,16,21,22,23,24] (by rfl) fun K hK=>?_;simp+decide only[qh,qi,qj,qo,ev,qZ,qY,putD,Vz,VA,VB,Ka,VC,VD,Kb,and_true,↓Qj,Qa,Qz,cond_false,Qh,Zo,qM,ne_eq,not_false_eq_true,qN,qJ,VE,setAt,VF,Kj,qC,VG,Kn,Jp,Nat.reduceAdd,qF,qG,qI,qf,qK,qa,qz,qd,qE,qc,qA,qg,qH,qy,allLive,J4,tokV,nL,hlv];repeat (with_reducible refine And.intro ?_ ?_;· first|trivial|omega|(intro hg;simp only[Ky,JH,Jh,VH,VI,VJ,decide_eq_true_eq,decide_eq_false_iff_not,qR]at hg;omega))
   apply hK;clear hK K;refine Qp (Qw (b:=_) rfl (fun hb3=>?_) (fun hb3=>?_))
   ·try simp only[decide_eq_true_eq,decide_eq_false_iff_not,Jh,VJ,Ky,VH,JH,VI,VV,VW,reduceCtorEq]at hb3
    have ha':a<ql.length:=by omega
    obtain⟨b,hbe⟩:∃b,b=ql.getD a qdc:=⟨_,rfl⟩
    have hbm:b∈ql:=by rw[hbe,Ko,JB ha'];exact Vr ha'
    obtain⟨lb,ob,cb,hbp⟩:=qbO hqb (by omega);have hb2:=hqb.mono hs_H2;rw[hbp]at hb2;obtain⟨f0,f1,f2⟩:=qer hb2 ha';rw[<-hbe]at f0 f1 f2;obtain⟨hbt,hbs⟩:=hqq b hbm;have hsb:SmallS (d-1) b.1.2.2:=(hbb b.1 (by rw[hql];exact Ec (f:=(·.1)) hbm)).2;have hst2:=qmo (p:=fun b:BodC=>YU m b.2.2) (d:=qdc) ha';rw[<-hbe]at hst2;rw[hst2]at hga;have hl3:=hbt.live;have hs3:=hbt.scal;obtain⟨hl4,hs4,hc4⟩:=hbs.shape;obtain⟨⟨bw,bt,bL⟩,btv,blv⟩:=b;simp only at f0 f1 f2 hbs hsb hga hl3 hs3 hl4 hs4;have hwa:IntKind.i64.wrap ((a:Int)+1)=((a+1:Nat):Int):=by rw[wrap_i64 (by omega) (by omega)];omega
    have hwm:IntKind.i64.wrap (((m+1:Nat):Int)-1)=(m:Int):=by rw[wrap_i64 (by omega) (by omega)];omega
    refine QJ ?_;change Awp _ _ _ _ _ _ _;refine Qp ?_;refine QL ?_;refine awp_rseq [1,8,14,15,16,21,22,23] (by rfl) fun K hK=>?_;simp+decide only[qh,qi,qj,qo,ev,qZ,qY,putD,Vz,VA,VB,Ka,VC,VD,Kb,and_true,↓QV,QM,Ql Tryd.underlying46 UW,↓Qu,Xy qmp UW,qM,ne_eq,not_false_eq_true,qN,qJ,VE,setAt,VF,Kj,qC,VG,Kn,Jp,Nat.reduceAdd,qF,qG,qI,qf,qK,qa,qz,qd,qE,qc,qA,qg,qH,qy,allLive,J4,tokV,nL,hlv,hbp,f0,f1,f2,hl3,hl4,VO,VX,K6];repeat (with_reducible refine And.intro ?_ ?_;· first|trivial|omega|(intro hg;simp only[Ky,JH,Jh,VH,VI,VJ,decide_eq_true_eq,decide_eq_false_iff_not,qR]at hg;omega))
    refine XL qjZ (cs:=[.str [], .nilSlice, .nilSlice]) (by rfl) fun k8q2 hk8q2=>?_;have hn_8q2:H2 k8q2=none:=by first|assumption|(simp only[V7]at hk8q2;simp only[hk8q2])
    have hf_8q2:h k8q2=none:=Bh hs_H2 hn_8q2;refine QR (by rfl) (by rfl) zqA UW (by rfl) (by rfl) zqD (Jq _) (by first|rfl|(simp+decide only[ev,putD,Vz,VA,Ka,VE,XR,J4,VO,hs1,hs2,hs3,hs4,qaa,UZ,WH])) ?_;simp only[Bi,setAt,VE,VF,Kj,Jp,Nat.reduceAdd];simp+decide only[qh,qi,qj,qo,ev,qZ,qY,putD,Vz,VA,VB,Ka,VC,VD,Kb,and_true,qM,ne_eq,not_false_eq_true,qN,qJ,VE,setAt,VF,Kj,qC,VG,Kn,Jp,Nat.reduceAdd,qF,qG,qI,qf,qK,qa,qz,qd,qE,qc,qA,qg,qH,qy,allLive,J4,tokV,nL,hlv,hbp,f0,f1,f2,hl3,hl4,VO,VX,K6];repeat (with_reducible refine And.intro ?_ ?_;· first|trivial|omega|(intro hg;simp only[Ky,JH,Jh,VH,VI,VJ,decide_eq_true_eq,decide_eq_false_iff_not,qR]at hg;omega))
    apply hK;clear hK K;refine awp_rseq [1,14,15,16,21,22,23,31] (by rfl) fun K hK=>?_;simp+decide only[qh,qi,qj,qo,ev,qZ,qY,putD,Vz,VA,VB,Ka,VC,VD,Kb,and_true,↓Qo,Qd,qdE,↓Qu,QM,Qi qhb,↓qW,qU,↓Qj,Qa,Qm,cond_false,Qh,qbB,qM,ne_eq,not_false_eq_true,qN,qJ,VE,setAt,VF,Kj,qC,VG,Kn,Jp,Nat.reduceAdd,qF,qG,qI,qf,qK,qa,qz,qd,qE,qc,qA,qg,qH,qy,allLive,J4,tokV,nL,hlv,hl4,hwm];try simp(disch:=omega)only[wrap_i64,wrap_u8]
    repeat (with_reducible refine And.intro ?_ ?_;· first|trivial|omega|(intro hg;simp only[Ky,JH,Jh,VH,VI,VJ,decide_eq_true_eq,decide_eq_false_iff_not,qR]at hg;omega))
    refine QN (by rfl) (by rfl) (ih _ blv bL (hbs.mono zqB) hsb) fun x9q4 h9q4 hx9q4=>?_;obtain⟨rfl,hs9⟩:=hx9q4;have hs_h9q4:Sub h h9q4:=Bq zqC hs9;have hr_h9q4:Sub H2 h9q4:=Bq zqC hs9;have eb_8q2:=hs9 k8q2 _ zqA;simp+decide only[qh,qi,qj,qo,ev,qZ,qY,putD,Vz,VA,VB,Ka,VC,VD,Kb,and_true,qM,ne_eq,not_false_eq_true,qO w0 eb_8q2,qN,qJ,VE,setAt,VF,Kj,qC,VG,Kn,Jp,Nat.reduceAdd,qF,qG,qI,qf,qK,qa,qz,qd,qE,qc,qA,qg,qH,qy,allLive,J4,tokV,nL,hlv,hl4,hwm];repeat (with_reducible refine And.intro ?_ ?_;· first|trivial|omega|(intro hg;simp only[Ky,JH,Jh,VH,VI,VJ,decide_eq_true_eq,decide_eq_false_iff_not,qR]at hg;omega))
    apply hK;clear hK K;refine Qw (b:=_) rfl (fun hb4=>?_) (fun hb4=>?_)
    ·try simp only[decide_eq_true_eq,decide_eq_false_iff_not,Jh,VJ,Ky,VH,JH,VI,VV,VW,reduceCtorEq]at hb4
     refine awp_rseq [4] (by rfl) fun K hK=>?_;simp+decide only[qh,qi,qj,qo,ev,qZ,qY,putD,Vz,VA,VB,Ka,VC,VD,Kb,and_true,↓qV,qP,qM,ne_eq,not_false_eq_true,qO w0 eb_8q2,qN,qJ,VE,setAt,VF,Kj,qC,VG,Kn,Jp,Nat.reduceAdd,qF,qG,qI,qf,qK,qa,qz,qd,qE,qc,qA,qg,qH,qy,allLive,J4,tokV,nL,hlv];repeat (with_reducible refine And.intro ?_ ?_;· first|trivial|omega|(intro hg;simp only[Ky,JH,Jh,VH,VI,VJ,decide_eq_true_eq,decide_eq_false_iff_not,qR]at hg;omega))
     apply hK;clear hK K;refine Xd ?_;try simp only[QF,Qn]
     refine Xu (Qr (Qv)) ?_;simp+decide only[qh,qi,qj,qo,ev,qZ,qY,putD,Vz,VA,VB,Ka,VC,VD,Kb,and_true,QU,qM,ne_eq,not_false_eq_true,qO w0 eb_8q2,qN,qJ,VE,setAt,VF,Kj,qC,VG,Kn,Jp,Nat.reduceAdd,qF,qG,qI,qf,qK,qa,qz,qd,qE,qc,qA,qg,qH,qy,allLive,J4,tokV,nL,hlv];rw[hga,hb4];exact⟨h,by assumption,rfl,Vg _⟩
    ·try simp only[decide_eq_true_eq,decide_eq_false_iff_not,Jh,VJ,Ky,VH,JH,VI,VV,VW,reduceCtorEq]at hb4
     rw[hb4,VU]at hga;refine QJ ?_;change Awp _ _ _ _ _ _ _;refine XZ [1,14,15,16,21,22,23] (by rfl) ?_;simp+decide only[qh,qi,qj,qo,ev,qZ,qY,putD,Vz,VA,VB,Ka,VC,VD,Kb,and_true,↓Qj,Qa,Qm,cond_false,Qh,XM,↓qW,qU,qM,ne_eq,not_false_eq_true,qO w0 eb_8q2,qN,qJ,VE,setAt,VF,Kj,qC,VG,Kn,Jp,Nat.reduceAdd,qF,qG,qI,qf,qK,qa,qz,qd,qE,qc,qA,qg,qH,qy,allLive,J4,tokV,nL,hlv,hwa];try simp(disch:=omega)only[wrap_i64,wrap_u8]
     repeat (with_reducible refine And.intro ?_ ?_;· first|trivial|omega|(intro hg;simp only[Ky,JH,Jh,VH,VI,VJ,decide_eq_true_eq,decide_eq_false_iff_not,qR]at hg;omega))
     try simp only[QK,Qt]
     exact⟨⟨a+1,h9q4⟩,by rw[hbp];rfl,Vg _,⟨by assumption,ha',hga⟩,by simp only;omega⟩
   ·try simp only[decide_eq_true_eq,decide_eq_false_iff_not,Jh,VJ,Ky,VH,JH,VI,VV,VW,reduceCtorEq]at hb3
    have haq:a=ql.length:=by omega
    rw[haq,J8]at hga;have hgX:R=X:=by rw[hga];rfl
    refine XJ ?_;change Awp _ _ _ _ _ _ _;refine XZ [1,14,15,16] (by rfl) ?_;simp+decide only[qh,qi,qj,qo,ev,qZ,qY,putD,Vz,VA,VB,Ka,VC,VD,Kb,and_true,↓Qj,Qa,Qm,cond_false,Qh,XM,↓qW,qU,qM,ne_eq,not_false_eq_true,qN,qJ,VE,setAt,VF,Kj,qC,VG,Kn,Jp,Nat.reduceAdd,qF,qG,qI,qf,qK,qa,qz,qd,qE,qc,qA,qg,qH,qy,allLive,J4,tokV,nL,hlv,hwj];try simp(disch:=omega)only[wrap_i64,wrap_u8]
    repeat (with_reducible refine And.intro ?_ ?_;· first|trivial|omega|(intro hg;simp only[Ky,JH,Jh,VH,VI,VJ,decide_eq_true_eq,decide_eq_false_iff_not,qR]at hg;omega))
    try simp only[QK,Qt]
    exact⟨⟨j+1,H2⟩,rfl,Vg _,⟨hs_H2,hj',by rw[hgX,hX]⟩,by simp only;omega⟩
  ·try simp only[decide_eq_true_eq,decide_eq_false_iff_not,Jh,VJ,Ky,VH,JH,VI,VV,VW,reduceCtorEq]at hb2
   have hjq:j=qs.length:=by omega
   rw[hjq,J8]at hg;refine XJ ?_;change Awp _ _ _ _ _ _ _;refine awp_rseq [4] (by rfl) fun K hK=>?_;simp+decide only[qh,qi,qj,qo,ev,qZ,qY,putD,Vz,VA,VB,Ka,VC,VD,Kb,and_true,↓qV,qP,qM,ne_eq,not_false_eq_true,qN,qJ,VE,setAt,VF,Kj,qC,VG,Kn,Jp,Nat.reduceAdd,qF,qG,qI,qf,qK,qa,qz,qd,qE,qc,qA,qg,qH,qy,allLive,J4,tokV,nL,hlv];repeat (with_reducible refine And.intro ?_ ?_;· first|trivial|omega|(intro hg;simp only[Ky,JH,Jh,VH,VI,VJ,decide_eq_true_eq,decide_eq_false_iff_not,qR]at hg;omega))
   apply hK;clear hK K;refine Xd ?_;try simp only[QF,Qn]
   refine Xu (Qr (Qv)) ?_;simp+decide only[qh,qi,qj,qo,ev,qZ,qY,putD,Vz,VA,VB,Ka,VC,VD,Kb,and_true,QU,qM,ne_eq,not_false_eq_true,qN,qJ,VE,setAt,VF,Kj,qC,VG,Kn,Jp,Nat.reduceAdd,qF,qG,qI,qf,qK,qa,qz,qd,qE,qc,qA,qg,qH,qy,allLive,J4,tokV,nL,hlv];rw[hg];exact⟨H,Vg _,rfl,hs_H⟩
theorem qiF(w0:World):∀(m d:Nat) (h:AHeap) (v:AVal) (l:List StC),m<=1000->StsV w0 d h v l->SmallS d l->ACall Tryd.prog w0 33 [v, .int .i64 m] h (fun r h'=>r= .bool (YU m l)/\Sub h h')
 |0,d,h,v,l,_,hs,hsm=>c_deep0 w0 d h v l hs
 |m+1,d,h,v,l,hm,hs,hsm=>c_deepS w0 m d h v l (by omega) hs hsm fun h' v l hs hsm=>qiF w0 m (d-1) h' v l (by omega) hs hsm
structure C1G where
 j:Nat
 n:Nat
 H:AHeap
theorem qlf{α β:Type}{qs:List (α×β)}{f:α->Nat}{j:Nat}{d:α×β}(hj:j<qs.length):(((qs.drop j).map (·.1)).map f).sum=f (qs.getD j d).1+(((qs.drop (j+1)).map (·.1)).map f).sum:=by
 rw[J9 hj,Ke,Ke,List.sum_cons];congr 2;simp[Ko,hj]
theorem qth{w0:World}{h:AHeap}{v:AVal}{l:List StC}(hs:StsV w0 0 h v l):l=[]/\IsL w0 h 5 v []:=hs
theorem qsF(w0:World)(h:AHeap)(v:AVal)(hv:IsL w0 h 5 v []):ACall Tryd.prog w0 35 [v] h (fun r h'=>r= .int .i64 0/\Sub h h'):=by
 have nL:∀H:AHeap,YZ Tryd.prog H 23 v=⟨True, .int .i64 0⟩:=fun H=>hv.len Tryd.underlying23 H;have hlv:=hv.live;refine Xf (n:=31) (rs:=[.tmp 2]) Tryd.func35 rfl rfl rfl rfl (Vy rfl) ?_;simp only[Xe];refine awp_rseq [0] (by rfl) fun K hK=>?_;simp+decide only[qh,qi,qj,qo,ev,qZ,qY,putD,Vz,VA,VB,Ka,VC,VD,Kb,and_true,↓qV,qP,qM,ne_eq,not_false_eq_true,qN,qJ,VE,setAt,VF,Kj,qC,VG,Kn,Jp,Nat.reduceAdd,qF,qG,qI,qf,qK,qa,qz,qd,qE,qc,qA,qg,qH,qy,allLive,J4,tokV,nL,hlv];repeat (with_reducible refine And.intro ?_ ?_;· first|trivial|omega|(intro hg;simp only[Ky,JH,Jh,VH,VI,VJ,decide_eq_true_eq,decide_eq_false_iff_not,qR]at hg;omega))
 apply hK;clear hK K;refine awp_rseq [0,3] (by rfl) fun K hK=>?_;simp+decide only[qh,qi,qj,qo,ev,qZ,qY,putD,Vz,VA,VB,Ka,VC,VD,Kb,and_true,↓qW,qU,↓XG,Xh,QE Tryd.underlying23,QT Tryd.underlying23,↓qV,qP,qM,ne_eq,not_false_eq_true,qN,qJ,VE,setAt,VF,Kj,qC,VG,Kn,Jp,Nat.reduceAdd,qF,qG,qI,qf,qK,qa,qz,qd,qE,qc,qA,qg,qH,qy,allLive,J4,tokV,nL,hlv];repeat (with_reducible refine And.intro ?_ ?_;· first|trivial|omega|(intro hg;simp only[Ky,JH,Jh,VH,VI,VJ,decide_eq_true_eq,decide_eq_false_iff_not,qR]at hg;omega))
 apply hK;clear hK K;refine Qp ?_;refine awp_rseq [3,10,11,12] (by rfl) fun K hK=>?_;simp+decide only[qh,qi,qj,qo,ev,qZ,qY,putD,Vz,VA,VB,Ka,VC,VD,Kb,and_true,↓qW,qU,↓XG,Xh,QE Tryd.underlying23,QT Tryd.underlying23,qM,ne_eq,not_false_eq_true,qN,qJ,VE,setAt,VF,Kj,qC,VG,Kn,Jp,Nat.reduceAdd,qF,qG,qI,qf,qK,qa,qz,qd,qE,qc,qA,qg,qH,qy,allLive,J4,tokV,nL,hlv];repeat (with_reducible refine And.intro ?_ ?_;· first|trivial|omega|(intro hg;simp only[Ky,JH,Jh,VH,VI,VJ,decide_eq_true_eq,decide_eq_false_iff_not,qR]at hg;omega))
 apply hK;clear hK K;refine QL ?_;refine XI [3,10,11,12] (fun z:Unit=>[(3, .int .i64 0),(10,v),(11, .int .i64 0),(12, .int .i64 0)]) (fun z:Unit=>h) (fun z:Unit=>True) (fun z:Unit=>0) () (by rfl) (Vg _) trivial ?_;intro z _;refine awp_rseq [3,10,11,12,13] (by rfl) fun K hK=>?_;simp+decide only[qh,qi,qj,qo,ev,qZ,qY,putD,Vz,VA,VB,Ka,VC,VD,Kb,and_true,↓Qj,Qa,Qz,cond_false,Qh,Zo,qM,ne_eq,not_false_eq_true,qN,qJ,VE,setAt,VF,Kj,qC,VG,Kn,Jp,Nat.reduceAdd,qF,qG,qI,qf,qK,qa,qz,qd,qE,qc,qA,qg,qH,qy,allLive,J4,tokV,nL,hlv];repeat (with_reducible refine And.intro ?_ ?_;· first|trivial|omega|(intro hg;simp only[Ky,JH,Jh,VH,VI,VJ,decide_eq_true_eq,decide_eq_false_iff_not,qR]at hg;omega))
 apply hK;clear hK K;refine Qp (Qw (b:=_) rfl (fun hb1=>?_) (fun hb1=>?_))
 ·cases hb1
 ·try simp only[decide_eq_true_eq,decide_eq_false_iff_not,Jh,VJ,Ky,VH,JH,VI,VV,VW,reduceCtorEq]at hb1
  refine XJ ?_;change Awp _ _ _ _ _ _ _;refine awp_rseq [2] (by rfl) fun K hK=>?_;simp+decide only[qh,qi,qj,qo,ev,qZ,qY,putD,Vz,VA,VB,Ka,VC,VD,Kb,and_true,↓qW,qU,↓qV,qP,qM,ne_eq,not_false_eq_true,qN,qJ,VE,setAt,VF,Kj,qC,VG,Kn,Jp,Nat.reduceAdd,qF,qG,qI,qf,qK,qa,qz,qd,qE,qc,qA,qg,qH,qy,allLive,J4,tokV,nL,hlv];repeat (with_reducible refine And.intro ?_ ?_;· first|trivial|omega|(intro hg;simp only[Ky,JH,Jh,VH,VI,VJ,decide_eq_true_eq,decide_eq_false_iff_not,qR]at hg;omega))
  apply hK;clear hK K;refine Xd ?_;try simp only[QF,Qn]
  refine XV h zqC (Qr (Qv)) ?_;simp+decide only[qh,qi,qj,qo,ev,qZ,qY,putD,Vz,VA,VB,Ka,VC,VD,Kb,and_true,QU,qM,ne_eq,not_false_eq_true,qN,qJ,VE,setAt,VF,Kj,qC,VG,Kn,Jp,Nat.reduceAdd,qF,qG,qI,qf,qK,qa,qz,qd,qE,qc,qA,qg,qH,qy,allLive,J4,tokV,nL,hlv];exact Vg _
set_option maxHeartbeats 8000000 in
theorem qsE(w0:World)(d:Nat)(h:AHeap)(v:AVal)(l:List StC)(hs:StsV w0 (d+1) h v l)(hsm:SmallS (d+1) l)(hT:ZY (d+1) l<=1000000000000)
 (ih:∀(h':AHeap) (v:AVal) (l:List StC),StsV w0 d h' v l->SmallS d l->ZY d l<=1000000000000->ACall Tryd.prog w0 35 [v] h' (fun r h''=>r= .int .i64 (ZY d l)/\Sub h' h'')):
 ACall Tryd.prog w0 35 [v] h (fun r h'=>r= .int .i64 (ZY (d+1) l)/\Sub h h'):=by
 obtain⟨qs,hqe,hqL,hels⟩:=qez hs hsm;rw[Nat.add_sub_cancel]at hels;have nL:=qgu hqL;have hlv:=hqL.live;have hln:qs.length<=1000000:=by have:=hsm.len;rw[hqe,Jn]at this;exact this
 have hR:ZY (d+1) l=qs.length+((qs.map (·.1)).map fun s=>(s.bodies.map fun b=>ZY d b.2.2).sum).sum:=by
  rw[<-hqe];show l.length+_=qs.length+_
  rw[hqe,Jn]
 obtain⟨R,hRR⟩:∃R,R=ZY (d+1) l:=⟨_,rfl⟩
 rw[<-hRR]at hR hT|-
 refine Xf (n:=31) (rs:=[.tmp 2]) Tryd.func35 rfl rfl rfl rfl (Vy rfl) ?_;simp only[Xe];refine awp_rseq [0] (by rfl) fun K hK=>?_;simp+decide only[qh,qi,qj,qo,ev,qZ,qY,putD,Vz,VA,VB,Ka,VC,VD,Kb,and_true,↓qV,qP,qM,ne_eq,not_false_eq_true,qN,qJ,VE,setAt,VF,Kj,qC,VG,Kn,Jp,Nat.reduceAdd,qF,qG,qI,qf,qK,qa,qz,qd,qE,qc,qA,qg,qH,qy,allLive,J4,tokV,nL,hlv];repeat (with_reducible refine And.intro ?_ ?_;· first|trivial|omega|(intro hg;simp only[Ky,JH,Jh,VH,VI,VJ,decide_eq_true_eq,decide_eq_false_iff_not,qR]at hg;omega))
 apply hK;clear hK K;refine awp_rseq [0,3] (by rfl) fun K hK=>?_;simp+decide only[qh,qi,qj,qo,ev,qZ,qY,putD,Vz,VA,VB,Ka,VC,VD,Kb,and_true,↓qW,qU,↓XG,Xh,QE Tryd.underlying23,QT Tryd.underlying23,↓qV,qP,qM,ne_eq,not_false_eq_true,qN,qJ,VE,setAt,VF,Kj,qC,VG,Kn,Jp,Nat.reduceAdd,qF,qG,qI,qf,qK,qa,qz,qd,qE,qc,qA,qg,qH,qy,allLive,J4,tokV,nL,hlv];repeat (with_reducible refine And.intro ?_ ?_;· first|trivial|omega|(intro hg;simp only[Ky,JH,Jh,VH,VI,VJ,decide_eq_true_eq,decide_eq_false_iff_not,qR]at hg;omega))
 apply hK;clear hK K;refine Qp ?_;refine awp_rseq [3,10,11,12] (by rfl) fun K hK=>?_;simp+decide only[qh,qi,qj,qo,ev,qZ,qY,putD,Vz,VA,VB,Ka,VC,VD,Kb,and_true,↓qW,qU,↓XG,Xh,QE Tryd.underlying23,QT Tryd.underlying23,qM,ne_eq,not_false_eq_true,qN,qJ,VE,setAt,VF,Kj,qC,VG,Kn,Jp,Nat.reduceAdd,qF,qG,qI,qf,qK,qa,qz,qd,qE,qc,qA,qg,qH,qy,allLive,J4,tokV,nL,hlv];repeat (with_reducible refine And.intro ?_ ?_;· first|trivial|omega|(intro hg;simp only[Ky,JH,Jh,VH,VI,VJ,decide_eq_true_eq,decide_eq_false_iff_not,qR]at hg;omega))
 apply hK;clear hK K;refine QL ?_;refine XI [3,10,11,12] (fun g:C1G=>[(3, .int .i64 g.n),(10,v),(11, .int .i64 qs.length),(12, .int .i64 g.j)]) (fun g:C1G=>g.H) (fun g:C1G=>Sub h g.H/\g.j<=qs.length/\R=g.n+(((qs.drop g.j).map (·.1)).map fun s=>(s.bodies.map fun b=>ZY d b.2.2).sum).sum) (fun g:C1G=>qs.length-g.j) ⟨0,qs.length,h⟩ (by rfl) (Vg _) ⟨Vg _,Jq _,hR⟩ ?_;rintro⟨j,n,H⟩ ⟨hs_H,hj,hg⟩;simp only at hs_H hj hg|-
 refine awp_rseq [3,10,11,12,13] (by rfl) fun K hK=>?_;simp+decide only[qh,qi,qj,qo,ev,qZ,qY,putD,Vz,VA,VB,Ka,VC,VD,Kb,and_true,↓Qj,Qa,Qz,cond_false,Qh,Zo,qM,ne_eq,not_false_eq_true,qN,qJ,VE,setAt,VF,Kj,qC,VG,Kn,Jp,Nat.reduceAdd,qF,qG,qI,qf,qK,qa,qz,qd,qE,qc,qA,qg,qH,qy,allLive,J4,tokV,nL,hlv];repeat (with_reducible refine And.intro ?_ ?_;· first|trivial|omega|(intro hg;simp only[Ky,JH,Jh,VH,VI,VJ,decide_eq_true_eq,decide_eq_false_iff_not,qR]at hg;omega))
 apply hK;clear hK K;refine Qp (Qw (b:=_) rfl (fun hb1=>?_) (fun hb1=>?_))
 ·try simp only[decide_eq_true_eq,decide_eq_false_iff_not,Jh,VJ,Ky,VH,JH,VI,VV,VW,reduceCtorEq]at hb1
  have hj':j<qs.length:=by omega
  obtain⟨q,hqj⟩:∃q,q=qs.getD j qdR:=⟨_,rfl⟩
  have hqm:q∈qs:=by rw[hqj,Ko,JB hj'];exact Vr hj'
  obtain⟨lc,o,cc,hpe⟩:=qeA hqL (by omega);have hq2:=hqL.mono hs_H;rw[hpe]at hq2;obtain⟨e0,e1,e2,e3,e4⟩:=qdW hq2 hj';rw[<-hqj]at e0 e1 e2 e3 e4;obtain⟨hph,hbd,hbn,hpn,hpt,hbb⟩:=hels q hqm;have hst:=qlf (f:=fun s:StC=>(s.bodies.map fun b=>ZY d b.2.2).sum) (d:=qdR) hj';rw[<-hqj]at hst;rw[hst,<-Kw]at hg;have hl1:=hph.live;have hs1:=hph.scal;have hl2:=hbd.live;have hs2:=hbd.scal;have hs3:=hs1;have hs4:=hs2;obtain⟨ql,hql,hqb,hqq⟩:=id hbd;have nb:=qdJ hqb;have hbn2:ql.length<=1000000:=by rw[hql,Jn]at hbn;exact hbn
  obtain⟨qs1,qp,qb⟩:=q;simp only at e0 e1 e2 e3 e4 hl1 hs1 hl2 hs2 hs3 hs4 hg nb hqb hql hbb;rw[hql]at hg;obtain⟨X,hX⟩:∃X,X=(((qs.drop (j+1)).map (·.1)).map fun s=>(s.bodies.map fun b=>ZY d b.2.2).sum).sum:=⟨_,rfl⟩
  rw[<-hX]at hg;have hwj:IntKind.i64.wrap ((j:Int)+1)=((j+1:Nat):Int):=by rw[wrap_i64 (by omega) (by omega)];omega
  refine QJ ?_;change Awp _ _ _ _ _ _ _;refine Qp ?_;refine QL ?_;refine awp_rseq [3,5,10,11,12] (by rfl) fun K hK=>?_;simp+decide only[qh,qi,qj,qo,ev,qZ,qY,putD,Vz,VA,VB,Ka,VC,VD,Kb,and_true,↓QV,QM,Ql Tryd.underlying23 WJ,↓Qu,Xy qgm WJ,qM,ne_eq,not_false_eq_true,qN,qJ,VE,setAt,VF,Kj,qC,VG,Kn,Jp,Nat.reduceAdd,qF,qG,qI,qf,qK,qa,qz,qd,qE,qc,qA,qg,qH,qy,allLive,J4,tokV,nL,hlv,hpe,e0,e1,e2,e3,e4,hl1,hl2,VO,VX,K6];repeat (with_reducible refine And.intro ?_ ?_;· first|trivial|omega|(intro hg;simp only[Ky,JH,Jh,VH,VI,VJ,decide_eq_true_eq,decide_eq_false_iff_not,qR]at hg;omega))
  refine XL qka (cs:=[.str [], .int .i64 0, .int .i64 0, .nilSlice, .nilSlice]) (by rfl) fun k4q2 hk4q2=>?_;have hn_4q2:H k4q2=none:=by first|assumption|(simp only[V7]at hk4q2;simp only[hk4q2])
  have hf_4q2:h k4q2=none:=Bh hs_H hn_4q2;refine QR (by rfl) (by rfl) zqA WJ (by rfl) (by rfl) zqD (Jq _) (by first|rfl|(simp+decide only[ev,putD,Vz,VA,Ka,VE,XR,J4,VO,hs1,hs2,hs3,hs4,qaa,UZ,WH])) ?_;simp only[Bi,setAt,VE,VF,Kj,Jp,Nat.reduceAdd];simp+decide only[qh,qi,qj,qo,ev,qZ,qY,putD,Vz,VA,VB,Ka,VC,VD,Kb,and_true,qM,ne_eq,not_false_eq_true,qN,qJ,VE,setAt,VF,Kj,qC,VG,Kn,Jp,Nat.reduceAdd,qF,qG,qI,qf,qK,qa,qz,qd,qE,qc,qA,qg,qH,qy,allLive,J4,tokV,nL,hlv,hpe,e0,e1,e2,e3,e4,hl1,hl2,VO,VX,K6];repeat (with_reducible refine And.intro ?_ ?_;· first|trivial|omega|(intro hg;simp only[Ky,JH,Jh,VH,VI,VJ,decide_eq_true_eq,decide_eq_false_iff_not,qR]at hg;omega))
  apply hK;clear hK K;refine awp_rseq [3,10,11,12,17,18,19] (by rfl) fun K hK=>?_;simp+decide only[qh,qi,qj,qo,ev,qZ,qY,putD,Vz,VA,VB,Ka,VC,VD,Kb,and_true,↓Qo,Qd,WG,↓Qu,QM,Qi qdL,↓XG,Xh,QE Tryd.underlying46,QT Tryd.underlying46,↓qW,qU,qM,ne_eq,not_false_eq_true,qN,qJ,VE,setAt,VF,Kj,qC,VG,Kn,Jp,Nat.reduceAdd,qF,qG,qI,qf,qK,qa,qz,qd,qE,qc,qA,qg,qH,qy,allLive,J4,tokV,nL,hlv,nb,hl2];repeat (with_reducible refine And.intro ?_ ?_;· first|trivial|omega|(intro hg;simp only[Ky,JH,Jh,VH,VI,VJ,decide_eq_true_eq,decide_eq_false_iff_not,qR]at hg;omega))
  apply hK;clear hK K;refine QL ?_;refine XI [3,10,11,12,17,18,19] (fun g:C1G=>[(3, .int .i64 g.n),(10,v),(11, .int .i64 qs.length),(12, .int .i64 j),(17,qb),(18, .int .i64 ql.length),(19, .int .i64 g.j)]) (fun g:C1G=>g.H) (fun g:C1G=>Sub h g.H/\g.j<=ql.length/\R=g.n+(((ql.drop g.j).map (·.1)).map fun b=>ZY d b.2.2).sum+X) (fun g:C1G=>ql.length-g.j) ⟨0,n,_⟩ (by rw[hpe];rfl) (Vg _) ⟨zqB,Jq _,hg⟩ ?_;rintro⟨a,n2,H2⟩ ⟨hs_H2,ha,hga⟩;simp only at hs_H2 ha hga|-
  refine awp_rseq [3,10,11,12,17,18,19,20] (by rfl) fun K hK=>?_;simp+decide only[qh,qi,qj,qo,ev,qZ,qY,putD,Vz,VA,VB,Ka,VC,VD,Kb,and_true,↓Qj,Qa,Qz,cond_false,Qh,Zo,qM,ne_eq,not_false_eq_true,qN,qJ,VE,setAt,VF,Kj,qC,VG,Kn,Jp,Nat.reduceAdd,qF,qG,qI,qf,qK,qa,qz,qd,qE,qc,qA,qg,qH,qy,allLive,J4,tokV,nL,hlv];repeat (with_reducible refine And.intro ?_ ?_;· first|trivial|omega|(intro hg;simp only[Ky,JH,Jh,VH,VI,VJ,decide_eq_true_eq,decide_eq_false_iff_not,qR]at hg;omega))
  apply hK;clear hK K;refine Qp (Qw (b:=_) rfl (fun hb2=>?_) (fun hb2=>?_))
  ·try simp only[decide_eq_true_eq,decide_eq_false_iff_not,Jh,VJ,Ky,VH,JH,VI,VV,VW,reduceCtorEq]at hb2
   have ha':a<ql.length:=by omega
   obtain⟨b,hbe⟩:∃b,b=ql.getD a qdc:=⟨_,rfl⟩
   have hbm:b∈ql:=by rw[hbe,Ko,JB ha'];exact Vr ha'
   obtain⟨lb,ob,cb,hbp⟩:=qbO hqb (by omega);have hb2:=hqb.mono hs_H2;rw[hbp]at hb2;obtain⟨f0,f1,f2⟩:=qer hb2 ha';rw[<-hbe]at f0 f1 f2;obtain⟨hbt,hbs⟩:=hqq b hbm;have hsb:SmallS d b.1.2.2:=(hbb b.1 (by rw[hql];exact Ec (f:=(·.1)) hbm)).2;have hst2:=qlf (f:=fun b:BodC=>ZY d b.2.2) (d:=qdc) ha';rw[<-hbe]at hst2;rw[hst2,<-Kw]at hga;have hl3:=hbt.live;have hs3:=hbt.scal;obtain⟨hl4,hs4,hc4⟩:=hbs.shape;obtain⟨⟨bw,bt,bL⟩,btv,blv⟩:=b;simp only at f0 f1 f2 hbs hsb hga hl3 hs3 hl4 hs4;have hwa:IntKind.i64.wrap ((a:Int)+1)=((a+1:Nat):Int):=by rw[wrap_i64 (by omega) (by omega)];omega
   have hwm:IntKind.i64.wrap ((n2:Int)+(ZY d bL:Int))=((n2+ZY d bL:Nat):Int):=by rw[wrap_i64 (by omega) (by omega)];omega
   refine QJ ?_;change Awp _ _ _ _ _ _ _;refine Qp ?_;refine QL ?_;refine awp_rseq [3,7,10,11,12,17,18,19] (by rfl) fun K hK=>?_;simp+decide only[qh,qi,qj,qo,ev,qZ,qY,putD,Vz,VA,VB,Ka,VC,VD,Kb,and_true,↓QV,QM,Ql Tryd.underlying46 UW,↓Qu,Xy qmp UW,qM,ne_eq,not_false_eq_true,qN,qJ,VE,setAt,VF,Kj,qC,VG,Kn,Jp,Nat.reduceAdd,qF,qG,qI,qf,qK,qa,qz,qd,qE,qc,qA,qg,qH,qy,allLive,J4,tokV,nL,hlv,hbp,f0,f1,f2,hl3,hl4,VO,VX,K6];repeat (with_reducible refine And.intro ?_ ?_;· first|trivial|omega|(intro hg;simp only[Ky,JH,Jh,VH,VI,VJ,decide_eq_true_eq,decide_eq_false_iff_not,qR]at hg;omega))
   refine XL qjZ (cs:=[.str [], .nilSlice, .nilSlice]) (by rfl) fun k7q2 hk7q2=>?_;have hn_7q2:H2 k7q2=none:=by first|assumption|(simp only[V7]at hk7q2;simp only[hk7q2])
   have hf_7q2:h k7q2=none:=Bh hs_H2 hn_7q2;refine QR (by rfl) (by rfl) zqA UW (by rfl) (by rfl) zqD (Jq _) (by first|rfl|(simp+decide only[ev,putD,Vz,VA,Ka,VE,XR,J4,VO,hs1,hs2,hs3,hs4,qaa,UZ,WH])) ?_;simp only[Bi,setAt,VE,VF,Kj,Jp,Nat.reduceAdd];simp+decide only[qh,qi,qj,qo,ev,qZ,qY,putD,Vz,VA,VB,Ka,VC,VD,Kb,and_true,qM,ne_eq,not_false_eq_true,qN,qJ,VE,setAt,VF,Kj,qC,VG,Kn,Jp,Nat.reduceAdd,qF,qG,qI,qf,qK,qa,qz,qd,qE,qc,qA,qg,qH,qy,allLive,J4,tokV,nL,hlv,hbp,f0,f1,f2,hl3,hl4,VO,VX,K6];repeat (with_reducible refine And.intro ?_ ?_;· first|trivial|omega|(intro hg;simp only[Ky,JH,Jh,VH,VI,VJ,decide_eq_true_eq,decide_eq_false_iff_not,qR]at hg;omega))
   apply hK;clear hK K;refine XZ [3,10,11,12,17,18,19] (by rfl) ?_;simp+decide only[qh,qi,qj,qo,ev,qZ,qY,putD,Vz,VA,VB,Ka,VC,VD,Kb,and_true,↓qW,qU,↓Qo,Qd,qdE,↓Qu,QM,Qi qhb,qM,ne_eq,not_false_eq_true,qN,qJ,VE,setAt,VF,Kj,qC,VG,Kn,Jp,Nat.reduceAdd,qF,qG,qI,qf,qK,qa,qz,qd,qE,qc,qA,qg,qH,qy,allLive,J4,tokV,nL,hlv,hl4];repeat (with_reducible refine And.intro ?_ ?_;· first|trivial|omega|(intro hg;simp only[Ky,JH,Jh,VH,VI,VJ,decide_eq_true_eq,decide_eq_false_iff_not,qR]at hg;omega))
   refine QN (by rfl) (by rfl) (ih _ blv bL (hbs.mono zqB) hsb (by omega)) fun x8q3 h8q3 hx8q3=>?_;obtain⟨rfl,hs8⟩:=hx8q3;have hs_h8q3:Sub h h8q3:=Bq zqC hs8;have hr_h8q3:Sub H2 h8q3:=Bq zqC hs8;have eb_7q2:=hs8 k7q2 _ zqA;simp+decide only[qh,qi,qj,qo,ev,qZ,qY,putD,Vz,VA,VB,Ka,VC,VD,Kb,and_true,↓Qj,Qa,Qz,cond_false,Qh,XM,↓qV,qP,qM,ne_eq,not_false_eq_true,qO w0 eb_7q2,qN,qJ,VE,setAt,VF,Kj,qC,VG,Kn,Jp,Nat.reduceAdd,qF,qG,qI,qf,qK,qa,qz,qd,qE,qc,qA,qg,qH,qy,allLive,J4,tokV,nL,hlv,hl4,hwm];try simp(disch:=omega)only[wrap_i64,wrap_u8]
   repeat (with_reducible refine And.intro ?_ ?_;· first|trivial|omega|(intro hg;simp only[Ky,JH,Jh,VH,VI,VJ,decide_eq_true_eq,decide_eq_false_iff_not,qR]at hg;omega))
   change Awp _ _ _ _ _ _ _;refine XZ [3,10,11,12,17,18,19] (by rfl) ?_;simp+decide only[qh,qi,qj,qo,ev,qZ,qY,putD,Vz,VA,VB,Ka,VC,VD,Kb,and_true,↓Qj,Qa,Qm,cond_false,Qh,XM,↓qW,qU,qM,ne_eq,not_false_eq_true,qO w0 eb_7q2,qN,qJ,VE,setAt,VF,Kj,qC,VG,Kn,Jp,Nat.reduceAdd,qF,qG,qI,qf,qK,qa,qz,qd,qE,qc,qA,qg,qH,qy,allLive,J4,tokV,nL,hlv,hwa];try simp(disch:=omega)only[wrap_i64,wrap_u8]
   repeat (with_reducible refine And.intro ?_ ?_;· first|trivial|omega|(intro hg;simp only[Ky,JH,Jh,VH,VI,VJ,decide_eq_true_eq,decide_eq_false_iff_not,qR]at hg;omega))
   try simp only[QK,Qt]
   exact⟨⟨a+1,n2+ZY d bL,h8q3⟩,by rw[hbp];rfl,Vg _,⟨by assumption,ha',hga⟩,by simp only;omega⟩
  ·try simp only[decide_eq_true_eq,decide_eq_false_iff_not,Jh,VJ,Ky,VH,JH,VI,VV,VW,reduceCtorEq]at hb2
   have haq:a=ql.length:=by omega
   rw[haq,J8]at hga;refine XJ ?_;change Awp _ _ _ _ _ _ _;refine XZ [3,10,11,12] (by rfl) ?_;simp+decide only[qh,qi,qj,qo,ev,qZ,qY,putD,Vz,VA,VB,Ka,VC,VD,Kb,and_true,↓Qj,Qa,Qm,cond_false,Qh,XM,↓qW,qU,qM,ne_eq,not_false_eq_true,qN,qJ,VE,setAt,VF,Kj,qC,VG,Kn,Jp,Nat.reduceAdd,qF,qG,qI,qf,qK,qa,qz,qd,qE,qc,qA,qg,qH,qy,allLive,J4,tokV,nL,hlv,hwj];try simp(disch:=omega)only[wrap_i64,wrap_u8]
   repeat (with_reducible refine And.intro ?_ ?_;· first|trivial|omega|(intro hg;simp only[Ky,JH,Jh,VH,VI,VJ,decide_eq_true_eq,decide_eq_false_iff_not,qR]at hg;omega))
   try simp only[QK,Qt]
   exact⟨⟨j+1,n2,H2⟩,rfl,Vg _,⟨hs_H2,hj',by simp only;rw[hga,hX];simp⟩,by simp only;omega⟩
 ·try simp only[decide_eq_true_eq,decide_eq_false_iff_not,Jh,VJ,Ky,VH,JH,VI,VV,VW,reduceCtorEq]at hb1
  have hjq:j=qs.length:=by omega
  rw[hjq,J8]at hg;refine XJ ?_;change Awp _ _ _ _ _ _ _;refine awp_rseq [2] (by rfl) fun K hK=>?_;simp+decide only[qh,qi,qj,qo,ev,qZ,qY,putD,Vz,VA,VB,Ka,VC,VD,Kb,and_true,↓qW,qU,↓qV,qP,qM,ne_eq,not_false_eq_true,qN,qJ,VE,setAt,VF,Kj,qC,VG,Kn,Jp,Nat.reduceAdd,qF,qG,qI,qf,qK,qa,qz,qd,qE,qc,qA,qg,qH,qy,allLive,J4,tokV,nL,hlv];repeat (with_reducible refine And.intro ?_ ?_;· first|trivial|omega|(intro hg;simp only[Ky,JH,Jh,VH,VI,VJ,decide_eq_true_eq,decide_eq_false_iff_not,qR]at hg;omega))
  apply hK;clear hK K;refine Xd ?_;try simp only[QF,Qn]
  refine Xu (Qr (Qv)) ?_;simp+decide only[qh,qi,qj,qo,ev,qZ,qY,putD,Vz,VA,VB,Ka,VC,VD,Kb,and_true,QU,qM,ne_eq,not_false_eq_true,qN,qJ,VE,setAt,VF,Kj,qC,VG,Kn,Jp,Nat.reduceAdd,qF,qG,qI,qf,qK,qa,qz,qd,qE,qc,qA,qg,qH,qy,allLive,J4,tokV,nL,hlv];refine⟨H,Vg _,?_,hs_H⟩;rw[hg];simp
theorem qoR(w0:World):∀(d:Nat) (h:AHeap) (v:AVal) (l:List StC),StsV w0 d h v l->SmallS d l->ZY d l<=1000000000000->ACall Tryd.prog w0 35 [v] h (fun r h'=>r= .int .i64 (ZY d l)/\Sub h h')
 |0,h,v,l,hs,hsm,hT=>by
  obtain⟨rfl,hv⟩:=qth hs;exact qsF w0 h v hv
 |d+1,h,v,l,hs,hsm,hT=>qsE w0 d h v l hs hsm hT fun h' v l hs hsm hT=>qoR w0 d h' v l hs hsm hT
def qcO(d:Nat)(l:List StC):Nat:=if YU 32 l=true then 0 else ZY d l
theorem qhJ(w0:World)(d:Nat)(h:AHeap)(v:AVal)(l:List StC)(hs:StsV w0 d h v l)(hsm:SmallS d l)(hT:ZY d l<=1000000000000):ACall Tryd.prog w0 15 [v] h (fun r h'=>r= .int .i64 (qcO d l)/\Sub h h'):=by
 have hlv:=hs.shape.1;refine Xf (n:=7) (rs:=[.tmp 2]) Tryd.func15 rfl rfl rfl rfl (Vy rfl) ?_;simp only[Xe];refine awp_rseq [0] (by rfl) fun K hK=>?_;simp+decide only[qh,qi,qj,qo,ev,qZ,qY,putD,Vz,VA,VB,Ka,VC,VD,Kb,and_true,↓qV,qP,qM,ne_eq,not_false_eq_true,qN,qJ,VE,setAt,VF,Kj,qC,VG,Kn,Jp,Nat.reduceAdd,qF,qG,qI,qf,qK,qa,qz,qd,qE,qc,qA,qg,qH,qy,allLive,J4,tokV,hlv];repeat (with_reducible refine And.intro ?_ ?_;· first|trivial|omega|(intro hg;simp only[Ky,JH,Jh,VH,VI,VJ,decide_eq_true_eq,decide_eq_false_iff_not,qR]at hg;omega))
 apply hK;clear hK K;refine Qp ?_;refine awp_rseq [0,4] (by rfl) fun K hK=>?_;simp+decide only[qh,qi,qj,qo,ev,qZ,qY,putD,Vz,VA,VB,Ka,VC,VD,Kb,and_true,↓qW,qU,qM,ne_eq,not_false_eq_true,qN,qJ,VE,setAt,VF,Kj,qC,VG,Kn,Jp,Nat.reduceAdd,qF,qG,qI,qf,qK,qa,qz,qd,qE,qc,qA,qg,qH,qy,allLive,J4,tokV,hlv];repeat (with_reducible refine And.intro ?_ ?_;· first|trivial|omega|(intro hg;simp only[Ky,JH,Jh,VH,VI,VJ,decide_eq_true_eq,decide_eq_false_iff_not,qR]at hg;omega))
 refine QN (by rfl) (by rfl) (qiF w0 32 d _ v l (by decide) hs hsm) fun x1q1 h1q1 hx1q1=>?_;obtain⟨rfl,hs1⟩:=hx1q1;have hs_h1q1:Sub h h1q1:=Bq zqC hs1;have hr_h1q1:=hs_h1q1;simp+decide only[qh,qi,qj,qo,ev,qZ,qY,putD,Vz,VA,VB,Ka,VC,VD,Kb,and_true,qM,ne_eq,not_false_eq_true,qN,qJ,VE,setAt,VF,Kj,qC,VG,Kn,Jp,Nat.reduceAdd,qF,qG,qI,qf,qK,qa,qz,qd,qE,qc,qA,qg,qH,qy,allLive,J4,tokV,hlv];repeat (with_reducible refine And.intro ?_ ?_;· first|trivial|omega|(intro hg;simp only[Ky,JH,Jh,VH,VI,VJ,decide_eq_true_eq,decide_eq_false_iff_not,qR]at hg;omega))
 apply hK;clear hK K;refine Qw (b:=_) rfl (fun hb1=>?_) (fun hb1=>?_)
 ·try simp only[decide_eq_true_eq,decide_eq_false_iff_not,Jh,VJ,Ky,VH,JH,VI,VV,VW,reduceCtorEq]at hb1
  refine awp_rseq [2] (by rfl) fun K hK=>?_;simp+decide only[qh,qi,qj,qo,ev,qZ,qY,putD,Vz,VA,VB,Ka,VC,VD,Kb,and_true,↓qV,qP,qM,ne_eq,not_false_eq_true,qN,qJ,VE,setAt,VF,Kj,qC,VG,Kn,Jp,Nat.reduceAdd,qF,qG,qI,qf,qK,qa,qz,qd,qE,qc,qA,qg,qH,qy,allLive,J4,tokV,hlv];repeat (with_reducible refine And.intro ?_ ?_;· first|trivial|omega|(intro hg;simp only[Ky,JH,Jh,VH,VI,VJ,decide_eq_true_eq,decide_eq_false_iff_not,qR]at hg;omega))
  apply hK;clear hK K;refine Xd ?_;try simp only[QF,Qn]
  refine Xu (Qr (Qv)) ?_;simp+decide only[qh,qi,qj,qo,ev,qZ,qY,putD,Vz,VA,VB,Ka,VC,VD,Kb,and_true,QU,qM,ne_eq,not_false_eq_true,qN,qJ,VE,setAt,VF,Kj,qC,VG,Kn,Jp,Nat.reduceAdd,qF,qG,qI,qf,qK,qa,qz,qd,qE,qc,qA,qg,qH,qy,allLive,J4,tokV,hlv];exact⟨h,by assumption,by unfold qcO;rw[if_pos hb1];rfl,Vg _⟩
 ·try simp only[decide_eq_true_eq,decide_eq_false_iff_not,Jh,VJ,Ky,VH,JH,VI,VV,VW,reduceCtorEq]at hb1
  refine QJ ?_;change Awp _ _ _ _ _ _ _;refine awp_rseq [2] (by rfl) fun K hK=>?_;simp+decide only[qh,qi,qj,qo,ev,qZ,qY,putD,Vz,VA,VB,Ka,VC,VD,Kb,and_true,↓qW,qU,qM,ne_eq,not_false_eq_true,qN,qJ,VE,setAt,VF,Kj,qC,VG,Kn,Jp,Nat.reduceAdd,qF,qG,qI,qf,qK,qa,qz,qd,qE,qc,qA,qg,qH,qy,allLive,J4,tokV,hlv];repeat (with_reducible refine And.intro ?_ ?_;· first|trivial|omega|(intro hg;simp only[Ky,JH,Jh,VH,VI,VJ,decide_eq_true_eq,decide_eq_false_iff_not,qR]at hg;omega))
  refine QN (by rfl) (by rfl) (qoR w0 d _ v l (hs.mono zqB) hsm hT) fun x3q1 h3q1 hx3q1=>?_;obtain⟨rfl,hs3⟩:=hx3q1;have hs_h3q1:Sub h h3q1:=Bq zqC hs3;have hr_h3q1:Sub h1q1 h3q1:=Bq zqC hs3;simp+decide only[qh,qi,qj,qo,ev,qZ,qY,putD,Vz,VA,VB,Ka,VC,VD,Kb,and_true,↓qV,qP,qM,ne_eq,not_false_eq_true,qN,qJ,VE,setAt,VF,Kj,qC,VG,Kn,Jp,Nat.reduceAdd,qF,qG,qI,qf,qK,qa,qz,qd,qE,qc,qA,qg,qH,qy,allLive,J4,tokV,hlv];repeat (with_reducible refine And.intro ?_ ?_;· first|trivial|omega|(intro hg;simp only[Ky,JH,Jh,VH,VI,VJ,decide_eq_true_eq,decide_eq_false_iff_not,qR]at hg;omega))
  apply hK;clear hK K;refine Xd ?_;try simp only[QF,Qn]
  refine Xu (Qr (Qv)) ?_;simp+decide only[qh,qi,qj,qo,ev,qZ,qY,putD,Vz,VA,VB,Ka,VC,VD,Kb,and_true,QU,qM,ne_eq,not_false_eq_true,qN,qJ,VE,setAt,VF,Kj,qC,VG,Kn,Jp,Nat.reduceAdd,qF,qG,qI,qf,qK,qa,qz,qd,qE,qc,qA,qg,qH,qy,allLive,J4,tokV,hlv];exact⟨h,by assumption,by unfold qcO;rw[if_neg (by rw[hb1];decide)],Vg _⟩
theorem qtc{a b:List TokC}{j:Nat}(ha:j<a.length)(hb:j<b.length):YR (a.drop j) (b.drop j)=(decide ((a.getD j noT).kind=(b.getD j noT).kind) && (decide ((a.getD j noT).text=(b.getD j noT).text) && YR (a.drop (j+1)) (b.drop (j+1)))):=by
 unfold YR;rw[J9 ha,J9 hb];simp only[Ke,List.cons.injEq,Prod.mk.injEq,Ko,JB ha,JB hb,Option.getD_some];by_cases h1:a[j].kind=b[j].kind<;>by_cases h2:a[j].text=b[j].text<;>simp[h1,h2]
set_option maxHeartbeats 4000000 in
theorem qiE(w0:World)(h:AHeap)(v w:AVal)(a b:List TokC)(hv:IsL w0 h 5 v (a.map Zh))(hw:IsL w0 h 5 w (b.map Zh))(ha:a.length<=1000000):
 ACall Tryd.prog w0 55 [v,w] h (fun r h'=>r= .bool (YR a b)/\h'=h):=by
 have hlv:=hv.live;have hlw:=hw.live;have nv:=Yl hv;have nw:=Yl hw;refine Xf (n:=41) (rs:=[.tmp 4]) Tryd.func55 rfl rfl rfl rfl (Vy rfl) ?_;simp only[Xe];refine awp_rseq [0,1] (by rfl) fun K hK=>?_;simp+decide only[qh,qi,qj,qo,ev,qZ,qY,putD,Vz,VA,VB,Ka,VC,VD,Kb,and_true,↓qV,qP,qM,ne_eq,not_false_eq_true,qN,qJ,VE,setAt,VF,Kj,qC,VG,Kn,Jp,Nat.reduceAdd,qF,qG,qI,qf,qK,qa,qz,qd,qE,qc,qA,qg,qH,qy,allLive,J4,tokV,nv,nw,hlv,hlw];repeat (with_reducible refine And.intro ?_ ?_;· first|trivial|omega|(intro hg;simp only[Ky,JH,Jh,VH,VI,VJ,decide_eq_true_eq,decide_eq_false_iff_not,qR]at hg;omega))
 apply hK;clear hK K;refine Qp ?_;refine awp_rseq [0,1,10] (by rfl) fun K hK=>?_;simp+decide only[qh,qi,qj,qo,ev,qZ,qY,putD,Vz,VA,VB,Ka,VC,VD,Kb,and_true,↓qW,qU,↓XG,Xh,QE Tryd.underlying31,QT Tryd.underlying31,↓Qj,Qa,Qz,cond_false,Qh,qai,qM,ne_eq,not_false_eq_true,qN,qJ,VE,setAt,VF,Kj,qC,VG,Kn,Jp,Nat.reduceAdd,qF,qG,qI,qf,qK,qa,qz,qd,qE,qc,qA,qg,qH,qy,allLive,J4,tokV,nv,nw,hlv,hlw];repeat (with_reducible refine And.intro ?_ ?_;· first|trivial|omega|(intro hg;simp only[Ky,JH,Jh,VH,VI,VJ,decide_eq_true_eq,decide_eq_false_iff_not,qR]at hg;omega))
 apply hK;clear hK K;refine Qw (b:=_) rfl (fun hb1=>?_) (fun hb1=>?_)
 ·try simp only[decide_eq_true_eq,decide_eq_false_iff_not,Jh,VJ,Ky,VH,JH,VI,VV,VW,reduceCtorEq]at hb1
  have hne:a.length≠b.length:=by omega
  refine awp_rseq [4] (by rfl) fun K hK=>?_;simp+decide only[qh,qi,qj,qo,ev,qZ,qY,putD,Vz,VA,VB,Ka,VC,VD,Kb,and_true,↓qV,qP,qM,ne_eq,not_false_eq_true,qN,qJ,VE,setAt,VF,Kj,qC,VG,Kn,Jp,Nat.reduceAdd,qF,qG,qI,qf,qK,qa,qz,qd,qE,qc,qA,qg,qH,qy,allLive,J4,tokV,nv,nw,hlv,hlw];repeat (with_reducible refine And.intro ?_ ?_;· first|trivial|omega|(intro hg;simp only[Ky,JH,Jh,VH,VI,VJ,decide_eq_true_eq,decide_eq_false_iff_not,qR]at hg;omega))
  apply hK;clear hK K;refine Xd ?_;try simp only[QF,Qn]
  refine XV h zqC (Qr (Qv)) ?_;simp+decide only[qh,qi,qj,qo,ev,qZ,qY,putD,Vz,VA,VB,Ka,VC,VD,Kb,and_true,QU,qM,ne_eq,not_false_eq_true,qN,qJ,VE,setAt,VF,Kj,qC,VG,Kn,Jp,Nat.reduceAdd,qF,qG,qI,qf,qK,qa,qz,qd,qE,qc,qA,qg,qH,qy,allLive,J4,tokV,nv,nw,hlv,hlw];have:YR a b=false:=by
   unfold YR;rw[decide_eq_false];intro e;have:=congrArg List.length e;rw[Jn,Jn]at this;exact hne this
  rw[this]
 ·try simp only[decide_eq_true_eq,decide_eq_false_iff_not,Jh,VJ,Ky,VH,JH,VI,VV,VW,reduceCtorEq]at hb1
  have heq:a.length=b.length:=by omega
  refine QJ ?_;change Awp _ _ _ _ _ _ _;refine Qp ?_;refine awp_rseq [0,1,12,13] (by rfl) fun K hK=>?_;simp+decide only[qh,qi,qj,qo,ev,qZ,qY,putD,Vz,VA,VB,Ka,VC,VD,Kb,and_true,↓qW,qU,↓XG,Xh,QE Tryd.underlying31,QT Tryd.underlying31,qM,ne_eq,not_false_eq_true,qN,qJ,VE,setAt,VF,Kj,qC,VG,Kn,Jp,Nat.reduceAdd,qF,qG,qI,qf,qK,qa,qz,qd,qE,qc,qA,qg,qH,qy,allLive,J4,tokV,nv,nw,hlv,hlw];repeat (with_reducible refine And.intro ?_ ?_;· first|trivial|omega|(intro hg;simp only[Ky,JH,Jh,VH,VI,VJ,decide_eq_true_eq,decide_eq_false_iff_not,qR]at hg;omega))
  apply hK;clear hK K;refine QL ?_;refine XI [0,1,12,13] (fun j:Nat=>[(0,v),(1,w),(12, .int .i64 a.length),(13, .int .i64 j)]) (fun j:Nat=>h) (fun j:Nat=>j<=a.length/\YR a b=YR (a.drop j) (b.drop j)) (fun j:Nat=>a.length-j) 0 (by rfl) (Vg _) ⟨Jq _,rfl⟩ ?_;rintro j ⟨hj,hg⟩;refine awp_rseq [0,1,12,13,14] (by rfl) fun K hK=>?_;simp+decide only[qh,qi,qj,qo,ev,qZ,qY,putD,Vz,VA,VB,Ka,VC,VD,Kb,and_true,↓Qj,Qa,Qz,cond_false,Qh,Zo,qM,ne_eq,not_false_eq_true,qN,qJ,VE,setAt,VF,Kj,qC,VG,Kn,Jp,Nat.reduceAdd,qF,qG,qI,qf,qK,qa,qz,qd,qE,qc,qA,qg,qH,qy,allLive,J4,tokV,nv,nw,hlv,hlw];repeat (with_reducible refine And.intro ?_ ?_;· first|trivial|omega|(intro hg;simp only[Ky,JH,Jh,VH,VI,VJ,decide_eq_true_eq,decide_eq_false_iff_not,qR]at hg;omega))
  apply hK;clear hK K;refine Qp (Qw (b:=_) rfl (fun hb2=>?_) (fun hb2=>?_))
  ·try simp only[decide_eq_true_eq,decide_eq_false_iff_not,Jh,VJ,Ky,VH,JH,VI,VV,VW,reduceCtorEq]at hb2
   have hj1:j<a.length:=by omega
   have hj2:j<b.length:=by omega
   obtain⟨lc,o,c,hve⟩:=YA hv (by omega);obtain⟨lw,ow,cw,hwe⟩:=YA hw (by omega);have hv2:=hv;have hw2:=hw;rw[hve]at hv2;rw[hwe]at hw2;obtain⟨e0,e1,-⟩:=Uy hv2 hj1;obtain⟨f0,f1,-⟩:=Uy hw2 hj2;have hst:=qtc hj1 hj2;obtain⟨t,ht⟩:∃t,t=a.getD j noT:=⟨_,rfl⟩
   obtain⟨u,hu⟩:∃u,u=b.getD j noT:=⟨_,rfl⟩
   rw[<-ht]at e0 e1 hst;rw[<-hu]at f0 f1 hst;have hk:=Wj t.kind u.kind;have hjb:((j:Int)<(b.length:Int))=True:=eq_true (by omega);have hja:((j:Int)<(a.length:Int))=True:=eq_true (by omega);have hwj:IntKind.i64.wrap ((j:Int)+1)=((j+1:Nat):Int):=by rw[wrap_i64 (by omega) (by omega)];omega
   refine QJ ?_;change Awp _ _ _ _ _ _ _;refine Qp ?_;refine QL ?_;refine awp_rseq [0,1,5,12,13] (by rfl) fun K hK=>?_;simp+decide only[qh,qi,qj,qo,ev,qZ,qY,putD,Vz,VA,VB,Ka,VC,VD,Kb,and_true,↓qW,qU,↓qV,qP,qM,ne_eq,not_false_eq_true,qN,qJ,VE,setAt,VF,Kj,qC,VG,Kn,Jp,Nat.reduceAdd,qF,qG,qI,qf,qK,qa,qz,qd,qE,qc,qA,qg,qH,qy,allLive,J4,tokV,nv,nw,hlv,hlw];repeat (with_reducible refine And.intro ?_ ?_;· first|trivial|omega|(intro hg;simp only[Ky,JH,Jh,VH,VI,VJ,decide_eq_true_eq,decide_eq_false_iff_not,qR]at hg;omega))
   apply hK;clear hK K;refine qaO [0,1,12,13,39] mixed (by kernel_rfl) (by rfl) (by rfl) fun K hK=>?_;simp+decide only[qh,qi,qj,qo,ev,qZ,qY,putD,Vz,VA,VB,Ka,VC,VD,Kb,and_true,↓qW,qU,↓QV,QM,Ql Tryd.underlying31 Yv,↓Qo,Qd,Ud,↓Qu,Qi qha,↓Qj,Qa,Qz,cond_false,Qh,qai,↓Zj,agP,Xw,gv,QB,QD,QC,Qs,Qg,Qe,Zk,implies_true,VK,decide_true,decide_false,VL,VM,Qc,Qb,forall_const,false_implies,Qk,Qf,J4,VN,VO,VP,VQ,VS,VT,VU,Xb,Xc,Xa,↓Ye,Zt,Wn,Uv,Uu,Ut,Us,Ur,Uo,Uj,Ui,Un,Um,Ul,Uk,YL,YK,YN,YM,↓XW,qbe,XN,XO,↓ZG,ZP,ZO,ZN,ZM,ZL,ZK,Qi ag9,ZI,ZJ,↓XT,Zb,Za,Zd,Zc,XC,qaB,↓XH,Xj,QO,QH,QG,QA,Xo,Xn,Xm,Xl,QZ,Xk,qM,ne_eq,not_false_eq_true,qN,qJ,VE,setAt,VF,Kj,qC,VG,Kn,Jp,Nat.reduceAdd,qF,qG,qI,qf,qK,qa,qz,qd,qE,qc,qA,qg,qH,qy,allLive,J4,tokV,nv,nw,hlv,hlw,hve,hwe,e0,e1,f0,f1,hk,hjb,hja,VX,K6];repeat (with_reducible refine And.intro ?_ ?_;· first|trivial|omega|(intro hg;simp only[Ky,JH,Jh,VH,VI,VJ,decide_eq_true_eq,decide_eq_false_iff_not,qR]at hg;omega))
   apply hK;clear hK K;refine Qw (b:=_) rfl (fun hb3=>?_) (fun hb3=>?_)
   ·try simp only[decide_eq_true_eq,decide_eq_false_iff_not,Jh,VJ,Ky,VH,JH,VI,VV,VW,reduceCtorEq]at hb3
    refine awp_rseq [4] (by rfl) fun K hK=>?_;simp+decide only[qh,qi,qj,qo,ev,qZ,qY,putD,Vz,VA,VB,Ka,VC,VD,Kb,and_true,↓qV,qP,qM,ne_eq,not_false_eq_true,qN,qJ,VE,setAt,VF,Kj,qC,VG,Kn,Jp,Nat.reduceAdd,qF,qG,qI,qf,qK,qa,qz,qd,qE,qc,qA,qg,qH,qy,allLive,J4,tokV,nv,nw,hlv,hlw];repeat (with_reducible refine And.intro ?_ ?_;· first|trivial|omega|(intro hg;simp only[Ky,JH,Jh,VH,VI,VJ,decide_eq_true_eq,decide_eq_false_iff_not,qR]at hg;omega))
    apply hK;clear hK K;refine Xd ?_;try simp only[QF,Qn]
    refine XV h zqC (Qr (Qv)) ?_;simp+decide only[qh,qi,qj,qo,ev,qZ,qY,putD,Vz,VA,VB,Ka,VC,VD,Kb,and_true,QU,qM,ne_eq,not_false_eq_true,qN,qJ,VE,setAt,VF,Kj,qC,VG,Kn,Jp,Nat.reduceAdd,qF,qG,qI,qf,qK,qa,qz,qd,qE,qc,qA,qg,qH,qy,allLive,J4,tokV,nv,nw,hlv,hlw];rw[hg,hst];rcases hb3 with z|z
    ·rw[decide_eq_false z];rfl
    ·rw[decide_eq_false z,VP,VN]
   ·try simp only[decide_eq_true_eq,decide_eq_false_iff_not,Jh,VJ,Ky,VH,JH,VI,VV,VW,reduceCtorEq]at hb3
    refine QJ ?_;change Awp _ _ _ _ _ _ _;refine XZ [0,1,12,13] (by rfl) ?_;simp+decide only[qh,qi,qj,qo,ev,qZ,qY,putD,Vz,VA,VB,Ka,VC,VD,Kb,and_true,↓Qj,Qa,Qm,cond_false,Qh,XM,↓qW,qU,qM,ne_eq,not_false_eq_true,qN,qJ,VE,setAt,VF,Kj,qC,VG,Kn,Jp,Nat.reduceAdd,qF,qG,qI,qf,qK,qa,qz,qd,qE,qc,qA,qg,qH,qy,allLive,J4,tokV,nv,nw,hlv,hlw,hwj];try simp(disch:=omega)only[wrap_i64,wrap_u8]
    repeat (with_reducible refine And.intro ?_ ?_;· first|trivial|omega|(intro hg;simp only[Ky,JH,Jh,VH,VI,VJ,decide_eq_true_eq,decide_eq_false_iff_not,qR]at hg;omega))
    try simp only[QK,Qt]
    refine⟨j+1,by rw[hve,hwe];rfl,Vg _,⟨hj1,?_⟩,by omega⟩;obtain⟨z1,z2⟩:=hb3;rw[hg,hst,decide_eq_true z1,decide_eq_true z2,VO,VO]
  ·try simp only[decide_eq_true_eq,decide_eq_false_iff_not,Jh,VJ,Ky,VH,JH,VI,VV,VW,reduceCtorEq]at hb2
   refine XJ ?_;change Awp _ _ _ _ _ _ _;refine awp_rseq [4] (by rfl) fun K hK=>?_;simp+decide only[qh,qi,qj,qo,ev,qZ,qY,putD,Vz,VA,VB,Ka,VC,VD,Kb,and_true,↓qV,qP,qM,ne_eq,not_false_eq_true,qN,qJ,VE,setAt,VF,Kj,qC,VG,Kn,Jp,Nat.reduceAdd,qF,qG,qI,qf,qK,qa,qz,qd,qE,qc,qA,qg,qH,qy,allLive,J4,tokV,nv,nw,hlv,hlw];repeat (with_reducible refine And.intro ?_ ?_;· first|trivial|omega|(intro hg;simp only[Ky,JH,Jh,VH,VI,VJ,decide_eq_true_eq,decide_eq_false_iff_not,qR]at hg;omega))
   apply hK;clear hK K;refine Xd ?_;try simp only[QF,Qn]
   refine XV h zqC (Qr (Qv)) ?_;simp+decide only[qh,qi,qj,qo,ev,qZ,qY,putD,Vz,VA,VB,Ka,VC,VD,Kb,and_true,QU,qM,ne_eq,not_false_eq_true,qN,qJ,VE,setAt,VF,Kj,qC,VG,Kn,Jp,Nat.reduceAdd,qF,qG,qI,qf,qK,qa,qz,qd,qE,qc,qA,qg,qH,qy,allLive,J4,tokV,nv,nw,hlv,hlw];rw[hg,Bl (by omega),Bl (by omega)];rfl
def spT(w:Str):TokC:=⟨if w=[61]then 5 else 1,w,0,0,false⟩
def UY(s:Str):List TokC:=(Lib.fields s).map spT
structure SlG where
 i:Nat
 rv:AVal
 rp:AHeap
 H:AHeap
set_option maxHeartbeats 4000000 in
theorem qkL(w0:World)(ha:Asp w0)(h:AHeap)(s:Str)(hl:s.length<=1000000)(has:asciiB s=true):
 ACall Tryd.prog w0 54 [.str s] h (fun r h'=>IsL w0 h' 5 r ((UY s).map Zh)/\Sub h h'):=by
 obtain⟨ws,hws⟩:∃ws,ws=Lib.fields s:=⟨_,rfl⟩
 have hwl:ws.length<=1000001:=by rw[hws];exact Vb (qbd s) (by omega)
 have hR:UY s=ws.map spT:=by rw[hws];rfl
 rw[hR];refine Xf (n:=25) (rs:=[.tmp 2]) Tryd.func54 rfl rfl rfl rfl (Vy rfl) ?_;simp only[Xe];refine awp_rseq [0] (by rfl) fun K hK=>?_;simp+decide only[qh,qi,qj,qo,ev,qZ,qY,putD,Vz,VA,VB,Ka,VC,VD,Kb,and_true,↓qV,qP,qM,ne_eq,not_false_eq_true,qN,qJ,VE,setAt,VF,Kj,qC,VG,Kn,Jp,Nat.reduceAdd,qF,qG,qI,qf,qK,qa,qz,qd,qE,qc,qA,qg,qH,qy,allLive,J4,tokV];repeat (with_reducible refine And.intro ?_ ?_;· first|trivial|omega|(intro hg;simp only[Ky,JH,Jh,VH,VI,VJ,decide_eq_true_eq,decide_eq_false_iff_not,qR]at hg;omega))
 apply hK;clear hK K;refine awp_rseq [0,3] (by rfl) fun K hK=>?_;simp+decide only[qh,qi,qj,qo,ev,qZ,qY,putD,Vz,VA,VB,Ka,VC,VD,Kb,and_true,↓qV,qP,qM,ne_eq,not_false_eq_true,qN,qJ,VE,setAt,VF,Kj,qC,VG,Kn,Jp,Nat.reduceAdd,qF,qG,qI,qf,qK,qa,qz,qd,qE,qc,qA,qg,qH,qy,allLive,J4,tokV];repeat (with_reducible refine And.intro ?_ ?_;· first|trivial|omega|(intro hg;simp only[Ky,JH,Jh,VH,VI,VJ,decide_eq_true_eq,decide_eq_false_iff_not,qR]at hg;omega))
 apply hK;clear hK K;refine Qp ?_;refine awp_rseq [3,8,9,10] (by rfl) fun K hK=>?_;simp+decide only[qh,qi,qj,qo,ev,qZ,qY,putD,Vz,VA,VB,Ka,VC,VD,Kb,and_true,↓qW,qU,qM,ne_eq,not_false_eq_true,qN,qJ,VE,setAt,VF,Kj,qC,VG,Kn,Jp,Nat.reduceAdd,qF,qG,qI,qf,qK,qa,qz,qd,qE,qc,qA,qg,qH,qy,allLive,J4,tokV];repeat (with_reducible refine And.intro ?_ ?_;· first|trivial|omega|(intro hg;simp only[Ky,JH,Jh,VH,VI,VJ,decide_eq_true_eq,decide_eq_false_iff_not,qR]at hg;omega))
 refine QN (by rfl) (by rfl) (qdk w0 ha _ s (by omega) has) fun x2q1 h2q1 hx2q1=>?_;obtain⟨kw,hkw,rfl,e2⟩:=hx2q1;rw[<-hws]at e2|-
 have hS0:=Eb (ps:=[h]) ⟨fun p hp=>by rw[V4.1 hp];exact Vg _,by simp⟩ hkw ⟨ws.map AVal.str,0⟩;rw[<-e2]at hS0;simp only[Kh,Jd]at hS0;have lw:=qav (qcv (w0:=w0) (hS0.at_ (i:=1) rfl));simp+decide only[qh,qi,qj,qo,ev,qZ,qY,putD,Vz,VA,VB,Ka,VC,VD,Kb,and_true,↓XG,Xh,QE Tryd.underlying22,QT Tryd.underlying22,↓qW,qU,qM,ne_eq,not_false_eq_true,qN,qJ,VE,setAt,VF,Kj,qC,VG,Kn,Jp,Nat.reduceAdd,qF,qG,qI,qf,qK,qa,qz,qd,qE,qc,qA,qg,qH,qy,allLive,J4,tokV,lw];repeat (with_reducible refine And.intro ?_ ?_;· first|trivial|omega|(intro hg;simp only[Ky,JH,Jh,VH,VI,VJ,decide_eq_true_eq,decide_eq_false_iff_not,qR]at hg;omega))
 apply hK;clear hK K;refine QL ?_;refine XI [3,8,9,10] (fun g:SlG=>[(3,g.rv),(8, .slice (.own kw) 0 ws.length (.exact ws.length)),(9, .int .i64 ws.length),(10, .int .i64 g.i)]) (fun g:SlG=>g.H) (fun g:SlG=>g.i<=ws.length/\Sep [h,one kw ⟨ws.map AVal.str,0⟩,g.rp] g.H/\GrowV 5 g.rv g.rp (((ws.take g.i).map spT).map Zh)) (fun g:SlG=>ws.length-g.i) ⟨0, .nilSlice,emp,h2q1⟩ (by rfl) (Vg _) ⟨Jq _,hS0.emp, .nil⟩ ?_;rintro⟨i,rv,rp,H⟩ ⟨hi,hS,hrow⟩;simp only at hi hS hrow|-
 have eb_w:H kw=some _:=hS.at_ (i:=1) rfl;have hs_H:Sub h H:=hS.in_ (i:=0) rfl;have hrl:=hrow.live;refine awp_rseq [3,8,9,10,11] (by rfl) fun K hK=>?_;simp+decide only[qh,qi,qj,qo,ev,qZ,qY,putD,Vz,VA,VB,Ka,VC,VD,Kb,and_true,↓Qj,Qa,Qz,cond_false,Qh,Zo,qM,ne_eq,not_false_eq_true,qO w0 eb_w,qN,qJ,VE,setAt,VF,Kj,qC,VG,Kn,Jp,Nat.reduceAdd,qF,qG,qI,qf,qK,qa,qz,qd,qE,qc,qA,qg,qH,qy,allLive,J4,tokV];repeat (with_reducible refine And.intro ?_ ?_;· first|trivial|omega|(intro hg;simp only[Ky,JH,Jh,VH,VI,VJ,decide_eq_true_eq,decide_eq_false_iff_not,qR]at hg;omega))
 apply hK;clear hK K;refine Qp (Qw (b:=_) rfl (fun hb1=>?_) (fun hb1=>?_))
 ·try simp only[decide_eq_true_eq,decide_eq_false_iff_not,Jh,VJ,Ky,VH,JH,VI,VV,VW,reduceCtorEq]at hb1
  have hi':i<ws.length:=by omega
  obtain⟨w,hw⟩:∃w,w=ws.getD i []:=⟨_,rfl⟩
  have ew:=qfi (w0:=w0) eb_w hi';rw[<-hw,qO w0 eb_w]at ew;have htk:ws.take (i+1)=ws.take i++[w]:=by rw[VY,JB hi',hw];simp[Ko,hi']
  have hwi:IntKind.i64.wrap ((i:Int)+1)=((i+1:Nat):Int):=by rw[wrap_i64 (by omega) (by omega)];omega
  refine QJ ?_;change Awp _ _ _ _ _ _ _;refine Qp ?_;refine QL ?_;refine awp_rseq [3,5,8,9,10] (by rfl) fun K hK=>?_;simp+decide only[qh,qi,qj,qo,ev,qZ,qY,putD,Vz,VA,VB,Ka,VC,VD,Kb,and_true,↓QV,QM,Ql Tryd.underlying22 sz9,↓Qu,Qi ag9,↓qV,qP,qM,ne_eq,not_false_eq_true,qO w0 eb_w,qN,qJ,VE,setAt,VF,Kj,qC,VG,Kn,Jp,Nat.reduceAdd,qF,qG,qI,qf,qK,qa,qz,qd,qE,qc,qA,qg,qH,qy,allLive,J4,tokV,ew,VX,V6,Jp];repeat (with_reducible refine And.intro ?_ ?_;· first|trivial|omega|(intro hg;simp only[Ky,JH,Jh,VH,VI,VJ,decide_eq_true_eq,decide_eq_false_iff_not,qR]at hg;omega))
  apply hK;clear hK K;refine awp_rseq [3,5,6,8,9,10] (by rfl) fun K hK=>?_;simp+decide only[qh,qi,qj,qo,ev,qZ,qY,putD,Vz,VA,VB,Ka,VC,VD,Kb,and_true,↓qW,qU,↓Wm,ZU,↓Zz,qgY,evP,Ke,Vh,Ym,Zr,ZV,Ue,ZA,Wt,ZW,qM,ne_eq,not_false_eq_true,qO w0 eb_w,qN,qJ,VE,setAt,VF,Kj,qC,VG,Kn,Jp,Nat.reduceAdd,qF,qG,qI,qf,qK,qa,qz,qd,qE,qc,qA,qg,qH,qy,allLive,J4,tokV];repeat (with_reducible refine And.intro ?_ ?_;· first|trivial|omega|(intro hg;simp only[Ky,JH,Jh,VH,VI,VJ,decide_eq_true_eq,decide_eq_false_iff_not,qR]at hg;omega))
  refine XL qdT (cs:=[.int .u8 0, .str [], .int .i64 0, .int .i64 0, .bool false]) (by rfl) fun k5q2 hk5q2=>?_;have hn_5q2:H k5q2=none:=by first|assumption|(simp only[V7]at hk5q2;simp only[hk5q2])
  have hf_5q2:h k5q2=none:=Bh hs_H hn_5q2;have ne_5q2_w:k5q2≠kw:=BG hn_5q2 eb_w;refine QR (by rfl) (by rfl) zqA Yv (by rfl) (by rfl) zqD (Jq _) (by rfl) ?_;simp only[Bi,setAt,VE,VF,Kj,Jp,Nat.reduceAdd];simp+decide only[qh,qi,qj,qo,ev,qZ,qY,putD,Vz,VA,VB,Ka,VC,VD,Kb,and_true,qM,ne_eq,not_false_eq_true,ne_5q2_w,ne_5q2_w.symm,qO w0 eb_w,qN,qJ,VE,setAt,VF,Kj,qC,VG,Kn,Jp,Nat.reduceAdd,qF,qG,qI,qf,qK,qa,qz,qd,qE,qc,qA,qg,qH,qy,allLive,J4,tokV];repeat (with_reducible refine And.intro ?_ ?_;· first|trivial|omega|(intro hg;simp only[Ky,JH,Jh,VH,VI,VJ,decide_eq_true_eq,decide_eq_false_iff_not,qR]at hg;omega))
  apply hK;clear hK K;refine Qp ?_;refine awp_rseq [3,6,8,9,10,17] (by rfl) fun K hK=>?_;simp+decide only[qh,qi,qj,qo,ev,qZ,qY,putD,Vz,VA,VB,Ka,VC,VD,Kb,and_true,↓qW,qU,↓Qj,Qa,XK,cond_false,XC,Wv,qM,ne_eq,not_false_eq_true,ne_5q2_w,ne_5q2_w.symm,qO w0 eb_w,qN,qJ,VE,setAt,VF,Kj,qC,VG,Kn,Jp,Nat.reduceAdd,qF,qG,qI,qf,qK,qa,qz,qd,qE,qc,qA,qg,qH,qy,allLive,J4,tokV];repeat (with_reducible refine And.intro ?_ ?_;· first|trivial|omega|(intro hg;simp only[Ky,JH,Jh,VH,VI,VJ,decide_eq_true_eq,decide_eq_false_iff_not,qR]at hg;omega))
  apply hK;clear hK K;refine Qw (b:=_) rfl (fun hb2=>?_) (fun hb2=>?_)
  ·try simp only[decide_eq_true_eq,decide_eq_false_iff_not,Jh,VJ,Ky,VH,JH,VI,VV,VW,reduceCtorEq]at hb2
   have hcs:[AVal.int .u8 5, .str w, .int .i64 0, .int .i64 0, .bool false]=Zh (spT w):=by unfold spT;rw[if_pos hb2];rfl
   refine XZ [3,6,8,9,10] (by rfl) ?_;simp+decide only[qh,qi,qj,qo,ev,qZ,qY,putD,Vz,VA,VB,Ka,VC,VD,Kb,and_true,↓Qo,Qd,Ud,qM,ne_eq,not_false_eq_true,ne_5q2_w,ne_5q2_w.symm,qO w0 eb_w,qN,qJ,VE,setAt,VF,Kj,qC,VG,Kn,Jp,Nat.reduceAdd,qF,qG,qI,qf,qK,qa,qz,qd,qE,qc,qA,qg,qH,qy,allLive,J4,tokV];repeat (with_reducible refine And.intro ?_ ?_;· first|trivial|omega|(intro hg;simp only[Ky,JH,Jh,VH,VI,VJ,decide_eq_true_eq,decide_eq_false_iff_not,qR]at hg;omega))
   refine QR (by rfl) (by rfl) zqA qro (by rfl) (by rfl) zqD (Jq _) (by rfl) ?_;simp only[Bi,setAt,VE,VF,Kj,Jp,Nat.reduceAdd];simp+decide only[qh,qi,qj,qo,ev,qZ,qY,putD,Vz,VA,VB,Ka,VC,VD,Kb,and_true,qM,ne_eq,not_false_eq_true,ne_5q2_w,ne_5q2_w.symm,qO w0 eb_w,qN,qJ,VE,setAt,VF,Kj,qC,VG,Kn,Jp,Nat.reduceAdd,qF,qG,qI,qf,qK,qa,qz,qd,qE,qc,qA,qg,qH,qy,allLive,J4,tokV];repeat (with_reducible refine And.intro ?_ ?_;· first|trivial|omega|(intro hg;simp only[Ky,JH,Jh,VH,VI,VJ,decide_eq_true_eq,decide_eq_false_iff_not,qR]at hg;omega))
   change Awp _ _ _ _ _ _ _;refine XZ [3,8,9,10] (by rfl) ?_;simp+decide only[qh,qi,qj,qo,ev,qZ,qY,putD,Vz,VA,VB,Ka,VC,VD,Kb,and_true,↓qW,qU,↓Qu,QM,Xy qhB Yv,qM,ne_eq,not_false_eq_true,ne_5q2_w,ne_5q2_w.symm,qO w0 eb_w,qN,qJ,VE,setAt,VF,Kj,qC,VG,Kn,Jp,Nat.reduceAdd,qF,qG,qI,qf,qK,qa,qz,qd,qE,qc,qA,qg,qH,qy,allLive,J4,tokV,hrl];repeat (with_reducible refine And.intro ?_ ?_;· first|trivial|omega|(intro hg;simp only[Ky,JH,Jh,VH,VI,VJ,decide_eq_true_eq,decide_eq_false_iff_not,qR]at hg;omega))
   first
   |(refine QS (cs:=[.int .u8 5, .str w, .int .i64 0, .int .i64 0, .bool false]) (by rfl) fun k8q2 hk8q2=>?_)
   |(refine QS (cs:=[.int .u8 1, .str w, .int .i64 0, .int .i64 0, .bool false]) (by rfl) fun k8q2 hk8q2=>?_)
   rw[hcs]at hk8q2|-
   refine Ub (es:=5) (v:=rv) (p:=rp) (xs:=((ws.take i).map spT).map Zh) (ys:=[Zh (spT w)]) (i:=2) (by rfl) (by rfl) Tryd.underlying31 Tryd.underlying31 (fun k e=>by cases e) Yv qgg qdT (by rfl) (by decide) (by rfl) hrow rfl (hS.forget ((V8 hn_5q2).trans (V8 hk8q2))) (by rfl) (V9 (Vf _ _ _) (fun x hx=>by rw[V4.1 hx];rfl) (by simp) (by rfl) (.exact 1) (KL _)) (by rfl) (by simp) (by simp only[Jn,K4,JF];omega) (by simp only[Jn,K4,JF];omega) fun rv2 rp2 h8 hrow2 _ hS2=>?_;simp+decide only[qh,qi,qj,qo,ev,qZ,qY,putD,Vz,VA,VB,Ka,VC,VD,Kb,and_true,↓qV,qP,qM,ne_eq,not_false_eq_true,ne_5q2_w,ne_5q2_w.symm,qO w0 eb_w,qN,qJ,VE,setAt,VF,Kj,qC,VG,Kn,Jp,Nat.reduceAdd,qF,qG,qI,qf,qK,qa,qz,qd,qE,qc,qA,qg,qH,qy,allLive,J4,tokV,hrl];repeat (with_reducible refine And.intro ?_ ?_;· first|trivial|omega|(intro hg;simp only[Ky,JH,Jh,VH,VI,VJ,decide_eq_true_eq,decide_eq_false_iff_not,qR]at hg;omega))
   change Awp _ _ _ _ _ _ _;refine XZ [3,8,9,10] (by rfl) ?_;simp+decide only[qh,qi,qj,qo,ev,qZ,qY,putD,Vz,VA,VB,Ka,VC,VD,Kb,and_true,↓Qj,Qa,Qm,cond_false,Qh,XM,↓qW,qU,qM,ne_eq,not_false_eq_true,ne_5q2_w,ne_5q2_w.symm,qO w0 eb_w,qN,qJ,VE,setAt,VF,Kj,qC,VG,Kn,Jp,Nat.reduceAdd,qF,qG,qI,qf,qK,qa,qz,qd,qE,qc,qA,qg,qH,qy,allLive,J4,tokV,hwi];try simp(disch:=omega)only[wrap_i64,wrap_u8]
   repeat (with_reducible refine And.intro ?_ ?_;· first|trivial|omega|(intro hg;simp only[Ky,JH,Jh,VH,VI,VJ,decide_eq_true_eq,decide_eq_false_iff_not,qR]at hg;omega))
   try simp only[QK,Qt]
   exact⟨⟨i+1,rv2,rp2,h8⟩,rfl,Vg _,⟨hi',hS2,by simp only;rw[htk,VZ,VZ];exact hrow2⟩,by simp only;omega⟩
  ·try simp only[decide_eq_true_eq,decide_eq_false_iff_not,Jh,VJ,Ky,VH,JH,VI,VV,VW,reduceCtorEq]at hb2
   have hcs:[AVal.int .u8 1, .str w, .int .i64 0, .int .i64 0, .bool false]=Zh (spT w):=by unfold spT;rw[if_neg hb2];rfl
   refine QJ ?_;change Awp _ _ _ _ _ _ _;refine XZ [3,8,9,10] (by rfl) ?_;simp+decide only[qh,qi,qj,qo,ev,qZ,qY,putD,Vz,VA,VB,Ka,VC,VD,Kb,and_true,↓qW,qU,↓Qu,QM,Xy qhB Yv,qM,ne_eq,not_false_eq_true,ne_5q2_w,ne_5q2_w.symm,qO w0 eb_w,qN,qJ,VE,setAt,VF,Kj,qC,VG,Kn,Jp,Nat.reduceAdd,qF,qG,qI,qf,qK,qa,qz,qd,qE,qc,qA,qg,qH,qy,allLive,J4,tokV,hrl];repeat (with_reducible refine And.intro ?_ ?_;· first|trivial|omega|(intro hg;simp only[Ky,JH,Jh,VH,VI,VJ,decide_eq_true_eq,decide_eq_false_iff_not,qR]at hg;omega))
   first
   |(refine QS (cs:=[.int .u8 5, .str w, .int .i64 0, .int .i64 0, .bool false]) (by rfl) fun k8q2 hk8q2=>?_)
   |(refine QS (cs:=[.int .u8 1, .str w, .int .i64 0, .int .i64 0, .bool false]) (by rfl) fun k8q2 hk8q2=>?_)
   rw[hcs]at hk8q2|-
   refine Ub (es:=5) (v:=rv) (p:=rp) (xs:=((ws.take i).map spT).map Zh) (ys:=[Zh (spT w)]) (i:=2) (by rfl) (by rfl) Tryd.underlying31 Tryd.underlying31 (fun k e=>by cases e) Yv qgg qdT (by rfl) (by decide) (by rfl) hrow rfl (hS.forget ((V8 hn_5q2).trans (V8 hk8q2))) (by rfl) (V9 (Vf _ _ _) (fun x hx=>by rw[V4.1 hx];rfl) (by simp) (by rfl) (.exact 1) (KL _)) (by rfl) (by simp) (by simp only[Jn,K4,JF];omega) (by simp only[Jn,K4,JF];omega) fun rv2 rp2 h8 hrow2 _ hS2=>?_;simp+decide only[qh,qi,qj,qo,ev,qZ,qY,putD,Vz,VA,VB,Ka,VC,VD,Kb,and_true,↓qV,qP,qM,ne_eq,not_false_eq_true,ne_5q2_w,ne_5q2_w.symm,qO w0 eb_w,qN,qJ,VE,setAt,VF,Kj,qC,VG,Kn,Jp,Nat.reduceAdd,qF,qG,qI,qf,qK,qa,qz,qd,qE,qc,qA,qg,qH,qy,allLive,J4,tokV,hrl];repeat (with_reducible refine And.intro ?_ ?_;· first|trivial|omega|(intro hg;simp only[Ky,JH,Jh,VH,VI,VJ,decide_eq_true_eq,decide_eq_false_iff_not,qR]at hg;omega))
   change Awp _ _ _ _ _ _ _;refine XZ [3,8,9,10] (by rfl) ?_;simp+decide only[qh,qi,qj,qo,ev,qZ,qY,putD,Vz,VA,VB,Ka,VC,VD,Kb,and_true,↓Qj,Qa,Qm,cond_false,Qh,XM,↓qW,qU,qM,ne_eq,not_false_eq_true,ne_5q2_w,ne_5q2_w.symm,qO w0 eb_w,qN,qJ,VE,setAt,VF,Kj,qC,VG,Kn,Jp,Nat.reduceAdd,qF,qG,qI,qf,qK,qa,qz,qd,qE,qc,qA,qg,qH,qy,allLive,J4,tokV,hwi];try simp(disch:=omega)only[wrap_i64,wrap_u8]
   repeat (with_reducible refine And.intro ?_ ?_;· first|trivial|omega|(intro hg;simp only[Ky,JH,Jh,VH,VI,VJ,decide_eq_true_eq,decide_eq_false_iff_not,qR]at hg;omega))
   try simp only[QK,Qt]
   exact⟨⟨i+1,rv2,rp2,h8⟩,rfl,Vg _,⟨hi',hS2,by simp only;rw[htk,VZ,VZ];exact hrow2⟩,by simp only;omega⟩
 ·try simp only[decide_eq_true_eq,decide_eq_false_iff_not,Jh,VJ,Ky,VH,JH,VI,VV,VW,reduceCtorEq]at hb1
  have hin:i=ws.length:=by omega
  rw[hin,Jo]at hrow;refine XJ ?_;change Awp _ _ _ _ _ _ _;refine awp_rseq [2] (by rfl) fun K hK=>?_;simp+decide only[qh,qi,qj,qo,ev,qZ,qY,putD,Vz,VA,VB,Ka,VC,VD,Kb,and_true,↓qW,qU,↓qV,qP,qM,ne_eq,not_false_eq_true,qO w0 eb_w,qN,qJ,VE,setAt,VF,Kj,qC,VG,Kn,Jp,Nat.reduceAdd,qF,qG,qI,qf,qK,qa,qz,qd,qE,qc,qA,qg,qH,qy,allLive,J4,tokV,hrl];repeat (with_reducible refine And.intro ?_ ?_;· first|trivial|omega|(intro hg;simp only[Ky,JH,Jh,VH,VI,VJ,decide_eq_true_eq,decide_eq_false_iff_not,qR]at hg;omega))
  apply hK;clear hK K;refine Xd ?_;try simp only[QF,Qn]
  refine Xu (Qr (Qv)) ?_;simp+decide only[qh,qi,qj,qo,ev,qZ,qY,putD,Vz,VA,VB,Ka,VC,VD,Kb,and_true,QU,qM,ne_eq,not_false_eq_true,qO w0 eb_w,qN,qJ,VE,setAt,VF,Kj,qC,VG,Kn,Jp,Nat.reduceAdd,qF,qG,qI,qf,qK,qa,qz,qd,qE,qc,qA,qg,qH,qy,allLive,J4,tokV];exact⟨H,Vg _,hrow.isL (hS.in_ (i:=2) rfl),hs_H⟩
end Go.Proofs.YtgiadjbiimkbiaaDoor
namespace Go.Stm
open Go.Col (Str FaultC okF)
open Go.Tok
set_option maxRecDepth 100000
def qmH:Str:=[40,32,41,32,58,32,61,32,60,32,62,32,43,32,45,32,42,32,47,32,42,42,32,60,61,32,62,61,32,60,62]
def Uw(i:Nat)(w:Str):TokC:=
 if w.getD 0 0=34 then⟨3,Lib.trimB w 34,(i+1:Nat),8,false⟩
 else if 48<=w.getD 0 0/\w.getD 0 0<=57 then⟨2,w,(i+1:Nat),8,false⟩
 else if w=[46]then⟨6,w,(i+1:Nat),8,false⟩
 else if Lib.contains qmH w=true then⟨5,w,(i+1:Nat),8,false⟩
 else⟨1,w,(i+1:Nat),8,false⟩
def qaI:Nat->List Str->List TokC
 |_,[]=>[]
 |i,w::ws=>Uw i w::qaI (i+1) ws
def Zg(s:Str):List TokC:=qaI 0 (Lib.fields s)
def qat(t:TokC):Str:=(48+t.kind)::t.text
def ZR:Nat->List StC->List Str
 |0,_=>[]
 |m+1,l=>(l.map fun s=>(123::s.verb)::((s.phrases.map fun p=>(60::(p.words++[62]))::p.toks.map qat).flatten++(s.bodies.map fun b=>(91::(b.1++[93]))::(b.2.1.map qat++ZR m b.2.2)).flatten)++[[125]]).flatten
end Go.Stm
namespace Go.Stm
open Go.Col (Str FaultC okF)
open Go.Tok
theorem qjD:∀(a b:List Str) (i:Nat),qaI i (a++b)=qaI i a++qaI (i+a.length) b
 |[],b,i=>by rw[Jd,JD,K6];rfl
 |w::a,b,i=>by
  rw[Kh,qaI,qaI,qjD a b (i+1),KX,Kh,show i+1+a.length=i+(a.length+1) by omega]
theorem qeI:∀(a:List Str) (i:Nat),(qaI i a).length=a.length
 |[],_=>rfl
 |w::a,i=>by rw[qaI,KX,KX,qeI a]
theorem qnf{ws:List Str}{i:Nat}(hi:i<ws.length):qaI 0 (ws.take (i+1))=qaI 0 (ws.take i)++[Uw i (ws.getD i [])]:=by
 rw[VY,JB hi,Option.toList,qjD,K4,Nat.min_eq_left (by omega),Jp];simp[qaI,Ko,hi]
theorem qhk(s:Str):(Zg s).length=(Lib.fields s).length:=qeI _ _
end Go.Stm
namespace Go.Proofs.YtgiadjbiimkbiaaDoor
open Go.AM
open Go.Proofs
open Go.Col (Str FaultC okF)
open Go.Tok (TokC)
open Go.Stm
open Go.RowKit (Below)
set_option maxRecDepth 100000
structure LtG where
 i:Nat
 rv:AVal
 rp:AHeap
 H:AHeap
theorem qrl(s:Str)(c:UInt8):(Lib.trimB s c).length<=s.length:=by
 have hd:∀(p:UInt8->Bool) (s:Str),(s.dropWhile p).length<=s.length:=by
  intro p s;induction s with
  |nil=>exact KL _
  |cons b s ih=>
   rw[List.dropWhile_cons];split
   ·rw[KX];omega
   ·exact KL _
 unfold Lib.trimB;first
  |(unfold Lib.trimLeftB Lib.trimRightB;have h1:=hd (· ==c) s.reverse;have h2:=hd (· ==c) (List.dropWhile (· ==c) s.reverse).reverse;rw[Ed]at h1 h2;omega)
  |(have h1:=hd (· ==c) s;have h2:=hd (· ==c) (s.dropWhile (· ==c)).reverse;simp only[Ed]at*;omega)
theorem qne{s:Str}{n:Nat}(h:s.length<=n)(i:Nat):(Uw i s).text.length<=n:=by
 unfold Uw;repeat' split
 all_goals first|exact Vb (qrl _ _) h|exact h
theorem qhl{n:Nat}:∀(l:List Str) (i:Nat),(∀w∈l,w.length<=n)->∀t∈qaI i l,t.text.length<=n
 |[],_,_,t,ht=>by cases ht
 |w::l,i,h,t,ht=>by
  rcases KW.1 ht with rfl|ht
  ·exact qne (h w Je) _
  ·exact qhl l _ (fun w hw=>h w (Jf _ hw)) t ht
theorem WF{s:Str}(hl:s.length<=1000000):Short (Zg s):=qhl _ _ fun w hw=>Vb (qbK w hw) hl
theorem UH{s:Str}(hl:s.length<=999999):(Zg s).length<=1000000:=by rw[qhk];exact Vb (qbd s) (by omega)
set_option maxHeartbeats 8000000 in
theorem qmc(w0:World)(hm:MaxL w0)(ha:Asp w0)(h:AHeap)(s:Str)(hl:s.length<=999999)(has:asciiB s=true):
 ACall Tryd.prog w0 7 [.str s] h (fun r h'=>∃p,GrowV 5 r p ((Zg s).map Zh)/\isG r=true/\Sep [h,p] h'):=by
 obtain⟨ws,hws⟩:∃ws,ws=Lib.fields s:=⟨_,rfl⟩
 have hwl:ws.length<=1000000:=by rw[hws];exact Vb (qbd s) (by omega)
 have hwa:∀w∈ws,w.length<=1000000/\w≠[]:=fun w hw=>by
  rw[hws]at hw;exact⟨Vb (qbK w hw) (by omega),qiw w hw⟩
 have hR:Zg s=qaI 0 ws:=by rw[hws];rfl
 rw[hR];refine Xf (n:=66) (rs:=[.tmp 2]) Tryd.func7 rfl rfl rfl rfl (Vy rfl) ?_;simp only[Xe];refine awp_rseq [0] (by rfl) fun K hK=>?_;simp+decide only[qh,qi,qj,qo,ev,qZ,qY,putD,Vz,VA,VB,Ka,VC,VD,Kb,and_true,↓qV,qP,qM,ne_eq,not_false_eq_true,qN,qJ,VE,setAt,VF,Kj,qC,VG,Kn,Jp,Nat.reduceAdd,qF,qG,qI,qf,qK,qa,qz,qd,qE,qc,qA,qg,qH,qy,allLive,J4,tokV];repeat (with_reducible refine And.intro ?_ ?_;· first|trivial|omega|(intro hg;simp only[Ky,JH,Jh,VH,VI,VJ,decide_eq_true_eq,decide_eq_false_iff_not,qR]at hg;omega))
 apply hK;clear hK K;refine awp_rseq [0,3] (by rfl) fun K hK=>?_;simp+decide only[qh,qi,qj,qo,ev,qZ,qY,putD,Vz,VA,VB,Ka,VC,VD,Kb,and_true,↓qV,qP,qM,ne_eq,not_false_eq_true,qN,qJ,VE,setAt,VF,Kj,qC,VG,Kn,Jp,Nat.reduceAdd,qF,qG,qI,qf,qK,qa,qz,qd,qE,qc,qA,qg,qH,qy,allLive,J4,tokV];repeat (with_reducible refine And.intro ?_ ?_;· first|trivial|omega|(intro hg;simp only[Ky,JH,Jh,VH,VI,VJ,decide_eq_true_eq,decide_eq_false_iff_not,qR]at hg;omega))
 apply hK;clear hK K;refine awp_rseq [3,4] (by rfl) fun K hK=>?_;simp+decide only[qh,qi,qj,qo,ev,qZ,qY,putD,Vz,VA,VB,Ka,VC,VD,Kb,and_true,↓qW,qU,qM,ne_eq,not_false_eq_true,qN,qJ,VE,setAt,VF,Kj,qC,VG,Kn,Jp,Nat.reduceAdd,qF,qG,qI,qf,qK,qa,qz,qd,qE,qc,qA,qg,qH,qy,allLive,J4,tokV];repeat (with_reducible refine And.intro ?_ ?_;· first|trivial|omega|(intro hg;simp only[Ky,JH,Jh,VH,VI,VJ,decide_eq_true_eq,decide_eq_false_iff_not,qR]at hg;omega))
 refine QN (by rfl) (by rfl) (qdk w0 ha _ s (by omega) has) fun x2q1 h2q1 hx2q1=>?_;obtain⟨kw,hkw,rfl,e2⟩:=hx2q1;rw[<-hws]at e2|-
 have hS0:=Eb (ps:=[h]) ⟨fun p hp=>by rw[V4.1 hp];exact Vg _,by simp⟩ hkw ⟨ws.map AVal.str,0⟩;rw[<-e2]at hS0;simp only[Kh,Jd]at hS0;have lw:=qav (qcv (w0:=w0) (hS0.at_ (i:=1) rfl));simp+decide only[qh,qi,qj,qo,ev,qZ,qY,putD,Vz,VA,VB,Ka,VC,VD,Kb,and_true,↓qV,qP,qM,ne_eq,not_false_eq_true,qN,qJ,VE,setAt,VF,Kj,qC,VG,Kn,Jp,Nat.reduceAdd,qF,qG,qI,qf,qK,qa,qz,qd,qE,qc,qA,qg,qH,qy,allLive,J4,tokV];repeat (with_reducible refine And.intro ?_ ?_;· first|trivial|omega|(intro hg;simp only[Ky,JH,Jh,VH,VI,VJ,decide_eq_true_eq,decide_eq_false_iff_not,qR]at hg;omega))
 apply hK;clear hK K;refine Qp ?_;refine awp_rseq [3,4,5] (by rfl) fun K hK=>?_;simp+decide only[qh,qi,qj,qo,ev,qZ,qY,putD,Vz,VA,VB,Ka,VC,VD,Kb,and_true,↓qV,qP,qM,ne_eq,not_false_eq_true,qN,qJ,VE,setAt,VF,Kj,qC,VG,Kn,Jp,Nat.reduceAdd,qF,qG,qI,qf,qK,qa,qz,qd,qE,qc,qA,qg,qH,qy,allLive,J4,tokV];repeat (with_reducible refine And.intro ?_ ?_;· first|trivial|omega|(intro hg;simp only[Ky,JH,Jh,VH,VI,VJ,decide_eq_true_eq,decide_eq_false_iff_not,qR]at hg;omega))
 apply hK;clear hK K;refine QL ?_;refine XI [3,4,5] (fun g:LtG=>[(3,g.rv),(4, .slice (.own kw) 0 ws.length (.exact ws.length)),(5, .int .i64 g.i)]) (fun g:LtG=>g.H) (fun g:LtG=>g.i<=ws.length/\Sep [h,one kw ⟨ws.map AVal.str,0⟩,g.rp] g.H/\GrowV 5 g.rv g.rp ((qaI 0 (ws.take g.i)).map Zh)/\isG g.rv=true) (fun g:LtG=>ws.length-g.i) ⟨0, .nilSlice,emp,h2q1⟩ (by rfl) (Vg _) ⟨Jq _,hS0.emp, .nil,rfl⟩ ?_;rintro⟨i,rv,rp,H⟩ ⟨hi,hS,hrow,hG⟩;simp only at hi hS hrow hG|-
 have eb_w:H kw=some _:=hS.at_ (i:=1) rfl;have hs_H:Sub h H:=hS.in_ (i:=0) rfl;have hrl:=hrow.live;refine Qp ?_;refine awp_rseq [3,4,5,13] (by rfl) fun K hK=>?_;simp+decide only[qh,qi,qj,qo,ev,qZ,qY,putD,Vz,VA,VB,Ka,VC,VD,Kb,and_true,↓qW,qU,↓XG,Xh,QE Tryd.underlying22,QT Tryd.underlying22,↓Qj,Qa,Qz,cond_false,Qh,Zo,qM,ne_eq,not_false_eq_true,qO w0 eb_w,qN,qJ,VE,setAt,VF,Kj,qC,VG,Kn,Jp,Nat.reduceAdd,qF,qG,qI,qf,qK,qa,qz,qd,qE,qc,qA,qg,qH,qy,allLive,J4,tokV,lw];repeat (with_reducible refine And.intro ?_ ?_;· first|trivial|omega|(intro hg;simp only[Ky,JH,Jh,VH,VI,VJ,decide_eq_true_eq,decide_eq_false_iff_not,qR]at hg;omega))
 apply hK;clear hK K;refine Qw (b:=_) rfl (fun hb1=>?_) (fun hb1=>?_)
 ·try simp only[decide_eq_true_eq,decide_eq_false_iff_not,Jh,VJ,Ky,VH,JH,VI,VV,VW,reduceCtorEq]at hb1
  have hi':i<ws.length:=by omega
  obtain⟨w,hw⟩:∃w,w=ws.getD i []:=⟨_,rfl⟩
  have ew:=qfi (w0:=w0) eb_w hi';rw[<-hw,qO w0 eb_w]at ew;have hst:=qnf hi';rw[<-hw]at hst;obtain⟨hwn,hwp⟩:=hwa w (by rw[hw,Ko,JB hi'];exact Vr hi');have hwi:IntKind.i64.wrap ((i:Int)+1)=((i+1:Nat):Int):=by rw[wrap_i64 (by omega) (by omega)];omega
  have hw0:((0:Int)<w.length)=True:=eq_true (by have:=List.length_pos_iff.2 hwp;omega);have h34:∀c:UInt8,decide ((c.toNat:Int)=34)=decide (c=34):=fun c=>Wj c 34;have h48:∀c:UInt8,decide ((c.toNat:Int) >= 48)=decide (48<=c):=fun c=>by rw[decide_eq_decide,Ee];exact Ef
  have h57:∀c:UInt8,decide ((c.toNat:Int)<=57)=decide (c<=57):=fun c=>by rw[decide_eq_decide,Ee];exact Ef
  refine QJ ?_;change Awp _ _ _ _ _ _ _;refine Qp ?_;refine QL ?_;refine awp_rseq [3,4,5,6] (by rfl) fun K hK=>?_;simp+decide only[qh,qi,qj,qo,ev,qZ,qY,putD,Vz,VA,VB,Ka,VC,VD,Kb,and_true,↓qW,qU,↓QV,QM,Ql Tryd.underlying22 sz9,↓Qu,Qi ag9,↓Qj,Qa,Qm,cond_false,Qh,XM,↓Wm,ZU,↓Zz,qgZ,evP,Ke,Vh,Ym,Zr,ZV,Ue,ZA,Wt,ZW,qmh,qM,ne_eq,not_false_eq_true,qO w0 eb_w,qN,qJ,VE,setAt,VF,Kj,qC,VG,Kn,Jp,Nat.reduceAdd,qF,qG,qI,qf,qK,qa,qz,qd,qE,qc,qA,qg,qH,qy,allLive,J4,tokV,ew,VX,V6,Jp,hwi];try simp(disch:=omega)only[wrap_i64,wrap_u8]
  repeat (with_reducible refine And.intro ?_ ?_;· first|trivial|omega|(intro hg;simp only[Ky,JH,Jh,VH,VI,VJ,decide_eq_true_eq,decide_eq_false_iff_not,qR]at hg;omega))
  refine XL qdT (cs:=[.int .u8 0, .str [], .int .i64 0, .int .i64 0, .bool false]) (by rfl) fun k6q8 hk6q8=>?_;have hn_6q8:H k6q8=none:=by first|assumption|(simp only[V7]at hk6q8;simp only[hk6q8])
  have hf_6q8:h k6q8=none:=Bh hs_H hn_6q8;have ne_6q8_w:k6q8≠kw:=BG hn_6q8 eb_w;refine QR (by rfl) (by rfl) zqA Yv (by rfl) (by rfl) zqD (Jq _) (by rfl) ?_;simp only[Bi,setAt,VE,VF,Kj,Jp,Nat.reduceAdd];simp+decide only[qh,qi,qj,qo,ev,qZ,qY,putD,Vz,VA,VB,Ka,VC,VD,Kb,and_true,qM,ne_eq,not_false_eq_true,ne_6q8_w,ne_6q8_w.symm,qO w0 eb_w,qN,qJ,VE,setAt,VF,Kj,qC,VG,Kn,Jp,Nat.reduceAdd,qF,qG,qI,qf,qK,qa,qz,qd,qE,qc,qA,qg,qH,qy,allLive,J4,tokV,ew,VX,V6,Jp,hwi];repeat (with_reducible refine And.intro ?_ ?_;· first|trivial|omega|(intro hg;simp only[Ky,JH,Jh,VH,VI,VJ,decide_eq_true_eq,decide_eq_false_iff_not,qR]at hg;omega))
  apply hK;clear hK K;refine Qp ?_;refine awp_rseq [3,4,5,6,7] (by rfl) fun K hK=>?_;simp+decide only[qh,qi,qj,qo,ev,qZ,qY,putD,Vz,VA,VB,Ka,VC,VD,Kb,and_true,↓qW,qU,↓QV,QM,Ql Tryd.underlying22 sz9,↓Qu,Qi ag9,↓qmn,qju,qif Tryd.underlying9,↓qV,qP,qM,ne_eq,not_false_eq_true,ne_6q8_w,ne_6q8_w.symm,qO w0 eb_w,qN,qJ,VE,setAt,VF,Kj,qC,VG,Kn,Jp,Nat.reduceAdd,qF,qG,qI,qf,qK,qa,qz,qd,qE,qc,qA,qg,qH,qy,allLive,J4,tokV,ew,VX,V6,Jp,hw0];repeat (with_reducible refine And.intro ?_ ?_;· first|trivial|omega|(intro hg;simp only[Ky,JH,Jh,VH,VI,VJ,decide_eq_true_eq,decide_eq_false_iff_not,qR]at hg;omega))
  apply hK;clear hK K;refine qjV [3,4,5,6] (fun t:TokC=>[(3,rv),(4, .slice (.own kw) 0 ws.length (.exact ws.length)),(5, .int .i64 i),(6, .ptr (.own k6q8) 0)]) (fun t:TokC=>H.set k6q8 ⟨Zh t,0⟩) (fun t:TokC=>t=Uw i w) ?_ ?_
  ·refine QL ?_
   refine awp_rseq [3,4,5,6,7,29] (by rfl) fun K hK=>?_;simp+decide only[qh,qi,qj,qo,ev,qZ,qY,putD,Vz,VA,VB,Ka,VC,VD,Kb,and_true,↓qW,qU,↓Qj,Qa,Qm,cond_false,Qh,ZE,↓qV,qP,qM,ne_eq,not_false_eq_true,ne_6q8_w,ne_6q8_w.symm,qO w0 eb_w,qN,qJ,VE,setAt,VF,Kj,qC,VG,Kn,Jp,Nat.reduceAdd,qF,qG,qI,qf,qK,qa,qz,qd,qE,qc,qA,qg,qH,qy,allLive,J4,tokV,h34];repeat (with_reducible refine And.intro ?_ ?_;· first|trivial|omega|(intro hg;simp only[Ky,JH,Jh,VH,VI,VJ,decide_eq_true_eq,decide_eq_false_iff_not,qR]at hg;omega))
   apply hK;clear hK K;refine Qw (b:=_) rfl (fun hb2=>?_) (fun hb2=>?_)
   ·try simp only[decide_eq_true_eq,decide_eq_false_iff_not,Jh,VJ,Ky,VH,JH,VI,VV,VW,reduceCtorEq]at hb2
    have hT:Uw i w=⟨3,Lib.trimB w 34,(i+1:Nat),8,false⟩:=by unfold Uw;exact if_pos hb2
    refine awp_rseq [3,4,5,6] (by rfl) fun K hK=>?_;simp+decide only[qh,qi,qj,qo,ev,qZ,qY,putD,Vz,VA,VB,Ka,VC,VD,Kb,and_true,↓Qo,Qd,Ud,qM,ne_eq,not_false_eq_true,ne_6q8_w,ne_6q8_w.symm,qO w0 eb_w,qN,qJ,VE,setAt,VF,Kj,qC,VG,Kn,Jp,Nat.reduceAdd,qF,qG,qI,qf,qK,qa,qz,qd,qE,qc,qA,qg,qH,qy,allLive,J4,tokV];repeat (with_reducible refine And.intro ?_ ?_;· first|trivial|omega|(intro hg;simp only[Ky,JH,Jh,VH,VI,VJ,decide_eq_true_eq,decide_eq_false_iff_not,qR]at hg;omega))
    refine QR (by rfl) (by rfl) zqA qro (by rfl) (by rfl) zqD (Jq _) (by rfl) ?_;simp only[Bi,setAt,VE,VF,Kj,Jp,Nat.reduceAdd];simp+decide only[qh,qi,qj,qo,ev,qZ,qY,putD,Vz,VA,VB,Ka,VC,VD,Kb,and_true,qM,ne_eq,not_false_eq_true,ne_6q8_w,ne_6q8_w.symm,qO w0 eb_w,qN,qJ,VE,setAt,VF,Kj,qC,VG,Kn,Jp,Nat.reduceAdd,qF,qG,qI,qf,qK,qa,qz,qd,qE,qc,qA,qg,qH,qy,allLive,J4,tokV];repeat (with_reducible refine And.intro ?_ ?_;· first|trivial|omega|(intro hg;simp only[Ky,JH,Jh,VH,VI,VJ,decide_eq_true_eq,decide_eq_false_iff_not,qR]at hg;omega))
    apply hK;clear hK K;refine XZ [3,4,5,6] (by rfl) ?_;simp+decide only[qh,qi,qj,qo,ev,qZ,qY,putD,Vz,VA,VB,Ka,VC,VD,Kb,and_true,↓qW,qU,↓QV,QM,Ql Tryd.underlying22 sz9,↓Qu,Qi ag9,qM,ne_eq,not_false_eq_true,ne_6q8_w,ne_6q8_w.symm,qO w0 eb_w,qN,qJ,VE,setAt,VF,Kj,qC,VG,Kn,Jp,Nat.reduceAdd,qF,qG,qI,qf,qK,qa,qz,qd,qE,qc,qA,qg,qH,qy,allLive,J4,tokV,ew,VX,V6,Jp];repeat (with_reducible refine And.intro ?_ ?_;· first|trivial|omega|(intro hg;simp only[Ky,JH,Jh,VH,VI,VJ,decide_eq_true_eq,decide_eq_false_iff_not,qR]at hg;omega))
    refine XD (V:= .str (Lib.trimB w 34)) (by rfl) (by rfl) (c_trim1 w0 _ w 34 (by omega) (by decide)) ?_;simp+decide only[qh,qi,qj,qo,ev,qZ,qY,putD,Vz,VA,VB,Ka,VC,VD,Kb,and_true,↓Qo,Qd,qbe,qM,ne_eq,not_false_eq_true,ne_6q8_w,ne_6q8_w.symm,qO w0 eb_w,qN,qJ,VE,setAt,VF,Kj,qC,VG,Kn,Jp,Nat.reduceAdd,qF,qG,qI,qf,qK,qa,qz,qd,qE,qc,qA,qg,qH,qy,allLive,J4,tokV,ew,VX,V6,Jp];repeat (with_reducible refine And.intro ?_ ?_;· first|trivial|omega|(intro hg;simp only[Ky,JH,Jh,VH,VI,VJ,decide_eq_true_eq,decide_eq_false_iff_not,qR]at hg;omega))
    refine QR (by rfl) (by rfl) zqA sz9 (by rfl) (by rfl) zqD (Jq _) (by rfl) ?_;simp only[Bi,setAt,VE,VF,Kj,Jp,Nat.reduceAdd];simp+decide only[qh,qi,qj,qo,ev,qZ,qY,putD,Vz,VA,VB,Ka,VC,VD,Kb,and_true,qM,ne_eq,not_false_eq_true,ne_6q8_w,ne_6q8_w.symm,qO w0 eb_w,qN,qJ,VE,setAt,VF,Kj,qC,VG,Kn,Jp,Nat.reduceAdd,qF,qG,qI,qf,qK,qa,qz,qd,qE,qc,qA,qg,qH,qy,allLive,J4,tokV,ew,VX,V6,Jp];repeat (with_reducible refine And.intro ?_ ?_;· first|trivial|omega|(intro hg;simp only[Ky,JH,Jh,VH,VI,VJ,decide_eq_true_eq,decide_eq_false_iff_not,qR]at hg;omega))
    try simp only[QK,Qt,WR,Yy,if_true]
    exact⟨Uw i w,rfl,by rw[hT];exact Vg _,rfl⟩
   ·try simp only[decide_eq_true_eq,decide_eq_false_iff_not,Jh,VJ,Ky,VH,JH,VI,VV,VW,reduceCtorEq]at hb2
    refine awp_rseq [3,4,5,6,39] (by rfl) fun K hK=>?_;simp+decide only[qh,qi,qj,qo,ev,qZ,qY,putD,Vz,VA,VB,Ka,VC,VD,Kb,and_true,↓qW,qU,↓Qj,Qa,Qm,cond_false,Qh,qrK,↓Zj,agP,Xw,gv,QB,QD,QC,Qs,Qg,Qe,Zk,implies_true,VK,decide_true,decide_false,VL,VM,Qc,Qb,forall_const,false_implies,Qk,Qf,J4,VN,VO,VP,VQ,VS,VT,VU,Xb,Xc,Xa,↓XT,Zb,Za,Zd,Zc,pI_leq,↓XH,Xj,QO,QH,QG,QA,Xo,Xn,Xm,Xl,QZ,Xk,↓qV,qP,qM,ne_eq,not_false_eq_true,ne_6q8_w,ne_6q8_w.symm,qO w0 eb_w,qN,qJ,VE,setAt,VF,Kj,qC,VG,Kn,Jp,Nat.reduceAdd,qF,qG,qI,qf,qK,qa,qz,qd,qE,qc,qA,qg,qH,qy,allLive,J4,tokV,h48,h57];repeat (with_reducible refine And.intro ?_ ?_;· first|trivial|omega|(intro hg;simp only[Ky,JH,Jh,VH,VI,VJ,decide_eq_true_eq,decide_eq_false_iff_not,qR]at hg;omega))
    apply hK;clear hK K;refine Qw (b:=_) rfl (fun hb3=>?_) (fun hb3=>?_)
    ·try simp only[decide_eq_true_eq,decide_eq_false_iff_not,Jh,VJ,Ky,VH,JH,VI,VV,VW,reduceCtorEq]at hb3
     have hT:Uw i w=⟨2,w,(i+1:Nat),8,false⟩:=by unfold Uw;exact(if_neg hb2).trans (if_pos hb3)
     refine XZ [3,4,5,6] (by rfl) ?_;simp+decide only[qh,qi,qj,qo,ev,qZ,qY,putD,Vz,VA,VB,Ka,VC,VD,Kb,and_true,↓Qo,Qd,Ud,qM,ne_eq,not_false_eq_true,ne_6q8_w,ne_6q8_w.symm,qO w0 eb_w,qN,qJ,VE,setAt,VF,Kj,qC,VG,Kn,Jp,Nat.reduceAdd,qF,qG,qI,qf,qK,qa,qz,qd,qE,qc,qA,qg,qH,qy,allLive,J4,tokV];repeat (with_reducible refine And.intro ?_ ?_;· first|trivial|omega|(intro hg;simp only[Ky,JH,Jh,VH,VI,VJ,decide_eq_true_eq,decide_eq_false_iff_not,qR]at hg;omega))
     refine QR (by rfl) (by rfl) zqA qro (by rfl) (by rfl) zqD (Jq _) (by rfl) ?_;simp only[Bi,setAt,VE,VF,Kj,Jp,Nat.reduceAdd];simp+decide only[qh,qi,qj,qo,ev,qZ,qY,putD,Vz,VA,VB,Ka,VC,VD,Kb,and_true,qM,ne_eq,not_false_eq_true,ne_6q8_w,ne_6q8_w.symm,qO w0 eb_w,qN,qJ,VE,setAt,VF,Kj,qC,VG,Kn,Jp,Nat.reduceAdd,qF,qG,qI,qf,qK,qa,qz,qd,qE,qc,qA,qg,qH,qy,allLive,J4,tokV];repeat (with_reducible refine And.intro ?_ ?_;· first|trivial|omega|(intro hg;simp only[Ky,JH,Jh,VH,VI,VJ,decide_eq_true_eq,decide_eq_false_iff_not,qR]at hg;omega))
     try simp only[QK,Qt,WR,Yy,if_true]
     exact⟨Uw i w,rfl,by rw[hT];exact Vg _,rfl⟩
    ·try simp only[decide_eq_true_eq,decide_eq_false_iff_not,Jh,VJ,Ky,VH,JH,VI,VV,VW,reduceCtorEq]at hb3
     have hn3:¬(48<=w.getD 0 0/\w.getD 0 0<=57):=fun hh=>by rcases hb3 with z|z;exact z hh.1;exact z hh.2
     refine awp_rseq [3,4,5,6,47] (by rfl) fun K hK=>?_;simp+decide only[qh,qi,qj,qo,ev,qZ,qY,putD,Vz,VA,VB,Ka,VC,VD,Kb,and_true,↓qW,qU,↓QV,QM,Ql Tryd.underlying22 sz9,↓Qu,Qi ag9,↓Qj,Qa,XK,cond_false,XC,Wv,↓qV,qP,qM,ne_eq,not_false_eq_true,ne_6q8_w,ne_6q8_w.symm,qO w0 eb_w,qN,qJ,VE,setAt,VF,Kj,qC,VG,Kn,Jp,Nat.reduceAdd,qF,qG,qI,qf,qK,qa,qz,qd,qE,qc,qA,qg,qH,qy,allLive,J4,tokV,ew,VX,V6,Jp];repeat (with_reducible refine And.intro ?_ ?_;· first|trivial|omega|(intro hg;simp only[Ky,JH,Jh,VH,VI,VJ,decide_eq_true_eq,decide_eq_false_iff_not,qR]at hg;omega))
     apply hK;clear hK K;refine Qw (b:=_) rfl (fun hb4=>?_) (fun hb4=>?_)
     ·try simp only[decide_eq_true_eq,decide_eq_false_iff_not,Jh,VJ,Ky,VH,JH,VI,VV,VW,reduceCtorEq]at hb4
      have hT:Uw i w=⟨6,w,(i+1:Nat),8,false⟩:=by unfold Uw;exact(if_neg hb2).trans ((if_neg hn3).trans (if_pos hb4))
      refine XZ [3,4,5,6] (by rfl) ?_;simp+decide only[qh,qi,qj,qo,ev,qZ,qY,putD,Vz,VA,VB,Ka,VC,VD,Kb,and_true,↓Qo,Qd,Ud,qM,ne_eq,not_false_eq_true,ne_6q8_w,ne_6q8_w.symm,qO w0 eb_w,qN,qJ,VE,setAt,VF,Kj,qC,VG,Kn,Jp,Nat.reduceAdd,qF,qG,qI,qf,qK,qa,qz,qd,qE,qc,qA,qg,qH,qy,allLive,J4,tokV];repeat (with_reducible refine And.intro ?_ ?_;· first|trivial|omega|(intro hg;simp only[Ky,JH,Jh,VH,VI,VJ,decide_eq_true_eq,decide_eq_false_iff_not,qR]at hg;omega))
      refine QR (by rfl) (by rfl) zqA qro (by rfl) (by rfl) zqD (Jq _) (by rfl) ?_;simp only[Bi,setAt,VE,VF,Kj,Jp,Nat.reduceAdd];simp+decide only[qh,qi,qj,qo,ev,qZ,qY,putD,Vz,VA,VB,Ka,VC,VD,Kb,and_true,qM,ne_eq,not_false_eq_true,ne_6q8_w,ne_6q8_w.symm,qO w0 eb_w,qN,qJ,VE,setAt,VF,Kj,qC,VG,Kn,Jp,Nat.reduceAdd,qF,qG,qI,qf,qK,qa,qz,qd,qE,qc,qA,qg,qH,qy,allLive,J4,tokV];repeat (with_reducible refine And.intro ?_ ?_;· first|trivial|omega|(intro hg;simp only[Ky,JH,Jh,VH,VI,VJ,decide_eq_true_eq,decide_eq_false_iff_not,qR]at hg;omega))
      try simp only[QK,Qt,WR,Yy,if_true]
      exact⟨Uw i w,rfl,by rw[hT];exact Vg _,rfl⟩
     ·try simp only[decide_eq_true_eq,decide_eq_false_iff_not,Jh,VJ,Ky,VH,JH,VI,VV,VW,reduceCtorEq]at hb4
      refine awp_rseq [3,4,5,6,54] (by rfl) fun K hK=>?_;simp+decide only[qh,qi,qj,qo,ev,qZ,qY,putD,Vz,VA,VB,Ka,VC,VD,Kb,and_true,↓qW,qU,↓QV,QM,Ql Tryd.underlying22 sz9,↓Qu,Qi ag9,qM,ne_eq,not_false_eq_true,ne_6q8_w,ne_6q8_w.symm,qO w0 eb_w,qN,qJ,VE,setAt,VF,Kj,qC,VG,Kn,Jp,Nat.reduceAdd,qF,qG,qI,qf,qK,qa,qz,qd,qE,qc,qA,qg,qH,qy,allLive,J4,tokV,ew,VX,V6,Jp];repeat (with_reducible refine And.intro ?_ ?_;· first|trivial|omega|(intro hg;simp only[Ky,JH,Jh,VH,VI,VJ,decide_eq_true_eq,decide_eq_false_iff_not,qR]at hg;omega))
      refine XD (V:= .bool (Lib.contains qmH w)) (by rfl) (by rfl) (YT w0 hm _ qmH w (by decide)) ?_;simp+decide only[qh,qi,qj,qo,ev,qZ,qY,putD,Vz,VA,VB,Ka,VC,VD,Kb,and_true,↓qV,qP,qM,ne_eq,not_false_eq_true,ne_6q8_w,ne_6q8_w.symm,qO w0 eb_w,qN,qJ,VE,setAt,VF,Kj,qC,VG,Kn,Jp,Nat.reduceAdd,qF,qG,qI,qf,qK,qa,qz,qd,qE,qc,qA,qg,qH,qy,allLive,J4,tokV,ew,VX,V6,Jp];repeat (with_reducible refine And.intro ?_ ?_;· first|trivial|omega|(intro hg;simp only[Ky,JH,Jh,VH,VI,VJ,decide_eq_true_eq,decide_eq_false_iff_not,qR]at hg;omega))
      apply hK;clear hK K;refine Qw (b:=_) rfl (fun hb5=>?_) (fun hb5=>?_)
      ·try simp only[decide_eq_true_eq,decide_eq_false_iff_not,Jh,VJ,Ky,VH,JH,VI,VV,VW,reduceCtorEq]at hb5
       have hT:Uw i w=⟨5,w,(i+1:Nat),8,false⟩:=by unfold Uw;exact(if_neg hb2).trans ((if_neg hn3).trans ((if_neg hb4).trans (if_pos hb5)))
       refine XZ [3,4,5,6] (by rfl) ?_;simp+decide only[qh,qi,qj,qo,ev,qZ,qY,putD,Vz,VA,VB,Ka,VC,VD,Kb,and_true,↓Qo,Qd,Ud,qM,ne_eq,not_false_eq_true,ne_6q8_w,ne_6q8_w.symm,qO w0 eb_w,qN,qJ,VE,setAt,VF,Kj,qC,VG,Kn,Jp,Nat.reduceAdd,qF,qG,qI,qf,qK,qa,qz,qd,qE,qc,qA,qg,qH,qy,allLive,J4,tokV];repeat (with_reducible refine And.intro ?_ ?_;· first|trivial|omega|(intro hg;simp only[Ky,JH,Jh,VH,VI,VJ,decide_eq_true_eq,decide_eq_false_iff_not,qR]at hg;omega))
       refine QR (by rfl) (by rfl) zqA qro (by rfl) (by rfl) zqD (Jq _) (by rfl) ?_;simp only[Bi,setAt,VE,VF,Kj,Jp,Nat.reduceAdd];simp+decide only[qh,qi,qj,qo,ev,qZ,qY,putD,Vz,VA,VB,Ka,VC,VD,Kb,and_true,qM,ne_eq,not_false_eq_true,ne_6q8_w,ne_6q8_w.symm,qO w0 eb_w,qN,qJ,VE,setAt,VF,Kj,qC,VG,Kn,Jp,Nat.reduceAdd,qF,qG,qI,qf,qK,qa,qz,qd,qE,qc,qA,qg,qH,qy,allLive,J4,tokV];repeat (with_reducible refine And.intro ?_ ?_;· first|trivial|omega|(intro hg;simp only[Ky,JH,Jh,VH,VI,VJ,decide_eq_true_eq,decide_eq_false_iff_not,qR]at hg;omega))
       try simp only[QK,Qt,WR,Yy,if_true]
       exact⟨Uw i w,rfl,by rw[hT];exact Vg _,rfl⟩
      ·try simp only[decide_eq_true_eq,decide_eq_false_iff_not,Jh,VJ,Ky,VH,JH,VI,VV,VW,reduceCtorEq]at hb5
       have hT:Uw i w=⟨1,w,(i+1:Nat),8,false⟩:=by unfold Uw;exact(if_neg hb2).trans ((if_neg hn3).trans ((if_neg hb4).trans (if_neg (by rw[hb5];decide))))
       refine QJ ?_;try simp only[QK,Qt,WR,Yy,if_true]
       exact⟨Uw i w,rfl,by rw[hT];exact Vg _,rfl⟩
  ·rintro t rfl
   refine XZ [3,4,5] (by rfl) ?_;simp+decide only[qh,qi,qj,qo,ev,qZ,qY,putD,Vz,VA,VB,Ka,VC,VD,Kb,and_true,↓qW,qU,↓Qu,QM,Xy qhB Yv,qM,ne_eq,not_false_eq_true,ne_6q8_w,ne_6q8_w.symm,qO w0 eb_w,qN,qJ,VE,setAt,VF,Kj,qC,VG,Kn,Jp,Nat.reduceAdd,qF,qG,qI,qf,qK,qa,qz,qd,qE,qc,qA,qg,qH,qy,allLive,J4,tokV,hrl,Zh];repeat (with_reducible refine And.intro ?_ ?_;· first|trivial|omega|(intro hg;simp only[Ky,JH,Jh,VH,VI,VJ,decide_eq_true_eq,decide_eq_false_iff_not,qR]at hg;omega))
   refine QS (cs:=Zh (Uw i w)) (by rfl) fun k17q2 hk17q2=>?_;have ne_17q2_6q8:k17q2≠k6q8:=by simp only[V7]at hk17q2;simp only[hk17q2,ne_eq,not_false_eq_true]
   have hn_17q2:H k17q2=none:=by first|assumption|(simp only[V7]at hk17q2;simp only[hk17q2])
   have hf_17q2:h k17q2=none:=Bh hs_H hn_17q2;have ne_17q2_w:k17q2≠kw:=BG hn_17q2 eb_w;refine Ub (es:=5) (v:=rv) (p:=rp) (xs:=(qaI 0 (ws.take i)).map Zh) (ys:=[Zh (Uw i w)]) (i:=2) (by rfl) (by rfl) Tryd.underlying31 Tryd.underlying31 (fun k e=>by cases e) Yv qgg qdT (by rfl) (by decide) (by rfl) hrow rfl (hS.forget ((V8 hn_6q8).trans (V8 hk17q2))) (by rfl) (V9 (Vf _ _ _) (fun x hx=>by rw[V4.1 hx];rfl) (by simp) (by rfl) (.exact 1) (KL _)) (by rfl) (by simp) (by simp only[Jn,qeI,K4,JF];omega) (by simp only[Jn,qeI,K4,JF];omega) fun rv2 rp2 h8 hrow2 hG2 hS2=>?_;simp+decide only[qh,qi,qj,qo,ev,qZ,qY,putD,Vz,VA,VB,Ka,VC,VD,Kb,and_true,↓qV,qP,qM,ne_eq,not_false_eq_true,ne_6q8_w,ne_6q8_w.symm,ne_17q2_6q8,ne_17q2_6q8.symm,ne_17q2_w,ne_17q2_w.symm,qO w0 eb_w,qN,qJ,VE,setAt,VF,Kj,qC,VG,Kn,Jp,Nat.reduceAdd,qF,qG,qI,qf,qK,qa,qz,qd,qE,qc,qA,qg,qH,qy,allLive,J4,tokV,hrl,Zh];repeat (with_reducible refine And.intro ?_ ?_;· first|trivial|omega|(intro hg;simp only[Ky,JH,Jh,VH,VI,VJ,decide_eq_true_eq,decide_eq_false_iff_not,qR]at hg;omega))
   change Awp _ _ _ _ _ _ _;refine XZ [3,4,5] (by rfl) ?_;simp+decide only[qh,qi,qj,qo,ev,qZ,qY,putD,Vz,VA,VB,Ka,VC,VD,Kb,and_true,↓qW,qU,↓Qj,Qa,Qm,cond_false,Qh,XM,↓qV,qP,qM,ne_eq,not_false_eq_true,ne_6q8_w,ne_6q8_w.symm,ne_17q2_6q8,ne_17q2_6q8.symm,ne_17q2_w,ne_17q2_w.symm,qO w0 eb_w,qN,qJ,VE,setAt,VF,Kj,qC,VG,Kn,Jp,Nat.reduceAdd,qF,qG,qI,qf,qK,qa,qz,qd,qE,qc,qA,qg,qH,qy,allLive,J4,tokV,hwi];try simp(disch:=omega)only[wrap_i64,wrap_u8]
   repeat (with_reducible refine And.intro ?_ ?_;· first|trivial|omega|(intro hg;simp only[Ky,JH,Jh,VH,VI,VJ,decide_eq_true_eq,decide_eq_false_iff_not,qR]at hg;omega))
   try simp only[QK,Qt]
   exact⟨⟨i+1,rv2,rp2,h8⟩,rfl,Vg _,⟨hi',hS2,by simp only;rw[hst,VZ];exact hrow2,hG2⟩,by simp only;omega⟩
 ·try simp only[decide_eq_true_eq,decide_eq_false_iff_not,Jh,VJ,Ky,VH,JH,VI,VV,VW,reduceCtorEq]at hb1
  have hin:i=ws.length:=by omega
  rw[hin,Jo]at hrow;refine XJ ?_;change Awp _ _ _ _ _ _ _;refine awp_rseq [2] (by rfl) fun K hK=>?_;simp+decide only[qh,qi,qj,qo,ev,qZ,qY,putD,Vz,VA,VB,Ka,VC,VD,Kb,and_true,↓qW,qU,↓qV,qP,qM,ne_eq,not_false_eq_true,qO w0 eb_w,qN,qJ,VE,setAt,VF,Kj,qC,VG,Kn,Jp,Nat.reduceAdd,qF,qG,qI,qf,qK,qa,qz,qd,qE,qc,qA,qg,qH,qy,allLive,J4,tokV,hrl];repeat (with_reducible refine And.intro ?_ ?_;· first|trivial|omega|(intro hg;simp only[Ky,JH,Jh,VH,VI,VJ,decide_eq_true_eq,decide_eq_false_iff_not,qR]at hg;omega))
  apply hK;clear hK K;refine Xd ?_;try simp only[QF,Qn]
  refine Xu (Qr (Qv)) ?_;simp+decide only[qh,qi,qj,qo,ev,qZ,qY,putD,Vz,VA,VB,Ka,VC,VD,Kb,and_true,QU,qM,ne_eq,not_false_eq_true,qO w0 eb_w,qN,qJ,VE,setAt,VF,Kj,qC,VG,Kn,Jp,Nat.reduceAdd,qF,qG,qI,qf,qK,qa,qz,qd,qE,qc,qA,qg,qH,qy,allLive,J4,tokV];exact⟨H,Vg _,rp,hrow,hG,hS.sub (by simp)⟩
theorem qgU(w0:World)(H:AHeap)(k:Nat)(b:UInt8):qda Tryd.prog w0 (H.set k ⟨byteCells [b],0⟩) 35 9 (.slice (.own k) 0 1 (.exact 1))=⟨True, .str [b]⟩:=by
 rw[qly Tryd.underlying35 Tryd.underlying9 Tryd.underlying5,qht (Vf _ _ _) 0 1 (by simp[byteCells])];have h1:=qiH [b];have h2:=qiG [b];have h3:((byteCells [b]).drop 0).take 1=byteCells [b]:=rfl;simp only[h3,h1,h2]
theorem qoZ(k:UInt8):IntKind.u8.wrap (48+(k.toNat:Int))=((48+k:UInt8).toNat:Int):=by
 unfold IntKind.wrap;rw[UInt8.toNat_add];simp[IntKind.bits,IntKind.signed]
theorem qgt(l:List Str):XR (l.map strC).flatten=true:=by
 induction l with
 |nil=>rfl
 |cons s l ih=>rw[Ke,Vm];exact ih
set_option maxHeartbeats 4000000 in
theorem qoL(w0:World)(h:AHeap)(v:AVal)(l:List TokC)(hv:IsL w0 h 5 v (l.map Zh))(hl:l.length<=1000000)(hsh:Short l):
 ACall Tryd.prog w0 11 [v] h (fun r h'=>∃p,GrowV 1 r p ((l.map qat).map strC)/\isG r=true/\Sep [h,p] h'):=by
 have hlv:=hv.live;have nv:=Yl hv;have hS0:Sep [h,emp] h:=Sep.emp (ps:=[h]) ⟨fun p hp=>by rw[V4.1 hp];exact Vg _,by simp⟩;refine Xf (n:=29) (rs:=[.tmp 2]) Tryd.func11 rfl rfl rfl rfl (Vy rfl) ?_;simp only[Xe];refine awp_rseq [0] (by rfl) fun K hK=>?_;simp+decide only[qh,qi,qj,qo,ev,qZ,qY,putD,Vz,VA,VB,Ka,VC,VD,Kb,and_true,↓qV,qP,qM,ne_eq,not_false_eq_true,qN,qJ,VE,setAt,VF,Kj,qC,VG,Kn,Jp,Nat.reduceAdd,qF,qG,qI,qf,qK,qa,qz,qd,qE,qc,qA,qg,qH,qy,allLive,J4,tokV,nv,hlv];repeat (with_reducible refine And.intro ?_ ?_;· first|trivial|omega|(intro hg;simp only[Ky,JH,Jh,VH,VI,VJ,decide_eq_true_eq,decide_eq_false_iff_not,qR]at hg;omega))
 apply hK;clear hK K;refine awp_rseq [0,3] (by rfl) fun K hK=>?_;simp+decide only[qh,qi,qj,qo,ev,qZ,qY,putD,Vz,VA,VB,Ka,VC,VD,Kb,and_true,↓qV,qP,qM,ne_eq,not_false_eq_true,qN,qJ,VE,setAt,VF,Kj,qC,VG,Kn,Jp,Nat.reduceAdd,qF,qG,qI,qf,qK,qa,qz,qd,qE,qc,qA,qg,qH,qy,allLive,J4,tokV,nv,hlv];repeat (with_reducible refine And.intro ?_ ?_;· first|trivial|omega|(intro hg;simp only[Ky,JH,Jh,VH,VI,VJ,decide_eq_true_eq,decide_eq_false_iff_not,qR]at hg;omega))
 apply hK;clear hK K;refine Qp ?_;refine awp_rseq [0,3,4] (by rfl) fun K hK=>?_;simp+decide only[qh,qi,qj,qo,ev,qZ,qY,putD,Vz,VA,VB,Ka,VC,VD,Kb,and_true,↓qV,qP,qM,ne_eq,not_false_eq_true,qN,qJ,VE,setAt,VF,Kj,qC,VG,Kn,Jp,Nat.reduceAdd,qF,qG,qI,qf,qK,qa,qz,qd,qE,qc,qA,qg,qH,qy,allLive,J4,tokV,nv,hlv];repeat (with_reducible refine And.intro ?_ ?_;· first|trivial|omega|(intro hg;simp only[Ky,JH,Jh,VH,VI,VJ,decide_eq_true_eq,decide_eq_false_iff_not,qR]at hg;omega))
 apply hK;clear hK K;refine QL ?_;refine XI [0,3,4] (fun g:LtG=>[(0,v),(3,g.rv),(4, .int .i64 g.i)]) (fun g:LtG=>g.H) (fun g:LtG=>g.i<=l.length/\Sep [h,g.rp] g.H/\GrowV 1 g.rv g.rp (((l.take g.i).map qat).map strC)/\isG g.rv=true) (fun g:LtG=>l.length-g.i) ⟨0, .nilSlice,emp,h⟩ (by rfl) (Vg _) ⟨Jq _,hS0, .nil,rfl⟩ ?_;rintro⟨i,rv,rp,H⟩ ⟨hi,hS,hrow,hG⟩;simp only at hi hS hrow hG|-
 have hs_H:Sub h H:=hS.in_ (i:=0) rfl;have hrl:=hrow.live;refine Qp ?_;refine awp_rseq [0,3,4,8] (by rfl) fun K hK=>?_;simp+decide only[qh,qi,qj,qo,ev,qZ,qY,putD,Vz,VA,VB,Ka,VC,VD,Kb,and_true,↓qW,qU,↓XG,Xh,QE Tryd.underlying31,QT Tryd.underlying31,↓Qj,Qa,Qz,cond_false,Qh,Zo,qM,ne_eq,not_false_eq_true,qN,qJ,VE,setAt,VF,Kj,qC,VG,Kn,Jp,Nat.reduceAdd,qF,qG,qI,qf,qK,qa,qz,qd,qE,qc,qA,qg,qH,qy,allLive,J4,tokV,nv,hlv];repeat (with_reducible refine And.intro ?_ ?_;· first|trivial|omega|(intro hg;simp only[Ky,JH,Jh,VH,VI,VJ,decide_eq_true_eq,decide_eq_false_iff_not,qR]at hg;omega))
 apply hK;clear hK K;refine Qw (b:=_) rfl (fun hb1=>?_) (fun hb1=>?_)
 ·try simp only[decide_eq_true_eq,decide_eq_false_iff_not,Jh,VJ,Ky,VH,JH,VI,VV,VW,reduceCtorEq]at hb1
  have hi':i<l.length:=by omega
  obtain⟨lc,o,c,hve⟩:=YA hv (by omega);obtain⟨t,ht⟩:∃t,t=l.getD i noT:=⟨_,rfl⟩
  have hv2:=hv.mono hs_H;rw[hve]at hv2;obtain⟨e0,e1,-⟩:=Uy hv2 hi';rw[<-ht]at e0 e1;have e2:∀(k:Nat) (b:Blk),H k=none->rd w0 (H.set k b) lc (o+i*5+1)= .str t.text:=fun k b hk=>by
   obtain⟨-,q,-⟩:=Uy (hv2.mono (V8 hk)) hi';rw[q,<-ht]
  have htk:l.take (i+1)=l.take i++[t]:=by rw[VY,JB hi',ht];simp[Ko,hi']
  have hwi:IntKind.i64.wrap ((i:Int)+1)=((i+1:Nat):Int):=by rw[wrap_i64 (by omega) (by omega)];omega
  have hwk:=qoZ t.kind;have hts:t.text.length<=1000000:=by rw[ht];exact hsh.at hi'
  refine QJ ?_;change Awp _ _ _ _ _ _ _;refine Qp ?_;refine QL ?_;refine qft 16 [] mixed (by kernel_rfl) (by rfl) ?_;simp only[Ki,Bj,Ba,Vk,List.take_nil,List.drop_nil];simp+decide only[qh,qi,qj,qo,ev,qZ,qY,putD,Vz,VA,VB,Ka,VC,VD,Kb,and_true,↓qbl,qU,↓WV,Yg,Ql Tryd.underlying31 Yv,ZH,↓WA,Qd,Ud,↓qbm,Qi qha,↓qfT,Qa,Qz,cond_false,Qh,XM,qM,ne_eq,not_false_eq_true,qN,qJ,VE,setAt,VF,Kj,qC,VG,Kn,Jp,Nat.reduceAdd,qF,qG,qI,qf,qK,qa,qz,qd,qE,qc,qA,qg,qH,qy,allLive,J4,tokV,nv,hlv,hve,e0,e1,hwk,VX,K6,qgU,hrl,KX,JD];try simp(disch:=omega)only[wrap_i64,wrap_u8]
  repeat (with_reducible refine And.intro ?_ ?_;· first|trivial|omega|(intro hg;simp only[Ky,JH,Jh,VH,VI,VJ,decide_eq_true_eq,decide_eq_false_iff_not,qR]at hg;omega))
  refine qaM (by rfl) ?_;refine QS (cs:=byteCells [48+t.kind]) (by kernel_rfl) fun k5q7 hk5q7=>?_;have hn_5q7:H k5q7=none:=by first|assumption|(simp only[V7]at hk5q7;simp only[hk5q7])
  have hf_5q7:h k5q7=none:=Bh hs_H hn_5q7;rw[qh];simp+decide only[qh,qi,qj,qo,ev,qZ,qY,putD,Vz,VA,VB,Ka,VC,VD,Kb,and_true,↓qnp _ _ _ (es_str Tryd.underlying35 Tryd.underlying9),qcz,↓qbl,qU,↓WV,Yg,Ql Tryd.underlying31 Yv,ZH,↓WA,Qd,qbe,↓qbm,Qi ag9,↓qfT,Qa,Qz,cond_false,XC,qci,qM,ne_eq,not_false_eq_true,qN,qJ,VE,setAt,VF,Kj,qC,VG,Kn,Jp,Nat.reduceAdd,qF,qG,qI,qf,qK,qa,qz,qd,qE,qc,qA,qg,qH,qy,allLive,J4,tokV,nv,hlv,hve,e0,e1,hwk,VX,K6,qgU,hrl,KX,JD,e2 _ _ hk5q7];try simp(disch:=omega)only[wrap_i64,wrap_u8]
  repeat (with_reducible refine And.intro ?_ ?_;· first|trivial|omega|(intro hg;simp only[Ky,JH,Jh,VH,VI,VJ,decide_eq_true_eq,decide_eq_false_iff_not,qR]at hg;omega))
  refine qaM (by rfl) ?_;refine QS (cs:=[.str (qat t)]) (by kernel_rfl) fun k5q15 hk5q15=>?_;have ne_5q15_5q7:k5q15≠k5q7:=by simp only[V7]at hk5q15;simp only[hk5q15,ne_eq,not_false_eq_true]
  have hn_5q15:H k5q15=none:=by first|assumption|(simp only[V7]at hk5q15;simp only[hk5q15])
  have hf_5q15:h k5q15=none:=Bh hs_H hn_5q15;rw[qh];repeat (with_reducible refine And.intro ?_ ?_;· first|trivial|omega|(intro hg;simp only[Ky,JH,Jh,VH,VI,VJ,decide_eq_true_eq,decide_eq_false_iff_not,qR]at hg;omega))
  try simp only[qi,qj]
  refine Ub (es:=1) (v:=rv) (p:=rp) (xs:=((l.take i).map qat).map strC) (ys:=[strC (qat t)]) (i:=1) (by rfl) (by rfl) Tryd.underlying22 Tryd.underlying22 (fun k e=>by cases e) sz9 by9 ze9 (by rfl) (by decide) (by rfl) hrow rfl (hS.forget ((V8 hk5q7).trans (V8 hk5q15))) (by rfl) (V9 (Vf _ _ _) (fun x hx=>by rw[V4.1 hx];rfl) (by rfl) (by rfl) (.exact 1) (KL _)) (by rfl) (by simp) (by simp only[Jn,K4,JF];omega) (by simp only[Jn,K4,JF];omega) fun rv2 rp2 h8 hrow2 hG2 hS2=>?_;simp+decide only[qh,qi,qj,qo,ev,qZ,qY,putD,Vz,VA,VB,Ka,VC,VD,Kb,and_true,↓qV,qP,qM,ne_eq,not_false_eq_true,ne_5q15_5q7,ne_5q15_5q7.symm,qN,qJ,VE,setAt,VF,Kj,qC,VG,Kn,Jp,Nat.reduceAdd,qF,qG,qI,qf,qK,qa,qz,qd,qE,qc,qA,qg,qH,qy,allLive,J4,tokV,nv,hlv,hve,e0,e1,hwk,VX,K6,qgU,hrl,KX,JD,e2 _ _ hk5q7];repeat (with_reducible refine And.intro ?_ ?_;· first|trivial|omega|(intro hg;simp only[Ky,JH,Jh,VH,VI,VJ,decide_eq_true_eq,decide_eq_false_iff_not,qR]at hg;omega))
  change Awp _ _ _ _ _ _ _;refine XZ [0,3,4] (by rfl) ?_;simp+decide only[qh,qi,qj,qo,ev,qZ,qY,putD,Vz,VA,VB,Ka,VC,VD,Kb,and_true,↓qW,qU,↓Qj,Qa,Qm,cond_false,Qh,XM,↓qV,qP,qM,ne_eq,not_false_eq_true,ne_5q15_5q7,ne_5q15_5q7.symm,qN,qJ,VE,setAt,VF,Kj,qC,VG,Kn,Jp,Nat.reduceAdd,qF,qG,qI,qf,qK,qa,qz,qd,qE,qc,qA,qg,qH,qy,allLive,J4,tokV,nv,hlv,hwi];try simp(disch:=omega)only[wrap_i64,wrap_u8]
  repeat (with_reducible refine And.intro ?_ ?_;· first|trivial|omega|(intro hg;simp only[Ky,JH,Jh,VH,VI,VJ,decide_eq_true_eq,decide_eq_false_iff_not,qR]at hg;omega))
  try simp only[QK,Qt]
  exact⟨⟨i+1,rv2,rp2,h8⟩,by first|rfl|(rw[hve];rfl),Vg _,⟨hi',hS2,by simp only;rw[htk,VZ,VZ];exact hrow2,hG2⟩,by simp only;omega⟩
 ·try simp only[decide_eq_true_eq,decide_eq_false_iff_not,Jh,VJ,Ky,VH,JH,VI,VV,VW,reduceCtorEq]at hb1
  have hin:i=l.length:=by omega
  rw[hin,Jo]at hrow;refine XJ ?_;change Awp _ _ _ _ _ _ _;refine awp_rseq [2] (by rfl) fun K hK=>?_;simp+decide only[qh,qi,qj,qo,ev,qZ,qY,putD,Vz,VA,VB,Ka,VC,VD,Kb,and_true,↓qW,qU,↓qV,qP,qM,ne_eq,not_false_eq_true,qN,qJ,VE,setAt,VF,Kj,qC,VG,Kn,Jp,Nat.reduceAdd,qF,qG,qI,qf,qK,qa,qz,qd,qE,qc,qA,qg,qH,qy,allLive,J4,tokV,nv,hlv,hrl];repeat (with_reducible refine And.intro ?_ ?_;· first|trivial|omega|(intro hg;simp only[Ky,JH,Jh,VH,VI,VJ,decide_eq_true_eq,decide_eq_false_iff_not,qR]at hg;omega))
  apply hK;clear hK K;refine Xd ?_;try simp only[QF,Qn]
  refine Xu (Qr (Qv)) ?_;simp+decide only[qh,qi,qj,qo,ev,qZ,qY,putD,Vz,VA,VB,Ka,VC,VD,Kb,and_true,QU,qM,ne_eq,not_false_eq_true,qN,qJ,VE,setAt,VF,Kj,qC,VG,Kn,Jp,Nat.reduceAdd,qF,qG,qI,qf,qK,qa,qz,qd,qE,qc,qA,qg,qH,qy,allLive,J4,tokV,nv,hlv];exact⟨H,Vg _,rp,hrow,hG,hS⟩
end Go.Proofs.YtgiadjbiimkbiaaDoor
namespace Go.AM
open Go.RowKit (Below)
section
variable {P:Program} {w0:World} {n:FrameK} {g₀:AHeap}
def qbD(P:Program)(w0:World)(l:List Oper)(g₀:AHeap):List Oper->Nat->List Nat->Slots->AHeap->(Slots->AHeap->Prop)->Prop
 |[],_,_,s,h,K=>K s h
 |o::r,0,_,s,h,K=>Xp P w0 l [o] s h fun s' h'=>Sub g₀ h'/\qbD P w0 l g₀ r 0 [] s' h' K
 |o::r,m+1,1::bs,s,h,K=>∃V,(∀g,Sub h g->Xp P w0 l [o] s g fun s' h'=>s'=putD s o.dst V/\h'=g)/\qbD P w0 l g₀ r m bs (putD s o.dst V) h K
 |o::r,m+1,2::bs,s,h,K=>Xp P w0 l [o] s g₀ fun s' _=>qbD P w0 l g₀ r m bs s' h K
 |o::r,m+1,bs,s,h,K=>Xp P w0 l [o] s h fun s' h'=>Sub h h'/\qbD P w0 l g₀ r m (bs.drop 1) s' h' K
theorem Wi{l:List Oper}{m:Nat}{bs:List Nat}{s:Slots}{h:AHeap}{K:Slots->AHeap->Prop}:qbD P w0 l g₀ [] m bs s h K=K s h:=by cases m<;>rfl
theorem YI{l:List Oper}{m:Nat}{bs:List Nat}{o:Oper}{r:List Oper}{s:Slots}{h:AHeap}{K:Slots->AHeap->Prop}:qbD P w0 l g₀ (o::r) (m+1) (0::bs) s h K=Xp P w0 l [o] s h fun s' h'=>Sub h h'/\qbD P w0 l g₀ r m bs s' h' K:=rfl
theorem Yp{l:List Oper}{bs:List Nat}{o:Oper}{r:List Oper}{s:Slots}{h:AHeap}{K:Slots->AHeap->Prop}:qbD P w0 l g₀ (o::r) 0 bs s h K=Xp P w0 l [o] s h fun s' h'=>Sub g₀ h'/\qbD P w0 l g₀ r 0 [] s' h' K:=rfl
theorem YH{l:List Oper}{m:Nat}{bs:List Nat}{o:Oper}{r:List Oper}{s:Slots}{h:AHeap}{K:Slots->AHeap->Prop}:qbD P w0 l g₀ (o::r) (m+1) (2::bs) s h K=Xp P w0 l [o] s g₀ fun s' _=>qbD P w0 l g₀ r m bs s' h K:=rfl
theorem qjE{l:List Oper}{m:Nat}{bs:List Nat}(h1:bs.getD 0 0≠1)(h2:bs.getD 0 0≠2){o:Oper}{r:List Oper}{s:Slots}{h:AHeap}{K:Slots->AHeap->Prop}(hj:qbD P w0 l g₀ (o::r) (m+1) bs s h K):Xp P w0 l [o] s h fun s' h'=>Sub h h'/\qbD P w0 l g₀ r m (bs.drop 1) s' h' K:=by
 match bs,h1,h2,hj with
 |[],_,_,hj=>exact hj
 |0::bs,_,_,hj=>exact hj
 |1::bs,h1,_,_=>exact absurd rfl h1
 |2::bs,_,h2,_=>exact absurd rfl h2
 |(k+3)::bs,_,_,hj=>exact hj
theorem qni{l:List Oper}{m:Nat}{bs:List Nat}(hb:bs.getD 0 0=1){o:Oper}{r:List Oper}{s:Slots}{h:AHeap}{K:Slots->AHeap->Prop}(hj:qbD P w0 l g₀ (o::r) (m+1) bs s h K):∃V,(∀g,Sub h g->Xp P w0 l [o] s g fun s' h'=>s'=putD s o.dst V/\h'=g)/\qbD P w0 l g₀ r m (bs.drop 1) (putD s o.dst V) h K:=by
 match bs,hb,hj with
 |[],hb,_=>simp at hb
 |1::bs,_,hj=>exact hj
 |0::bs,hb,_=>simp at hb
 |(k+2)::bs,hb,_=>simp at hb
theorem qnh{l:List Oper}{m:Nat}{bs:List Nat}(hb:bs.getD 0 0=2){o:Oper}{r:List Oper}{s:Slots}{h:AHeap}{K:Slots->AHeap->Prop}(hj:qbD P w0 l g₀ (o::r) (m+1) bs s h K):Xp P w0 l [o] s g₀ fun s' _=>qbD P w0 l g₀ r m (bs.drop 1) s' h K:=by
 match bs,hb,hj with
 |[],hb,_=>simp at hb
 |2::bs,_,hj=>exact hj
 |0::bs,hb,_=>simp at hb
 |1::bs,hb,_=>simp at hb
 |(k+3)::bs,hb,_=>simp at hb
theorem qng{l:List Oper}{bs bs':List Nat}{r:List Oper}{s:Slots}{h:AHeap}{K:Slots->AHeap->Prop}:qbD P w0 l g₀ r 0 bs s h K=qbD P w0 l g₀ r 0 bs' s h K:=by cases r<;>rfl
def isL(P:Program)(l:List Oper)(π:List Nat)(fl:List Nat)(m q:Nat):Bool:=decide (q<m) && (fl.getD q 0==1||isF P l (π.getD q 0))
def qns(P:Program)(l:List Oper)(π:List Nat)(fl:List Nat)(ws:List (Option Nat))(m:Nat):Bool:=
 qaj l && ((KP m).all fun q=> !(fl.getD q 0==2)||isF P l (π.getD q 0)) && (π.all fun i=>decide (i<l.length)) && ((KP l.length).all fun i=>π.contains i) &&
 ((KP π.length).all fun q=>(KP π.length).all fun r=>decide (q=r)|| !(π.getD q 0==π.getD r 0)) &&
 ((KP π.length).all fun q=>match ws.getD q none with
   |none=>(KP q).all fun c=>isL P l π fl m c
   |some r=>decide (r<q) && Region.waitsFor .any l.toArray (π.getD q 0) (π.getD r 0) && (KP q).all fun c=>decide (c<=r)||isL P l π fl m c) &&
 ((KP π.length).all fun q=>match l[π.getD q 0]? with
   |none=>true
   |some o=>(KP π.length).all fun r=>match l[π.getD r 0]? with
    |none=>true
    |some oj=>(match oj.dst with
     |none=>true
     |some t=> !(Xv l o).contains t||(decide (q<r) && decide (m<=r) && !(fl.getD q 0==2))||(decide (r<q) && Region.waitsFor .any l.toArray (π.getD q 0) (π.getD r 0)))) &&
 decide (m<=π.length) && ((KP π.length).all fun q=>decide (q<m)|| !isL P l π fl m q) &&
 (decide (m=π.length)||(KP m).all fun q=>(fl.getD q 0==2)||(KP (m+1)).any fun r=>decide (q<r) && (decide (r=m)|| !(fl.getD r 0==2)) && Region.waitsFor .any l.toArray (π.getD r 0) (π.getD q 0))
structure FloatL(P:Program)(l:List Oper)(π:List Nat)(fl:List Nat)(m:Nat):Prop where
 order:qaj l=true
 lateF:∀q,q<m->fl.getD q 0=2->isF P l (π.getD q 0)=true
 inr:∀q,q<π.length->π.getD q 0<l.length
 onto:∀i,i<l.length->∃q,q<π.length/\π.getD q 0=i
 inj:∀q r,q<π.length->r<π.length->π.getD q 0=π.getD r 0->q=r
 wait:∀q c,q<π.length->c<q->isL P l π fl m c=false->∃r,c<=r/\r<q/\Region.waitsFor .any l.toArray (π.getD q 0) (π.getD r 0)=true
 data:∀q r o oj t,q<π.length->r<π.length->l[π.getD q 0]?=some o->l[π.getD r 0]?=some oj->oj.dst=some t->t∈Xv l o->(q<r/\m<=r/\fl.getD q 0≠2)\/(r<q/\Region.waitsFor .any l.toArray (π.getD q 0) (π.getD r 0)=true)
 mle:m<=π.length
 tail:∀q,m<=q->q<π.length->isL P l π fl m q=false
 sink:m<π.length->∀q,q<m->fl.getD q 0≠2->∃r,q<r/\r<=m/\(r=m\/fl.getD r 0≠2)/\Region.waitsFor .any l.toArray (π.getD r 0) (π.getD q 0)=true
theorem qlN{l:List Oper}{π:List Nat}{fl:List Nat}{ws:List (Option Nat)}{m:Nat}(h:qns P l π fl ws m=true):FloatL P l π fl m:=by
 unfold qns at h;simp only[Ky]at h;obtain⟨⟨⟨⟨⟨⟨⟨⟨⟨h1,hL⟩,h2⟩,h3⟩,h4⟩,h5⟩,h6⟩,h7⟩,h8⟩,h9⟩:=h;simp only[Jz,JA]at hL h2 h3 h4 h5 h6 h8;refine⟨h1,fun q hq e=>by
  have z:=hL q hq;rw[JH]at z;rcases z with z|z
  ·rw[e]at z;simp at z
  ·exact z,fun q hq=>?_,fun i hi=>?_,fun q r hq hr e=>?_,fun q c hq hc hf=>?_,fun q r o oj t hq hr ho hoj hd ht=>?_,by simpa using h7,fun q hm hq=>?_,fun hm q hq hq2=>?_⟩
 ·have:=h2 (π.getD q 0) (by rw[Ko,JB hq];exact Vr hq)
  simpa using this
 ·have:=h3 i hi
  rw[List.contains_iff_mem]at this;obtain⟨q,hq,e⟩:=List.getElem_of_mem this;exact⟨q,hq,by rw[Ko,JB hq];exact e⟩
 ·have:=h4 q hq r hr
  rw[JH,decide_eq_true_eq]at this;rcases this with e'|e'
  ·exact e'
  ·rw[e]at e';simp at e'
 ·have:=h5 q hq
  split at this
  ·rw[Jz]at this
   rw[this c (JA.2 hc)]at hf;cases hf
  ·rename_i r _
   simp only[Ky,decide_eq_true_eq,Jz,JA,JH]at this;obtain⟨⟨t1,t2⟩,t3⟩:=this;rcases t3 c hc with e|e
   ·exact⟨r,e,t1,t2⟩
   ·rw[e]at hf;cases hf
 ·have:=h6 q hq
  rw[ho]at this;simp only[Jz,JA]at this;have:=this r hr;rw[hoj]at this;simp only[hd,JH,Ky,decide_eq_true_eq,Jh]at this;rcases this with(e|e)|e
  ·have hm:(Xv l o).contains t=true:=by simpa using ht
   rw[hm]at e;cases e
  ·exact .inl ⟨e.1.1,e.1.2,by simpa using e.2⟩
  ·exact .inr e
 ·have:=h8 q hq
  simp only[JH,decide_eq_true_eq,Jh]at this;rcases this with e|e
  ·omega
  ·exact e
 ·rw[JH,decide_eq_true_eq]at h9
  rcases h9 with e|e
  ·omega
  ·rw[Jz]at e
   have:=e q (JA.2 hq);rw[JH]at this;rcases this with this|this
   ·exact absurd (by simpa using this) hq2
   rw[List.any_eq_true]at this;obtain⟨r,hr,hw⟩:=this;rw[JA]at hr;simp only[Ky,JH,decide_eq_true_eq]at hw;exact⟨r,hw.1.1,by omega,hw.1.2.imp id (fun z=>by simpa using z),hw.2⟩
theorem qms{l:List Oper}(hall:Xt n l=true){π:List Nat}{fl:List Nat}{m:Nat}(F:FloatL P l π fl m){K:Slots->AHeap->Prop}{g:AHeap}(hg₀:Sub g₀ g):∀(d p:Nat) (S:Slots),π.length-p=d->p<=π.length->qbD P w0 l g₀ ((WM l π).drop p) (m-p) (fl.drop p) S g K->
 ∃p' S',p<=p'/\p'<=π.length/\(p'<π.length->isL P l π fl m p'=false)/\(∀q,p<=q->q<p'->isL P l π fl m q=true)/\qbD P w0 l g₀ ((WM l π).drop p') (m-p') (fl.drop p') S' g K/\
  (∀q o,p<=q->q<p'->l[π.getD q 0]?=some o->∃V,(∀t,o.dst=some t->S'.get t=V)/\FactC P w0 n l g S' o V/\(fl.getD q 0=2->FactC P w0 n l g₀ S' o V))/\
  (∀t,(∀q o,p<=q->q<p'->l[π.getD q 0]?=some o->o.dst≠some t)->S'.get t=S.get t):=by
 intro d;induction d with
 |zero=>
  intro p S hd hp ha;exact⟨p,S,KL _,hp,fun h=>by omega,fun q h1 h2=>by omega,ha,fun q o h1 h2=>by omega,fun t _=>rfl⟩
 |succ d ih=>
  intro p S hd hp ha;have hpl:p<π.length:=by omega
  cases hf:isL P l π fl m p with
  |false=>exact⟨p,S,KL _,hp,fun _=>hf,fun q h1 h2=>by omega,ha,fun q o h1 h2=>by omega,fun t _=>rfl⟩
  |true=>
   have hpm:p<m:=by
    refine J2 fun h=>?_;rw[F.tail p h hpl]at hf;cases hf
   obtain⟨o,ho⟩:∃o,l[π.getD p 0]?=some o:=⟨_,JB (F.inr p hpl)⟩
   rw[qdz F.inr hpl ho,show m-p=(m-(p+1))+1 by omega]at ha;have hfl:(fl.drop p).getD 0 0=fl.getD p 0:=by simp[Ko,Kq]
   have hfd:(fl.drop p).drop 1=fl.drop (p+1):=by rw[Eg]
   obtain⟨V,hv,hfact,hfact₀⟩:∃V,qbD P w0 l g₀ ((WM l π).drop (p+1)) (m-(p+1)) (fl.drop (p+1)) (putD S o.dst V) g K/\FactC P w0 n l g S o V/\(fl.getD p 0=2->FactC P w0 n l g₀ S o V):=by
    by_cases hb2:fl.getD p 0=2
    ·have ha:=qnh (by rw[hfl,hb2]) ha
     rw[hfd]at ha;have hk2:Wz P o.op=2:=by
      have:=F.lateF p hpm hb2;unfold isF at this;rw[ho]at this;simpa using this
     obtain⟨V,hv,hfact⟩:=qkA hall hk2 ha;exact⟨V,hv,hfact.toC.sub hg₀,fun _=>hfact.toC⟩
    ·by_cases hb1:fl.getD p 0=1
     ·obtain⟨V,h1,h2⟩:=qni (by rw[hfl,hb1]) ha
      rw[hfd]at h2;exact⟨V,h2,qpN hall h1,fun e=>absurd e hb2⟩
     ·have hk2:Wz P o.op=2:=by
       unfold isL isF at hf;rw[ho]at hf;simp only[Ky,JH,beq_iff_eq,hb1,false_or]at hf;simpa using hf.2
      have ha:=qjE (by rw[hfl];exact hb1) (by rw[hfl];exact hb2) ha;rw[hfd]at ha;obtain⟨V,⟨_,hv⟩,hfact⟩:=qkA hall hk2 ha;exact⟨V,hv,hfact.toC,fun e=>absurd e hb2⟩
   obtain⟨p',S',a1,a2,a3,a4,a5,a6,a7⟩:=ih (p+1) (putD S o.dst V) (by omega) (by omega) hv;have notlook:∀q oq t,p<=q->q<p'->l[π.getD q 0]?=some oq->oq.dst=some t->t∉Xv l o:=fun q oq t h1 h2 h3 h4 ht=>by
    rcases F.data p q o oq t hpl (by omega) ho h3 h4 ht with⟨c1,c2,_⟩|⟨c1,_⟩
    ·have:=a4 q (by omega) h2
     rw[F.tail q c2 (by omega)]at this;cases this
    ·omega
   have uniq:∀q oq t,p<q->q<π.length->l[π.getD q 0]?=some oq->oq.dst=some t->o.dst≠some t:=fun q oq t h1 h2 h3 h4 e=>by
    have:=((Zu F.order ho).2 _ oq t h3 h4).1 e;have:=F.inj p q hpl h2 this;omega
   refine⟨p',S',by omega,a2,a3,fun q h1 h2=>?_,a5,fun q oq h1 h2 hq=>?_,fun t ht=>?_⟩
   ·rcases Jy h1 with e|e
    ·rw[<-e];exact hf
    ·exact a4 q e h2
   ·rcases Jy h1 with e|e
    ·subst e
     rw[ho]at hq;obtain rfl:=Option.some.inj hq;have hsl:∀t∈Xv l o,S'.get t=S.get t:=fun t ht=>by
      rw[a7 t fun q oq h3 h4 h5 h6=>notlook q oq t (by omega) (by omega) h5 h6 ht,YG,if_neg fun e=>notlook p o t (KL _) (by omega) ho e ht]
     refine⟨V,fun t ht=>?_,hfact.slots hsl,fun e=>(hfact₀ e).slots hsl⟩;rw[a7 t fun q oq h3 h4 h5 h6=>uniq q oq t h3 (by omega) h5 h6 ht,YG,if_pos ht]
    ·exact a6 q oq e h2 hq
   ·rw[a7 t fun q oq h3 h4 h5=>ht q oq (by omega) h4 h5,YG,if_neg (ht p o (KL _) (by omega) ho)]
def qsW(P:Program)(w0:World)(n:FrameK)(g₀:AHeap)(l:List Oper)(π:List Nat)(fl:List Nat)(m:Nat)(K:Slots->AHeap->Prop)(listed:Array Bool)(Ps:PMap)(a:Act)(w:World):Prop:=
 listed.size=l.length/\(∀j oj,l[j]?=some oj->listed.getD j false=true->∀e∈oj.after,Region.binds .any e=true->listed.getD e.on false=true)/\a.tmps.size=n/\a.defers=n.dfr/\
 ∃p S g,p<=π.length/\(p<π.length->isL P l π fl m p=false)/\(∀q,p<=q->q<π.length->listed.getD (π.getD q 0) false=false)/\(∀q,q<p->isL P l π fl m q=false->listed.getD (π.getD q 0) false=true)/\
  (m<p->∀q,q<p->fl.getD q 0≠2->listed.getD (π.getD q 0) false=true)/\Sub g₀ g/\HRel w0 Ps g w/\qbD P w0 l g₀ ((WM l π).drop p) (m-p) (fl.drop p) S g K/\
  (∀q o,q<p->l[π.getD q 0]?=some o->listed.getD (π.getD q 0) false=false->∃V,(∀t,o.dst=some t->S.get t=V)/\FactC P w0 n l g S o V/\(fl.getD q 0=2->FactC P w0 n l g₀ S o V))/\
  ∀t,(∃q o,q<p/\l[π.getD q 0]?=some o/\o.dst=some t/\listed.getD (π.getD q 0) false=false)\/VR Ps (S.get t) (a.tmps.getD t undef)
theorem any_okL{l:List Oper}(hall:Xt n l=true){π:List Nat}{fl:List Nat}{m:Nat}(F:FloatL P l π fl m){K:Slots->AHeap->Prop}{fi:PMap}{Q:Exit->Act->World->Prop}
 (hq:∀Ps S g a w,fi.le Ps->HRel w0 Ps g w->SRel Ps n S a->K S g->Q .normal a w):∀(fuel:Nat) (listed:Array Bool) (a:Act) (w:World) (Ps:PMap),fi.le Ps->qsW P w0 n g₀ l π fl m K listed Ps a w->
 (listed.toList.filter (!·)).length<=fuel->wpAny P .any l.toArray Q fuel listed a w:=by
 have hB:=F.order;have fin:∀(listed:Array Bool) (a:Act) (w:World) (Ps:PMap),fi.le Ps->qsW P w0 n g₀ l π fl m K listed Ps a w->Region.ready .any l.toArray listed=[]->Q .normal a w:=by
  rintro listed a w Ps hle ⟨i1,i2,i3,i4,p,S,g,p1,p2,p3,p4,p5,pg,p6,p7,p8,p9⟩ hrd;have hal:=qdK hB i1 hrd;have hp:p=π.length:=by
   rcases Jy p1 with e|e
   ·exact e
   ·have:=p3 p (KL _) e
    rw[hal _ (F.inr p e)]at this;cases this
  subst hp;rw[show(WM l π).drop π.length=[] by rw[<-qdy F.inr];simp,Wi]at p7;refine hq Ps S g a w hle p6 ⟨i3,i4,fun t=>?_⟩ p7;rcases p9 t with⟨q,o,c1,c2,c3,c4⟩|c
  ·rw[hal _ (F.inr q c1)]at c4;cases c4
  ·exact c
 intro fuel;induction fuel with
 |zero=>
  intro listed a w Ps hle inv hc;have hrd:Region.ready .any l.toArray listed=[]:=by
   cases hrd:Region.ready .any l.toArray listed with
   |nil=>rfl
   |cons i r=>
    exfalso;have hm:i∈Region.ready .any l.toArray listed:=by rw[hrd];exact Je
    obtain⟨h1,o,ho,_⟩:=mem_ready.1 hm;have hi:i<listed.size:=by
     have:l[i]?=some o:=by simpa using ho
     rw[inv.1];exact(Jw.1 this).1
    have h2:listed.toList[i]?=some false:=by
     simp[JC,hi]at h1;simp[hi,h1]
    have:=List.mem_of_getElem? h2;have hmem:false∈listed.toList.filter (!·):=by simp[List.mem_filter,this]
    have:=List.length_pos_of_mem hmem;omega
  exact⟨hrd,fin listed a w Ps hle inv hrd⟩
 |succ fuel ih=>
  intro listed a w Ps hle inv hc;refine⟨fun hrd=>fin listed a w Ps hle inv hrd,fun i hi=>?_⟩;obtain⟨i1,i2,i3,i4,p,S,g,p1,p2,p3,p4,p5,pg,p6,p7,p8,p9⟩:=inv;obtain⟨h1,o,ho,hedges⟩:=mem_ready.1 hi;have hol:l[i]?=some o:=by simpa using ho
  have hilt:i<l.length:=(Jw.1 hol).1;have hisz:i<listed.size:=by rw[i1];exact hilt
  have hif:listed.getD i false=false:=by simp[JC,hisz]at h1|-;exact h1
  have hcount:((listed.setIfInBounds i true).toList.filter (!·)).length<=fuel:=by
   have h2:listed.toList[i]?=some false:=by
    simp[JC,hisz]at h1;simp[hisz,h1]
   have:=qbY listed.toList i h2;have e:(listed.setIfInBounds i true).toList=listed.toList.set i true:=by simp
   rw[e];omega
  have hdn:∀d,o.dst=some d->d<n:=fun d hd=>qcI l i d hall (by rw[Yn,hol];exact hd);obtain⟨q,hql,hqi⟩:=F.onto i hilt;have hoq:l[π.getD q 0]?=some o:=by rw[hqi];exact hol
  have looks:LookOk Ps n l o S a:=⟨i3,i4,fun t ht=>by
   rcases p9 t with⟨r,oj,c1,c2,c3,c4⟩|c
   ·exfalso
    rcases F.data q r o oj t hql (by omega) hoq c2 c3 ht with⟨d1,d2,d3⟩|⟨_,this⟩
    ·have:=p5 (by omega) q (by omega) d3
     rw[hqi,hif]at this;cases this
    ·rw[hqi]at this
     rw[qbi hol hedges this]at c4;cases c4
   ·exact c⟩
  have closed':∀j oj,l[j]?=some oj->(listed.setIfInBounds i true).getD j false=true->∀e∈oj.after,Region.binds .any e=true->(listed.setIfInBounds i true).getD e.on false=true:=fun j oj hj hl e he hb=>by
   by_cases e1:e.on=i
   ·rw[e1];exact set_self hisz
   ·rw[Zi e1]
    by_cases e2:j=i
    ·subst e2
     rw[hol]at hj;obtain rfl:=Option.some.inj hj;exact hedges e he hb
    ·rw[Zi e2]at hl
     exact i2 j oj hj hl e he hb
  have other:∀r,r<π.length->r≠q->(listed.setIfInBounds i true).getD (π.getD r 0) false=listed.getD (π.getD r 0) false:=fun r hr hne=>Zi fun e=>hne (F.inj r q hr hql (by rw[e,hqi]));have nobehind:p<q->False:=fun hpq=>by
   obtain⟨r,r1,r2,r3⟩:=F.wait q p hql hpq (p2 (by omega));rw[hqi]at r3;have:=qbi hol hedges r3;rw[p3 r r1 (by omega)]at this;cases this
  have goal:(if Region.wanted o (yielded l.toArray a.tmps)=true then o.wp P a w (wpAny P .any l.toArray Q fuel (listed.setIfInBounds i true)) Q else wpAny P .any l.toArray Q fuel (listed.setIfInBounds i true) (a.put o.dst undef) w):=by
   rcases KT q p with hqp|hqp
   ·
    obtain⟨V,v1,v2,-⟩:=p8 q o hqp hoq (by rw[hqi];exact hif);refine v2 Ps w a g _ Q (Vg g) p6 looks fun ψ₂ v wx hle₂ hr₂ hv=>?_;refine ih _ _ _ ψ₂ (JN hle hle₂) ⟨by simp[i1],closed',by rw[qea];exact i3,by rw[put_defers];exact i4,p,S,g,p1,p2,fun r r1 r2=>?_,fun r r1 r2=>?_,fun hm r r1 r2=>?_,pg,hr₂,p7,fun r oj r1 r2 r3=>?_,fun t=>?_⟩ hcount
    ·rw[other r r2 (by omega)];exact p3 r r1 r2
    ·by_cases e:r=q
     ·rw[e,hqi];exact set_self hisz
     ·rw[other r (by omega) e];exact p4 r r1 r2
    ·by_cases e:r=q
     ·rw[e,hqi];exact set_self hisz
     ·rw[other r (by omega) e];exact p5 hm r r1 r2
    ·by_cases e:r=q
     ·rw[e,hqi,set_self hisz]at r3;cases r3
     ·rw[other r (by omega) e]at r3
      exact p8 r oj r1 r2 r3
    ·by_cases hod:o.dst=some t
     ·right
      rw[v1 t hod,qah a hod (by rw[i3];exact hdn t hod)];exact hv t hod
     ·rcases p9 t with⟨r,oj,c1,c2,c3,c4⟩|c
      ·refine .inl ⟨r,oj,c1,c2,c3,?_⟩
       rw[other r (by omega) fun e=>by subst e;rw[hoq]at c2;obtain rfl:=Option.some.inj c2;exact hod c3];exact c4
      ·right
       rw[UB a hod];exact WB hle₂ _ _ c
   ·have hqe:q=p:=by
     rcases Jy hqp with e|e
     ·exact e.symm
     ·exact(nobehind e).elim
    subst hqe;have all_m:m<=q->∀r,r<q->fl.getD r 0≠2->listed.getD (π.getD r 0) false=true:=fun hm r hr hr2=>by
     rcases Jy hm with e|e
     ·subst e
      have key:∀d r,r+d=m->r<m->fl.getD r 0≠2->listed.getD (π.getD r 0) false=true:=by
       intro d;induction d using Nat.strongRecOn with
       |ind d ihd=>
        intro r hd hr hr2;obtain⟨r',s1,s2,s4,s3⟩:=F.sink hql r hr hr2;rcases Jy s2 with e|e
        ·subst e
         rw[hqi]at s3;exact qbi hol hedges s3
        ·have hl:=ihd (m-r') (by omega) r' (by omega) e (s4.resolve_left (by omega))
         obtain⟨oj,hoj⟩:∃oj,l[π.getD r' 0]?=some oj:=⟨_,JB (F.inr r' (by omega))⟩
         exact qbi hoj (i2 _ oj hoj hl) s3
      exact key (m-r) r (by omega) hr hr2
     ·exact p5 e r hr hr2
    obtain⟨K',ha,hnext⟩:∃K':Slots->AHeap->Prop,Xp P w0 l [o] S g K'/\∀s' h',K' s' h'->(q<m->Sub g h')/\Sub g₀ h'/\qbD P w0 l g₀ ((WM l π).drop (q+1)) (m-(q+1)) (fl.drop (q+1)) s' h' K:=by
     rw[qdz F.inr hql hoq]at p7;have hfl:(fl.drop q).getD 0 0=fl.getD q 0:=by simp[Ko,Kq]
     have hfd:(fl.drop q).drop 1=fl.drop (q+1):=by rw[Eg]
     by_cases c:q<m
     ·have hfb:fl.getD q 0≠1/\fl.getD q 0≠2:=by
       have:=p2 hql;unfold isL at this;rw[decide_eq_true c,VO,VI]at this;refine⟨by simpa using this.1,fun e=>?_⟩;rw[F.lateF q c e]at this;cases this.2
      rw[show m-q=(m-(q+1))+1 by omega]at p7;have p7:=qjE (by rw[hfl];exact hfb.1) (by rw[hfl];exact hfb.2) p7;rw[hfd]at p7;exact⟨_,p7,fun s' h' hx=>⟨fun _=>hx.1,pg.trans hx.1,hx.2⟩⟩
     ·rw[show m-q=0 by omega,Yp]at p7
      refine⟨_,p7,fun s' h' hx=>⟨fun hc=>absurd hc c,hx.1,?_⟩⟩;rw[show m-(q+1)=0 by omega,qng (bs':=[])];exact hx.2
    refine qmY hall ha p6 looks fun ψ' x h' v w' e1 e2 e3 hk=>?_;obtain⟨k1,kg,k2⟩:=hnext _ _ hk;obtain⟨p',S',a1,a2,a3,a4,a5,a6,a7⟩:=qms hall F kg (π.length-(q+1)) (q+1) (putD S o.dst x) rfl (by omega) k2;have keep:∀r or t,r<q->l[π.getD r 0]?=some or->listed.getD (π.getD r 0) false=false->(or.dst=some t\/t∈Xv l or)->S'.get t=S.get t:=fun r or t hr hor hun ht=>by
     have nd:∀u ou,q<=u->u<max p' (q+1)->u<π.length->l[π.getD u 0]?=some ou->ou.dst≠some t:=fun u ou h1 hup h2 h3 h4=>by
      rcases ht with ht|ht
      ·have:=((Zu hB hor).2 _ ou t h3 h4).1 ht
       have:=F.inj r u (by omega) h2 this;omega
      ·rcases F.data r u or ou t (by omega) h2 hor h3 h4 ht with⟨c1,c2,c3⟩|⟨c1,_⟩
       ·rcases Jy h1 with e|e
        ·subst e
         rw[all_m c2 r hr c3]at hun;cases hun
        ·have:=a4 u e (by omega)
         rw[F.tail u c2 h2]at this;cases this
       ·omega
     rw[a7 t fun u ou h1 h2 h3=>nd u ou (by omega) (by omega) (by omega) h3,YG,if_neg (nd q o (KL _) (by omega) hql hoq)]
    refine ih _ _ _ ψ' (JN hle e1) ⟨by simp[i1],closed',by rw[qea];exact i3,by rw[put_defers];exact i4,p',S',h',a2,a3,fun r r1 r2=>?_,fun r r1 r2=>?_,fun hm r r1 rl=>?_,kg,e2,a5,fun r oj r1 r2 r3=>?_,fun t=>?_⟩ hcount
    ·rw[other r r2 (by omega)];exact p3 r (by omega) r2
    ·by_cases e:r=q
     ·rw[e,hqi];exact set_self hisz
     ·rw[other r (by omega) e]
      rcases KT r q with c|c
      ·exact p4 r c r2
      ·rw[a4 r (by omega) r1]at r2;cases r2
    ·have hmq:m<=q:=by
      refine Kt fun hc=>?_;have hmp:m<π.length:=by omega
      have:=a4 m (by omega) hm;rw[F.tail m (KL _) hmp]at this;cases this
     by_cases e:r=q
     ·rw[e,hqi];exact set_self hisz
     ·rw[other r (by omega) e]
      rcases KT r q with c|c
      ·exact all_m hmq r c rl
      ·have:=a4 r (by omega) r1
       rw[F.tail r (by omega) (by omega)]at this;cases this
    ·by_cases e:r=q
     ·rw[e,hqi,set_self hisz]at r3;cases r3
     ·rw[other r (by omega) e]at r3
      rcases KT r q with c|c
      ·obtain⟨V,v1,v2,v3⟩:=p8 r oj c r2 r3
       have hsl:∀t∈Xv l oj,S'.get t=S.get t:=fun t ht=>keep r oj t c r2 r3 (.inr ht);refine⟨V,fun t ht=>(keep r oj t c r2 r3 (.inl ht)).trans (v1 t ht),?_,fun e=>(v3 e).slots hsl⟩;by_cases e2:fl.getD r 0=2
       ·exact((v3 e2).sub kg).slots hsl
       ·have hqm:q<m:=by
         refine J2 fun hm=>?_;rw[all_m hm r c e2]at r3;cases r3
        exact(v2.sub (k1 hqm)).slots hsl
      ·exact a6 r oj (by omega) r1 r2
    ·by_cases hod:o.dst=some t
     ·right
      rw[a7 t fun u ou h1 h2 h3 h4=>by
       have:=((Zu hB hoq).2 _ ou t h3 h4).1 hod;have:=F.inj q u hql (by omega) this;omega,YG,if_pos hod,qah a hod (by rw[i3];exact hdn t hod)]
      exact e3
     ·by_cases hw:∃r or,q+1<=r/\r<p'/\l[π.getD r 0]?=some or/\or.dst=some t
      ·obtain⟨r,or,w1,w2,w3,w4⟩:=hw
       exact .inl ⟨r,or,w2,w3,w4,by rw[other r (by omega) (by omega)];exact p3 r (by omega) (by omega)⟩
      ·have hS:S'.get t=S.get t:=by
        rw[a7 t fun u ou h1 h2 h3 h4=>hw ⟨u,ou,h1,h2,h3,h4⟩,YG,if_neg hod]
       rcases p9 t with⟨r,oj,c1,c2,c3,c4⟩|c
       ·exact .inl ⟨r,oj,by omega,c2,c3,by rw[other r (by omega) (by omega)];exact c4⟩
       ·right
        rw[hS,UB a hod];exact WB e1 _ _ c
  simp only[wpOp,ho];split
  ·rename_i hw
   rw[if_pos hw]at goal;exact .inl goal
  ·rename_i hw
   rw[if_neg hw]at goal;exact goal
theorem qfs{Q:Exit->Slots->AHeap->Prop}{s:Slots}{h:AHeap}{id:Nat}{l:List Oper}(π:List Nat)(fl:List Nat)(ws:List (Option Nat))(m:Nat)(g₀:AHeap)(hm:P.follows .mixedOrders=true)(hB:qns P l π fl ws m=true)(hd:Xt n l=true)(hg₀:Sub g₀ h)
 (hc:qbD P w0 l g₀ (WM l π) m fl s h fun s' h'=>Q .normal s' h'):Awp P w0 n (.region id l.toArray true) Q s h:=by
 refine Awp.of0 ?_;intro fi a w hr hs;have F:=qlN hB;refine wp_region_any hm ?_;have hf:∀j,(Ju l.toArray.size false).getD j false=false:=fun j=>by simp[JC]
 obtain⟨p',S',a1,a2,a3,a4,a5,a6,a7⟩:=qms hd F hg₀ π.length 0 s rfl (Jq _) (by rw[Nat.sub_zero,Vk];exact hc);refine any_okL (fi:=fi) hd F (K:=fun s' h'=>Q .normal s' h') (fun Ps S g a' w' hle h1 h2 h3=>⟨Ps,S,g,hle,h1,h2,h3⟩) _ _ _ _ fi fi.le_refl
  ⟨by simp,fun j oj _ hl=>(by rw[hf]at hl;cases hl),hs.size,hs.defers,p',S',h,a2,a3,fun r _ _=>hf _,fun r r1 r2=>?_,fun hm' r r1 _=>?_,hg₀,hr.drew,a5,fun r oj r1 r2 _=>a6 r oj (Jq _) r1 r2,fun t=>?_⟩ ?_
 ·rw[a4 r (Jq _) r1]at r2;cases r2
 ·have:=a4 m (Jq _) hm'
  rw[F.tail m (KL _) (by omega)]at this;cases this
 ·by_cases hw:∃r or,r<p'/\l[π.getD r 0]?=some or/\or.dst=some t
  ·obtain⟨r,or,w2,w3,w4⟩:=hw
   exact .inl ⟨r,or,w2,w3,w4,hf _⟩
  ·right
   rw[a7 t fun u ou _ h2 h3 h4=>hw ⟨u,ou,h2,h3,h4⟩];exact hs.val t
 ·have:=List.length_filter_le (!·) (Ju l.toArray.size false).toList
  simpa using this
end
end Go.AM
