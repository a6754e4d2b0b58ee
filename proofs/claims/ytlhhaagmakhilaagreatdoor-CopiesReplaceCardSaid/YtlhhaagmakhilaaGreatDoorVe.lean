/-
  Texts of this proof, joined: CqM, CqN, CqO, CqP, CqQ, CqR, TkU, CsA, CsB, BmB, CsC, CtA, CtB, BmG, CtC, CtD, CtE, BmH, CtR, CtL, CtF, CtM, CtN, CtO, CtG, CtH, CtP, CtI, CtJ, CtK, CtQ.
  Conditions: none.
-/
import Derived.Test.YtlhhaagmakhilaaGreatDoorVd
import Derived.Test.YtlhhaagmakhilaaGreatDoorVb
set_option linter.unusedSimpArgs false
set_option linter.unnecessarySimpa false
set_option linter.unusedVariables false
open List renaming length_append->Jb,length_singleton->JR,length_map->Jo,getD_cons_zero->VX,getD_cons_succ->Km,set_cons_zero->VW,map_cons->Kc,map_nil->Vj,set_cons_succ->Ki,length_cons->KX,length_nil->J8,mem_map->JG,contains_iff_mem->JW,map_append->Ba,take_succ_cons->Kh,take_zero->V6,map_eq_nil_iff->VU,any_eq_true->JX,length_drop->K5,flatten_append->Ej,drop_succ_cons->VB,drop_zero->KP,cons_append->Kg,mem_cons->KW,eq_nil_of_length_eq_zero->Ke,take_add_one->VJ,getElem?_eq_getElem->Jz,getD->Kn,getElem_mem->VH,length_range->Eo,length_replicate->Ep,length_take->K4,length_set->Er,length_reverse->V4,not_mem_nil->Bj,all_eq_true->JC,nil_append->Jd,take_nil->Es,drop_nil->Et,take_of_length_le->Jq,append_nil->Be,getElem?_append_right->VA,getElem?_drop->Ko,getElem?_append_left->Ew,getElem?_take->KZ,flatten_cons->Vx,length->BP,range->KO,mem_range->JD,getElem_of_mem->BM,drop_drop->BN,mem_cons_self->Je,getElem?_eq_some_iff->JA,mem_of_getElem?->JZ,mem_filter->J2,length_pos_of_mem->J3,length_filter_le->J9,filterMap_cons->VI,filterMap_nil->Ec,getElem?_cons_zero->Ky,getElem?_cons_succ->KL,map_drop->EB
open Go.Proofs.YtlhhaagmakhilaaGreatDoor.ACall renaming down->Em
open Nat renaming le_of_ble_eq_true->VL,zero_add->Jr,zero_le->Js,lt_or_ge->KT,le_refl->KJ,le_trans->V5,add_zero->K6,mul_one->BI,min_eq_left->Eu,sub_self->Ev,mul_div_cancel->Vn,lt_of_not_le->JO,eq_or_lt_of_le->JB,strongRecOn->Jv,le_of_not_lt->Kr,sub_zero->Jg,le_of_lt_succ->EA,zero_mul->K7
open Go.AM.AHeap renaming set_none->V7,ne_some->Bh,set_set->Vh,set_same->Vd,set_ne->Vb,del->Vk,set->Bd
open Go.AM.Sub renaming none->Bg,refl->Vl,set_both->V9,trans_set->V3,set->Vg,buf->BH,trans->BJ
open Go.AM.Slots renaming put->VM,keep->VN,get->VO
open Go.AM.AVal renaming cells->VV,okIn->Bb
open Bool renaming and_true->JS,true_and->Vf,or_eq_true->JV,or_eq_false_iff->VQ,and_eq_true->Kw,not_eq_true'->Ji,and_eq_false_iff->VP,not_eq_false'->VS,false_eq_true->KV,false_or->BO
open Go.AM.Awp renaming forget->BG,keep->Va
open Int renaming toNat_natCast->Vq,tmod->Ex,tmod_eq_emod_of_nonneg->Ey
open Go.Proofs.YtlhhaagmakhilaaGreatDoor.Sub renaming bufBoth->En
open Go.AM.IsL renaming buf->BF,own->V8
open Option renaming isSome_some->JJ
open Array renaming getD->JE,replicate->Jw
open Go.AM.PMap renaming le_trans->J6
open UInt8 renaming toNat->Ez,ofNat->KC
namespace Go.Proofs.YtlhhaagmakhilaaGreatDoor
open Go.AM
open Go.Proofs
open Go.Col (Str FaultC okF)
open Go.Tok
open Go.Cop
open Go.RowKit (Below)
set_option maxRecDepth 100000
theorem addE_len(ns:List Str)(s:Str):(Cop.addE ns s).length<=ns.length+1:=by
 unfold Cop.addE;split
 ·omega
 ·rw[Jb,JR];omega
def RecOk(wz:World)(kx km:Nat)(mv:AVal)(mems:List MemC)(op:List Str)(rec:List TokC->List Str->Xs->Xr):Prop:=
 op.length<=8->∀(h B:AHeap) (v:AVal) (l:List TokC) (st:Xs),ExpR B kx km mv op st h->IsMems wz B mv mems->IsL wz B 5 v (l.map QJ)->l.length<=100000->st.names.length<=st.copies->st.copies<=4096->
  ACall Tryz.prog wz 32 [.ptr (.own kx) 0,v] h (ListR wz B kx km mv op (rec l op st))
set_option maxHeartbeats 4000000 in
theorem c_member(wz:World)(h B:AHeap)(kx km:Nat)(mv:AVal)(mems:List MemC)(op:List Str)(st:Xs)(s:Stm)(rv:AVal)(rec:List TokC->List Str->Xs->Xr)(hx:ExpR B kx km mv op st h)(hms:IsMems wz B mv mems)(hml:mems.length<=1000000)(hmt:∀m∈mems,m.toks.length<=100000)
 (hrp:IsReps wz B rv s.reps) (hrn:∀x∈s.reps,x.new.length<=1000000) (hrl:s.reps.length<=1000000) (hro:∀x∈s.reps,x.old≠[]) (hst:st.names.length<=st.copies) (hst2:st.copies<=4096) (hop8:op.length<=8)
 (hrec:op.length<8->RecOk wz kx km mv mems (op++[s.name.text]) rec):
 ACall Tryz.prog wz 47 [.ptr (.own kx) 0, .agg (qlj s.name rv)] h (ListR wz B kx km mv op (qbe true mems op rec s st)):=by
 obtain⟨hfew,c,es,nb,he,hes,hsh⟩:=hx;obtain⟨qs,hqs,hq2,hq3⟩:=hms;have hmvs:=hq2.scal;have hmvl:=YF hmvs;have hmvc:=hq2.cells;have hrvs:rv.scal=true:=by obtain⟨zs,-,z2,-⟩:=hrp;exact z2.scal
 have hrvl:=YF hrvs;have hql:∀q∈qs,q.2.live=true:=fun q hq=>(hq3 q hq).live;have hqn:qs.length=mems.length:=by rw[hqs,Jo]
 refine Em hsh ?_;obtain⟨nm,hnm⟩:∃nm,nm=s.name.text:=⟨_,rfl⟩
 have hsc:qlj s.name rv=[.int .u8 s.name.kind.toNat, .str nm, .int .i64 s.name.line, .int .i64 s.name.col, .bool s.name.left,rv]:=by rw[hnm];rfl
 obtain⟨X,hX⟩:∃X,X=qbe true mems op rec s st:=⟨_,rfl⟩
 rw[<-hX];unfold qbe at hX;rw[<-hnm]at hX hrec;have hes':es.length=op.length:=by rw[<-hes,Jo]
 obtain⟨H,hH⟩:∃H,H=ZO B kx km mv c es nb st.copies:=⟨_,rfl⟩
 have hs_H:Sub B H:=by rw[hH];exact he.above
 have eb_x:H kx=some ⟨[mv, .map km,QH 1 nb, .int .i64 st.copies],0⟩:=by rw[hH];exact he.x
 have eb_m:H km=some (XB c (es.map opC)):=by rw[hH];exact he.m
 have hbl:=QY 1 nb;have ne_x_m:kx≠km:=he.ne.symm;rw[<-hH];unfold qlj;rw[<-hnm];refine qsr (k:=119) (rs:=[.tmp 4, .cell 5 35]) Tryz.func47 rfl rfl rfl rfl (VL rfl) ?_;simp only[Qd];refine awp_rseq [0,3,5] (by rfl) fun K hK=>?_;refine YN (v:= .agg [.int .u8 s.name.kind.toNat, .str nm, .int .i64 s.name.line, .int .i64 s.name.col, .bool s.name.left,rv]) (cs:=[.int .u8 s.name.kind.toNat, .str nm, .int .i64 s.name.line, .int .i64 s.name.col, .bool s.name.left,rv]) (by rfl) (by simp+decide only[lv_agg]) (by rfl) fun k0q0 hk0q0=>?_;have hn_0q0:H k0q0=none:=by first|assumption|(simp only[V7]at hk0q0;simp only[hk0q0])
 have hf_0q0:B k0q0=none:=Bg hs_H hn_0q0;have ne_0q0_x:k0q0≠kx:=Bh hn_0q0 eb_x;have ne_0q0_m:k0q0≠km:=Bh hn_0q0 eb_m;simp+decide only[ev,qH,qF,putD,VM,if_false,true_and,↓qd,qb,Jr];refine Qk qbT (cs:=[.int .i64 0, .int .i64 0, .int .i64 0]) (by rfl) fun k0q2 hk0q2=>?_;have ne_0q2_0q0:k0q2≠k0q0:=by simp only[V7]at hk0q2;simp only[hk0q2,ne_eq,not_false_eq_true]
 have hn_0q2:H k0q2=none:=by first|assumption|(simp only[V7]at hk0q2;simp only[hk0q2])
 have hf_0q2:B k0q2=none:=Bg hs_H hn_0q2;have ne_0q2_x:k0q2≠kx:=Bh hn_0q2 eb_x;have ne_0q2_m:k0q2≠km:=Bh hn_0q2 eb_m;simp+decide only[qa,putD,VM,VN,Ka];apply hK;clear hK K;refine awp_rseq [0,3,5,6] (by rfl) fun K hK=>?_;simp+decide only[ev,putD,VM,VO,Ka,true_and,↓qD,qm,qoE,qag,↓qG,Qb,qz ag9,QL,ne_eq,not_false_eq_true,ne_0q2_0q0.symm,QP,VX,Km,Jr,qE];refine Qk ze9 (cs:=[.str []]) (by rfl) fun k1q3 hk1q3=>?_;have ne_1q3_0q0:k1q3≠k0q0:=by simp only[V7]at hk1q3;simp only[hk1q3,ne_eq,not_false_eq_true]
 have ne_1q3_0q2:k1q3≠k0q2:=by simp only[V7]at hk1q3;simp only[hk1q3,ne_eq,not_false_eq_true]
 have hn_1q3:H k1q3=none:=by first|assumption|(simp only[V7]at hk1q3;simp only[hk1q3])
 have hf_1q3:B k1q3=none:=Bg hs_H hn_1q3;have ne_1q3_x:k1q3≠kx:=Bh hn_1q3 eb_x;have ne_1q3_m:k1q3≠km:=Bh hn_1q3 eb_m;refine qo (by rfl) (by rfl) zqA sz9 (by rfl) (by rfl) zqD (Js _) (by first|rfl|(simp+decide only[ev,putD,VM,VO,Ka,VV,QG,JS,Vf,hmvs,hrvs,XV,Zf,XF])) ?_;simp only[Vh,VV];simp+decide only[qa,ev,putD,VM,VO,VN,Ka,setAt,VW];apply hK;clear hK K;refine awp_rseq [0,3,5,6,7] (by rfl) fun K hK=>?_;simp+decide only[qa,ev,putD,VM,VO,VN,Ka,true_and,↓qeo,qdd,evs,Kc,Vj,↓qd,qb];apply hK;clear hK K;refine awp_rseq [0,3,5,6,7,8] (by rfl) fun K hK=>?_;simp+decide only[ev,putD,VM,VO,Ka,true_and,↓qh,qc,↓Qj,qO,Qm,↓qD,qm,fa76_0,↓qG,Qb,qz ag28,↓qeo,qdd,evs,Kc,Vj,QL,ne_eq,not_false_eq_true,ne_0q0_x.symm,ne_0q2_x.symm,ne_1q3_x.symm,Qz wz eb_x,VX,Jr,hmvl];refine qM (V:= .int .i64 (qaU (fun q:MemQ=>decide (q.1.name=nm)) qs)) (by rfl) (by rfl) (c_indexM wz _ mv qs _ [.ptr (.own k1q3) 0] (fun q=>decide (q.1.name=nm)) (hq2.mono zqB) hql (by omega) (by rfl) (fun q hq=>c_mem2 wz _ q (hql q hq) (hq3 q hq).cells k1q3 nm zqA)) ?_;simp+decide only[qa,ev,putD,VM,VO,VN,Ka,true_and,↓qd,qb];apply hK;clear hK K;refine awp_rseq [0,3,5,6,7,8] (by rfl) fun K hK=>?_;simp+decide only[ev,qH,qF,putD,VM,VO,Ka,true_and,↓qh,qc,↓Qj,qO,Qm,↓qD,qm,fa76_3,↓qG,Qb,qz ag3,↓qA,ql,qC,cond_false,qp,Xc,QL,ne_eq,not_false_eq_true,ne_0q0_x.symm,ne_0q2_x.symm,ne_1q3_x.symm,Qz wz eb_x,VX,Km,Jr,qi];try simp(disch:=omega)only[wrap_i64]
 refine qo (by rfl) (by rfl) zqA sz3 (by rfl) (by rfl) zqD (Js _) (by first|rfl|(simp+decide only[ev,putD,VM,VO,Ka,VV,QG,JS,Vf,hmvs,hrvs,XV,Zf,XF])) ?_;simp only[VV];simp+decide only[qa,ev,putD,VO,VN,Ka,setAt,VW,Ki];apply hK;clear hK K;refine qL ?_;refine Qp ?_;obtain⟨H5,hH5⟩:∃H5,H5=(((H.set k0q0 ⟨[.int .u8 s.name.kind.toNat, .str nm, .int .i64 s.name.line, .int .i64 s.name.col, .bool s.name.left,rv],0⟩).set k0q2 ⟨[.int .i64 0, .int .i64 0, .int .i64 0],0⟩).set k1q3 ⟨[.str nm],0⟩).set kx ⟨[mv, .map km,QH 1 nb, .int .i64 ((st.copies+1:Nat):Int)],0⟩:=⟨_,rfl⟩
 refine BG (h':=H5) (by rw[hH5];exact Vl _) ?_;have hs_H5:Sub B H5:=by rw[hH5];exact Zv zqB he.bx _
 have eb_x:H5 kx=some ⟨[mv, .map km,QH 1 nb, .int .i64 ((st.copies+1:Nat):Int)],0⟩:=by rw[hH5];exact Vd _ _ _
 have eb_m:H5 km=some (XB c (es.map opC)):=by rw[hH5];exact zqA
 have eb_0q0:H5 k0q0=some ⟨[.int .u8 s.name.kind.toNat, .str nm, .int .i64 s.name.line, .int .i64 s.name.col, .bool s.name.left,rv],0⟩:=by rw[hH5];exact zqA
 have eb_0q2:H5 k0q2=some ⟨[.int .i64 0, .int .i64 0, .int .i64 0],0⟩:=by rw[hH5];exact zqA
 have eb_1q3:H5 k1q3=some ⟨[.str nm],0⟩:=by rw[hH5];exact zqA
 have hE5:Sub (ZO B kx km mv c es nb (st.copies+1)) H5:=by
  rw[hH5,<-he.set_x (st.copies+1),<-hH];exact V9 (V3 (V3 (Vg hn_0q0) hn_0q2) hn_1q3) _ _
 have hz5:ZO B kx km mv c es nb (st.copies+1) k0q2=none:=by
  rw[<-he.set_x (cp:=st.copies) (st.copies+1),<-hH];exact(Vb _ _ ne_0q2_x).trans hn_0q2
 have hlk:=look_op (s:=nm) eb_m;rw[hes]at hlk;have hlo:=len_op eb_m;rw[hes']at hlo;refine awp_rseq [0,3,5,6,7,8,30] (by rfl) fun K hK=>?_;simp+decide only[qa,ev,qH,qF,putD,VM,VO,VN,Ka,true_and,↓qh,qc,↓qA,ql,qC,cond_false,qp,Zc,↓qd,qb];apply hK;clear hK K;refine qK (b:=_) rfl (fun hb1=>?_) (fun hb1=>?_)
 ·try simp only[decide_eq_true_eq]at hb1
  have hnone:mems.find? (fun m=>decide (m.name=nm))=none:=by
   rcases qkN hqs nm with z|⟨i,zi,z1,z2⟩
   ·exact z.2
   ·omega
  rw[hnone]at hX;simp only at hX;refine awp_rseq [4,5] (by rfl) fun K hK=>?_;simp+decide only[ev,putD,VM,VO,Ka,true_and,↓qh,qc];refine qM (V:= .tuple [.nilSlice,QA ⟨7,s.name.line,s.name.col⟩]) (by rfl) (by rfl) (qjv wz _ k0q0 s.name rv hrvl 7 (by rw[hsc];exact zqA)) ?_;simp+decide only[ev,putD,VM,VO,Ka,true_and,↓QV,QI,QT,KX,J8,VX,Km,↓qd,qb,VX,Km,Jr,Nat.reduceAdd,QA];refine qo (by rfl) (by rfl) zqA QK (by rfl) (by rfl) zqD (Js _) (by first|rfl|(simp+decide only[ev,putD,VM,VO,Ka,VV,QG,JS,Vf,hmvs,hrvs,XV,Zf,XF])) ?_;simp only[VV];simp+decide only[qa,ev,putD,VO,VN,Ka,setAt,VW,Ki,Jr,Nat.reduceAdd];apply hK;clear hK K;refine qN ?_;try simp only[Qf,Qu]
  refine QS (?_) ?_
  ·simp+decide only[QC,qw,qj,VO,Ka,and_true,qw,qj,qg Xv QK,Qc,qf,VX,Km,Jr,Nat.reduceAdd,qi,allLive,JS,qf,VX,Km,Jr,Nat.reduceAdd,qi,allLive,JS]
  simp+decide only[VO,Ka,Xi,qw,qj,qg Xv QK,Qc,qf,VX,Km,Jr,Nat.reduceAdd,qi,allLive,JS,qf,VX,Km,Jr,Nat.reduceAdd,qi,allLive,JS];exact⟨_,Vl _,none,⟨st.names,st.copies+1⟩, .nilSlice,⟨7,s.name.line,s.name.col⟩,trivial,⟨hfew,c,es,nb,he,hes,V3 hE5 hz5⟩,rfl, .inl ⟨fun e=>absurd (congrArg FaultC.e e) (by simp[okF]),hX,rfl⟩⟩
 ·try simp only[decide_eq_false_iff_not]at hb1
  obtain⟨i,zi,z1,z2⟩:∃i,i<qs.length/\qaU (fun q:MemQ=>decide (q.1.name=nm)) qs=i/\mems.find? (fun m=>decide (m.name=nm))=some (qs.getD i qht).1:=by
   rcases qkN hqs nm with z|z
   ·omega
   ·exact z
  rw[z1];rw[z2]at hX;simp only at hX;obtain⟨q,hqe⟩:∃q,q=qs.getD i qht:=⟨_,rfl⟩
  have hqm:q∈qs:=by rw[hqe];exact qcF qht zi
  rw[<-hqe]at hX;have hqt:q.1.toks.length<=100000:=hmt _ (by rw[hqs];exact JG.2 ⟨q,hqm,rfl⟩);refine Zj [0,3,5,6,7,8,37] mixed (by kernel_rfl) (by rfl) (by rfl) fun K hK=>?_;simp+decide only[qa,ev,putD,VM,VO,VN,Ka,true_and,↓qh,qc,↓Qj,qO,Qm,↓qD,qm,qlO,↓qG,Qb,qz ag74,qz ag9,↓qsn,qoj,↓qd,qb,Qz wz eb_x,Qz wz eb_1q3,qlB,VX,Km,Jr,qE,hlk];apply hK;clear hK K;refine qK (b:=_) rfl (fun hb2=>?_) (fun hb2=>?_)
  ·skip
   rw[if_pos hb2]at hX;refine awp_rseq [4,5] (by rfl) fun K hK=>?_;simp+decide only[ev,putD,VM,VO,Ka,true_and,↓qh,qc];refine qM (V:= .tuple [.nilSlice,QA ⟨10,s.name.line,s.name.col⟩]) (by rfl) (by rfl) (qjv wz _ k0q0 s.name rv hrvl 10 (by rw[hsc];exact zqA)) ?_;simp+decide only[ev,putD,VM,VO,Ka,true_and,↓QV,QI,QT,KX,J8,VX,Km,↓qd,qb,VX,Km,Jr,Nat.reduceAdd,QA];refine qo (by rfl) (by rfl) zqA QK (by rfl) (by rfl) zqD (Js _) (by first|rfl|(simp+decide only[ev,putD,VM,VO,Ka,VV,QG,JS,Vf,hmvs,hrvs,XV,Zf,XF])) ?_;simp only[VV];simp+decide only[qa,ev,putD,VO,VN,Ka,setAt,VW,Ki,Jr,Nat.reduceAdd];apply hK;clear hK K;refine qN ?_;try simp only[Qf,Qu]
   refine QS (?_) ?_
   ·simp+decide only[QC,qw,qj,VO,Ka,and_true,qw,qj,qg Xv QK,Qc,qf,VX,Km,Jr,Nat.reduceAdd,qi,allLive,JS,qf,VX,Km,Jr,Nat.reduceAdd,qi,allLive,JS]
   simp+decide only[VO,Ka,Xi,qw,qj,qg Xv QK,Qc,qf,VX,Km,Jr,Nat.reduceAdd,qi,allLive,JS,qf,VX,Km,Jr,Nat.reduceAdd,qi,allLive,JS];exact⟨_,Vl _,none,⟨st.names,st.copies+1⟩, .nilSlice,⟨10,s.name.line,s.name.col⟩,trivial,⟨hfew,c,es,nb,he,hes,V3 hE5 hz5⟩,rfl, .inl ⟨fun e=>absurd (congrArg FaultC.e e) (by simp[okF]),hX,rfl⟩⟩
  ·skip
   rw[if_neg (by rw[hb2];decide)]at hX;refine awp_rseq [0,3,5,6,7,8,48] (by rfl) fun K hK=>?_;simp+decide only[qa,ev,qH,qF,putD,VM,VO,VN,Ka,true_and,↓qh,qc,↓Qj,qO,Qm,↓qD,qm,qlO,↓qG,Qb,qz ag74,↓Xt,QD,↓qA,ql,qC,cond_false,qp,qav,↓Xe,agP,Qt,qJ,qI,Qe,implies_true,↓Ym,qbM,qbN,↓XI,fa76_3,ZH,ZI,↓Zy,Zd,Ud,qce,qz ag3,↓Xb,XZ,Za,UE,↓QR,Qs,Qg,XO,ZF,↓qd,qb,Qz wz eb_x,qlB,VX,Km,Jr,qi,hlo];apply hK;clear hK K;refine qK (b:=_) rfl (fun hb3=>?_) (fun hb3=>?_)
   ·try simp only[decide_eq_true_eq,JV]at hb3
    rw[if_pos (by
     rcases hb3 with z|z
     ·left;omega
     ·right;exact⟨trivial,by omega⟩)]at hX
    refine awp_rseq [4,5] (by rfl) fun K hK=>?_;simp+decide only[ev,putD,VM,VO,Ka,true_and,↓qh,qc];refine qM (V:= .tuple [.nilSlice,QA ⟨3,s.name.line,s.name.col⟩]) (by rfl) (by rfl) (qjv wz _ k0q0 s.name rv hrvl 3 (by rw[hsc];exact zqA)) ?_;simp+decide only[ev,putD,VM,VO,Ka,true_and,↓QV,QI,QT,KX,J8,VX,Km,↓qd,qb,VX,Km,Jr,Nat.reduceAdd,QA];refine qo (by rfl) (by rfl) zqA QK (by rfl) (by rfl) zqD (Js _) (by first|rfl|(simp+decide only[ev,putD,VM,VO,Ka,VV,QG,JS,Vf,hmvs,hrvs,XV,Zf,XF])) ?_;simp only[VV];simp+decide only[qa,ev,putD,VO,VN,Ka,setAt,VW,Ki,Jr,Nat.reduceAdd];apply hK;clear hK K;refine qN ?_;try simp only[Qf,Qu]
    refine QS (?_) ?_
    ·simp+decide only[QC,qw,qj,VO,Ka,and_true,qw,qj,qg Xv QK,Qc,qf,VX,Km,Jr,Nat.reduceAdd,qi,allLive,JS,qf,VX,Km,Jr,Nat.reduceAdd,qi,allLive,JS]
    simp+decide only[VO,Ka,Xi,qw,qj,qg Xv QK,Qc,qf,VX,Km,Jr,Nat.reduceAdd,qi,allLive,JS,qf,VX,Km,Jr,Nat.reduceAdd,qi,allLive,JS];exact⟨_,Vl _,none,⟨st.names,st.copies+1⟩, .nilSlice,⟨3,s.name.line,s.name.col⟩,trivial,⟨hfew,c,es,nb,he,hes,V3 hE5 hz5⟩,rfl, .inl ⟨fun e=>absurd (congrArg FaultC.e e) (by simp[okF]),hX,rfl⟩⟩
   ·try simp only[decide_eq_false_iff_not,VQ]at hb3
    rw[if_neg (by
     rintro(z|⟨-,z⟩)
     ·omega
     ·omega)]at hX
    have hlt8:op.length<8:=by omega
    have hcp:st.copies+1<=4096:=by omega
    have hnot:nm∉es.map (·.2):=by rw[hes];intro z;rw[JW.2 z]at hb2;cases hb2
    refine qV ?_;change Awp _ _ _ _ _ _ _;obtain⟨B1,hB1⟩:∃B1,B1=((B.set k0q0 ⟨[.int .u8 s.name.kind.toNat, .str nm, .int .i64 s.name.line, .int .i64 s.name.col, .bool s.name.left,rv],0⟩).set k0q2 ⟨[.int .i64 0, .int .i64 0, .int .i64 0],0⟩).set k1q3 ⟨[.str nm],0⟩:=⟨_,rfl⟩
    obtain⟨y1,y2⟩:=he.lay (mv:=mv) (c:=c) (es:=es) (cp:=st.copies) (j:=k0q0) (by rw[<-hH];exact hn_0q0) ⟨[.int .u8 s.name.kind.toNat, .str nm, .int .i64 s.name.line, .int .i64 s.name.col, .bool s.name.left,rv],0⟩;obtain⟨y3,y4⟩:=y2.lay (mv:=mv) (c:=c) (es:=es) (cp:=st.copies) (j:=k0q2) (by rw[<-y1,<-hH];exact(Vb _ _ ne_0q2_0q0).trans hn_0q2) ⟨[.int .i64 0, .int .i64 0, .int .i64 0],0⟩;obtain⟨y5,y6⟩:=y4.lay (mv:=mv) (c:=c) (es:=es) (cp:=st.copies) (j:=k1q3) (by rw[<-y3,<-y1,<-hH];exact(Vb _ _ ne_1q3_0q2).trans ((Vb _ _ ne_1q3_0q0).trans hn_1q3)) ⟨[.str nm],0⟩;rw[<-hB1]at y5 y6;have h5:H5=ZO B1 kx km mv c es nb (st.copies+1):=by rw[hH5,hH,y1,y3,y5,y6.set_x]
    have hsB1:Sub B B1:=by rw[hB1];exact zqB
    have b1_0:B1 k0q0=some ⟨[.int .u8 s.name.kind.toNat, .str nm, .int .i64 s.name.line, .int .i64 s.name.col, .bool s.name.left,rv],0⟩:=by rw[hB1];exact zqA
    have b1_2:B1 k0q2=some ⟨[.int .i64 0, .int .i64 0, .int .i64 0],0⟩:=by rw[hB1];exact zqA
    have b1_n:B1 k1q3=some ⟨[.str nm],0⟩:=by rw[hB1];exact zqA
    have hcu:ACall Tryz.prog wz 44 [.ptr (.own kx) 0, .str nm] H5 (fun r h'=>r= .tuple []/\∃nb',UseOk (B1.set km (XB c (es.map opC))) kx nb' (Cop.addE st.names nm)/\h'=qbb (B1.set km (XB c (es.map opC))) kx mv (.map km) nb' ((st.copies+1:Nat):Int)):=by
     rw[h5];exact c_use wz _ kx mv (.map km) nb _ st.names nm (y6.use _) (by omega) hmvs rfl
    refine awp_rseq [0,3,5,6,7,8] (by rfl) fun K hK=>?_;simp+decide only[ev,putD,VM,VO,Ka,true_and,↓qh,qc,↓qG,Qb,qz ag9,Qz wz eb_1q3,VX,qE];refine QO (by rfl) (by rfl) (hcu) fun x11q2 h11q2 hx11q2=>?_;obtain⟨-,nb2,hu2,hh11⟩:=hx11q2;have he2:ExOk B1 kx km nb2 (Cop.addE st.names nm):=⟨y6.bm,y6.bx,y6.ne,fun M=>hu2.swap y6.ne M⟩
    have hh:h11q2=ZO B1 kx km mv c es nb2 (st.copies+1):=hh11;have hs_h11q2:Sub B h11q2:=by rw[hh];exact hsB1.trans he2.above
    have eb_x:h11q2 kx=some ⟨[mv, .map km,QH 1 nb2, .int .i64 ((st.copies+1:Nat):Int)],0⟩:=by rw[hh];exact he2.x
    have eb_m:h11q2 km=some (XB c (es.map opC)):=by rw[hh];exact he2.m
    have eb_0q0:h11q2 k0q0=some ⟨[.int .u8 s.name.kind.toNat, .str nm, .int .i64 s.name.line, .int .i64 s.name.col, .bool s.name.left,rv],0⟩:=by rw[hh];exact he2.above _ _ b1_0
    have eb_0q2:h11q2 k0q2=some ⟨[.int .i64 0, .int .i64 0, .int .i64 0],0⟩:=by rw[hh];exact he2.above _ _ b1_2
    have eb_1q3:h11q2 k1q3=some ⟨[.str nm],0⟩:=by rw[hh];exact he2.above _ _ b1_n
    have hbl:=QY 1 nb2;simp+decide only[qa,putD,VM,VN,Ka];apply hK;clear hK K;refine Zi 5 [0,3,5,6,7,8] mixed (by kernel_rfl) (by rfl) (by rfl) fun K hK=>?_;simp+decide only[ev,putD,VM,VO,Ka,true_and,↓qh,qc,↓Qj,qO,Qm,↓qD,qm,qlO,↓qG,Qb,qz ag74,qz ag9,Qz wz eb_x,Qz wz eb_1q3,qlB,VX,Km,Jr,qE];refine qnT Tryz.underlying74 (by rfl) eb_m (by rfl) (qiW _ es 0 hnot) ?_;simp+decide only[qa,ev,qH,qF,putD,VO,VN,Ka];apply hK;clear hK K;obtain⟨H13,hH13⟩:∃H13,H13=ZO B1 kx km mv (c+1) (es++[(c,nm)]) nb2 (st.copies+1):=⟨_,rfl⟩
    refine BG (h':=H13) (by rw[hH13,<-he2.set_m (c:=c) (es:=es),<-hh,Ba];exact Vl _) ?_;have hs_H13:Sub B H13:=by rw[hH13];exact hsB1.trans he2.above
    have eb_x:H13 kx=some ⟨[mv, .map km,QH 1 nb2, .int .i64 ((st.copies+1:Nat):Int)],0⟩:=by rw[hH13];exact he2.x
    have eb_m:H13 km=some (XB (c+1) ((es++[(c,nm)]).map opC)):=by rw[hH13];exact he2.m
    have eb_0q0:H13 k0q0=some ⟨[.int .u8 s.name.kind.toNat, .str nm, .int .i64 s.name.line, .int .i64 s.name.col, .bool s.name.left,rv],0⟩:=by rw[hH13];exact he2.above _ _ b1_0
    have eb_0q2:H13 k0q2=some ⟨[.int .i64 0, .int .i64 0, .int .i64 0],0⟩:=by rw[hH13];exact he2.above _ _ b1_2
    have eb_1q3:H13 k1q3=some ⟨[.str nm],0⟩:=by rw[hH13];exact he2.above _ _ b1_n
    obtain⟨lcm,om,cm,rfl⟩:=qnb hq2 (by omega);obtain⟨-,d1⟩:=mem_at (hq2.mono hs_H13) zi;rw[<-hqe]at d1;have hqv:=hql q hqm;have hal:=addE_len st.names nm;refine qib [0,3,5,7,8] (vm:= .map km) (vi:= .str nm) 5 (by rfl) (by rfl) rfl mixed (by kernel_rfl) (by rfl) fun K hK=>?_;simp only[Kh,V6];simp+decide only[qa,ev,putD,VM,VO,VN,Ka,true_and,↓qh,qc,↓Qj,qO,Qm,↓qD,qm,qlO,↓qG,Qb,qz ag74,qz ag9,Qz wz eb_x,Qz wz eb_1q3,qlB,VX,Km,Jr,qE];skip;apply hK;clear hK K;intro dq;refine awp_rseq [3,5,7,9,10] (by rfl) fun K hK=>?_;simp+decide only[ev,putD,VM,VO,Ka,true_and,↓qh,qc,↓Qj,qO,Qm,↓qD,qm,fa76_0,↓qG,Qb,qz ag28,↓QN,Qh Tryz.underlying28 sz57,fa57_1,qz UJ,Qz wz eb_x,VX,Jr,hmvl,d1,hqv,Vq];repeat (with_reducible refine And.intro ?_ ?_;· first|trivial|omega|(intro hg;simp only[Kw,JV,Ji,VP,VQ,VS,decide_eq_true_eq,decide_eq_false_iff_not,XT]at hg;omega))
    refine QO (by rfl) (by rfl) (hrec hlt8 (by rw[Jb,JR];omega) _ B1 q.2 q.1.toks ⟨Cop.addE st.names nm,st.copies+1⟩ ⟨by(simp only;omega),c+1,es++[(c,nm)],nb2,he2,by rw[Ba,hes];rfl,by rw[<-hH13];exact zqB⟩ ⟨qs,hqs,hq2.mono hsB1,fun q hq=>(hq3 q hq).mono hsB1⟩ ((hq3 q hqm).mono hsB1) hqt (by simp only;omega) hcp) fun x14q9 h14q9 hx14q9=>?_;obtain⟨tb0,st2,bv,bf,htb0,hxr,rfl,hcase⟩:=hx14q9;obtain⟨B2,hB2⟩:∃B2,B2=Qv B1 tb0:=⟨_,rfl⟩
    rw[<-hB2]at hxr;obtain⟨hfew2,c3,es3,nb3,he3,hop3,hs3⟩:=hxr;have hsB2:Sub B1 B2:=by rw[hB2];exact BH htb0
    obtain⟨es4,b4,rfl,hes4⟩:∃es4 b4,es3=es4++[(b4,nm)]/\es4.map (·.2)=op:=by
     obtain⟨l1,l2,q1,q2,q3⟩:=List.map_eq_append_iff.1 hop3;cases l2 with
     |nil=>simp at q3
     |cons a l3=>
      obtain⟨a1,a2⟩:=a;simp only[Kc,List.cons.injEq,VU]at q3;obtain⟨rfl,rfl⟩:=q3;exact⟨l1,a1,q1,q2⟩
    have hnot4:nm∉es4.map (·.2):=by rw[hes4,<-hes];exact hnot
    have hsBB2:Sub B B2:=hsB1.trans hsB2;have hs2h:Sub B2 h14q9:=he3.above.trans hs3;have hs_h14q9:Sub B h14q9:=hsBB2.trans hs2h;have eb_x:h14q9 kx=some ⟨[.slice lcm om qs.length cm, .map km,QH 1 nb3, .int .i64 st2.copies],0⟩:=hs3 _ _ he3.x;have eb_m:h14q9 km=some (XB c3 ((es4++[(b4,nm)]).map opC)):=hs3 _ _ he3.m;have eb_0q0:h14q9 k0q0=some ⟨[.int .u8 s.name.kind.toNat, .str nm, .int .i64 s.name.line, .int .i64 s.name.col, .bool s.name.left,rv],0⟩:=hs2h _ _ (hsB2 _ _ b1_0);have eb_0q2:h14q9 k0q2=some ⟨[.int .i64 0, .int .i64 0, .int .i64 0],0⟩:=hs2h _ _ (hsB2 _ _ b1_2);have eb_1q3:h14q9 k1q3=some ⟨[.str nm],0⟩:=hs2h _ _ (hsB2 _ _ b1_n);have heB3:ExOk B kx km nb3 st2.names:=he3.down hsBB2;have hE14:Sub (ZO B kx km (.slice lcm om qs.length cm) c3 (es4++[(b4,nm)]) nb3 st2.copies) h14q9:=(qcH hsBB2).trans hs3;have z0q2:ZO B kx km (.slice lcm om qs.length cm) c3 (es4++[(b4,nm)]) nb3 st2.copies k0q2=none:=he3.off (hsB2 _ _ b1_2) hf_0q2;have hbvl:bv.live=true:=by
     rcases hcase with⟨-,-,w3⟩|⟨-,out,-,w3,-⟩
     ·rw[w3];rfl
     ·exact w3.live
    simp+decide only[ev,putD,VM,VO,Ka,true_and,↓qh,qc,↓QV,QI,QT,KX,J8,VX,Km,VX,Km,Jr,Nat.reduceAdd,QA];refine Qk qbT (cs:=[.int .i64 0, .int .i64 0, .int .i64 0]) (by rfl) fun k14q13 hk14q13=>?_;have hn_14q13:h14q9 k14q13=none:=by first|assumption|(simp only[V7]at hk14q13;simp only[hk14q13])
    have hf_14q13:B k14q13=none:=Bg hs_h14q9 hn_14q13;have ne_14q13_x:k14q13≠kx:=Bh hn_14q13 eb_x;have ne_14q13_m:k14q13≠km:=Bh hn_14q13 eb_m;have ne_14q13_0q0:k14q13≠k0q0:=Bh hn_14q13 eb_0q0;have ne_14q13_0q2:k14q13≠k0q2:=Bh hn_14q13 eb_0q2;have ne_14q13_1q3:k14q13≠k1q3:=Bh hn_14q13 eb_1q3;simp+decide only[ev,putD,VM,VO,Ka,true_and,↓qd,qb];refine qo (by rfl) (by rfl) zqA QK (by rfl) (by rfl) zqD (Js _) (by first|rfl|(simp+decide only[ev,putD,VM,VO,Ka,VV,QG,JS,Vf,hmvs,hrvs,XV,Zf,XF])) ?_;simp only[Vh,VV];simp+decide only[qa,ev,putD,VO,VN,Ka,setAt,VW,Ki,Jr,Nat.reduceAdd];apply hK;clear hK K;refine qL ?_;refine awp_rseq [3,5,7,9,10,94] (by rfl) fun K hK=>?_;simp+decide only[qa,ev,qH,qF,putD,VM,VO,VN,Ka,true_and,↓qG,Qb,qg Xv QK,↓Qr,↓qY,ZV,evP,Vj,↓qA,ql,qZ,cond_false,YG,qna,QP,qf,VX,Km,Jr,Nat.reduceAdd,qi,allLive,JS,Ua];apply hK;clear hK K;refine qK (b:=_) rfl (fun hb4=>?_) (fun hb4=>?_)
    ·try simp only[decide_eq_false_iff_not,Ji]at hb4
     obtain⟨w1,w2,w3⟩:bf≠okF/\rec q.1.toks (op++[nm]) ⟨Cop.addE st.names nm,st.copies+1⟩= .bad bf/\bv= .nilSlice:=by
      rcases hcase with z|⟨z,-⟩
      ·exact z
      ·exact absurd z hb4
     rw[w2]at hX;simp only at hX;refine Zi 2 [4,5] mixed (by kernel_rfl) (by rfl) (by rfl) fun K hK=>?_;simp+decide only[ev,qH,qF,putD,VM,VO,Ka,true_and,↓qG,Qb,qg Xv QK,↓qd,qb,QP,qf,VX,Km,Jr,Nat.reduceAdd,qi,allLive,JS];refine qo (by rfl) (by rfl) zqA QK (by rfl) (by rfl) zqD (Js _) (by first|rfl|(simp+decide only[ev,putD,VM,VO,Ka,VV,QG,JS,Vf,hmvs,hrvs,XV,Zf,XF])) ?_;simp only[VV];simp+decide only[qa,ev,putD,VO,VN,Ka,setAt,VW,Ki,Jr,Nat.reduceAdd];apply hK;clear hK K;refine qN ?_;try simp only[Qf]
     refine qfY (by rfl) Tryz.underlying74 zqA (by rfl) (qbH _ b4 es4 0 hnot4) ?_;refine QS (?_) ?_
     ·simp+decide only[QC,qw,qj,VO,Ka,and_true,qw,qj,qg Xv QK,Qc,qf,VX,Km,Jr,Nat.reduceAdd,qi,allLive,JS,QL,ne_eq,not_false_eq_true,ne_0q2_m,qf,VX,Km,Jr,Nat.reduceAdd,qi,allLive,JS]
     simp+decide only[VO,Ka,Xi,qw,qj,qg Xv QK,Qc,qf,VX,Km,Jr,Nat.reduceAdd,qi,allLive,JS,QL,ne_eq,not_false_eq_true,ne_0q2_m,qf,VX,Km,Jr,Nat.reduceAdd,qi,allLive,JS];rw[qdm];refine⟨_,Vl _,none,st2, .nilSlice,bf,trivial,⟨hfew2,c3,es4,nb3,heB3,hes4,?_⟩,rfl, .inl ⟨w1,hX,rfl⟩⟩;change Sub (ZO B _ _ _ _ _ _ _) _;rw[<-heB3.set_m (c:=c3) (es:=es4++[(b4,nm)])];exact V9 (V3 (V3 hE14 (hE14.none hn_14q13)) z0q2) _ _
    ·try simp only[decide_eq_true_eq,VS]at hb4
     obtain⟨w1,out,w2,w3,w4,w5,w6⟩:bf=okF/\∃out,rec q.1.toks (op++[nm]) ⟨Cop.addE st.names nm,st.copies+1⟩= .ok out st2/\IsL wz (Qv (fun _=>none) tb0) 5 bv (out.map QJ)/\out.length<=200000/\st2.names.length<=st2.copies/\st2.copies<=4096:=by
      rcases hcase with⟨z,-⟩|z
      ·exact absurd (by simpa using hb4) z
      ·exact z
     have w3:IsL wz B2 5 bv (out.map QJ):=w3.mono (by rw[hB2];exact En (qdF _));rw[w2]at hX;simp only[qcT,Vf,decide_eq_true_eq]at hX;have nbv:=Ze w3;refine qV ?_;change Awp _ _ _ _ _ _ _;refine qL ?_;refine awp_rseq [3,5,7,9,98] (by rfl) fun K hK=>?_;simp+decide only[qa,ev,qH,qF,putD,VM,VO,VN,Ka,true_and,↓qh,qc,↓Xt,QD,↓qA,ql,qC,cond_false,qp,UE,nbv];apply hK;clear hK K;refine qK (b:=_) rfl (fun hb5=>?_) (fun hb5=>?_)
     ·try simp only[decide_eq_true_eq]at hb5
      rw[if_pos (by omega)]at hX;refine awp_rseq [4,5] (by rfl) fun K hK=>?_;simp+decide only[ev,putD,VM,VO,Ka,true_and,↓qh,qc];refine qM (V:= .tuple [.nilSlice,QA ⟨3,s.name.line,s.name.col⟩]) (by rfl) (by rfl) (qjv wz _ k0q0 s.name rv hrvl 3 (by rw[hsc];exact zqA)) ?_;simp+decide only[ev,putD,VM,VO,Ka,true_and,↓QV,QI,QT,KX,J8,VX,Km,↓qd,qb,VX,Km,Jr,Nat.reduceAdd,QA];refine qo (by rfl) (by rfl) zqA QK (by rfl) (by rfl) zqD (Js _) (by first|rfl|(simp+decide only[ev,putD,VM,VO,Ka,VV,QG,JS,Vf,hmvs,hrvs,XV,Zf,XF])) ?_;simp only[VV];simp+decide only[qa,ev,putD,VO,VN,Ka,setAt,VW,Ki,Jr,Nat.reduceAdd];apply hK;clear hK K;refine qN ?_;try simp only[Qf]
      refine qfY (by rfl) Tryz.underlying74 zqA (by rfl) (qbH _ b4 es4 0 hnot4) ?_;refine QS (?_) ?_
      ·simp+decide only[QC,qw,qj,VO,Ka,and_true,qw,qj,qg Xv QK,Qc,qf,VX,Km,Jr,Nat.reduceAdd,qi,allLive,JS,QL,ne_eq,not_false_eq_true,ne_0q2_m,qf,VX,Km,Jr,Nat.reduceAdd,qi,allLive,JS]
      simp+decide only[VO,Ka,Xi,qw,qj,qg Xv QK,Qc,qf,VX,Km,Jr,Nat.reduceAdd,qi,allLive,JS,QL,ne_eq,not_false_eq_true,ne_0q2_m,qf,VX,Km,Jr,Nat.reduceAdd,qi,allLive,JS];rw[qdm];refine⟨_,Vl _,none,st2, .nilSlice,⟨3,s.name.line,s.name.col⟩,trivial,⟨hfew2,c3,es4,nb3,heB3,hes4,?_⟩,rfl, .inl ⟨fun e=>absurd (congrArg FaultC.e e) (by simp[okF]),hX,rfl⟩⟩;change Sub (ZO B _ _ _ _ _ _ _) _;rw[<-heB3.set_m (c:=c3) (es:=es4++[(b4,nm)])];exact V9 (V3 (V3 hE14 (hE14.none hn_14q13)) z0q2) _ _
     ·try simp only[decide_eq_false_iff_not]at hb5
      rw[if_neg (by omega)]at hX;have z14:B2 k14q13=none:=hs2h.none hn_14q13;have hrE:UF out s.reps=if 65536<(WB s.reps out).length then([],3)else(WB s.reps out,0):=by
       unfold UF;rw[if_neg];rw[JX];rintro⟨x,hx,e⟩;exact hro x hx (by simpa using e)
      obtain⟨E,hE⟩:∃E,E=UF out s.reps:=⟨_,rfl⟩
      refine qV ?_;change Awp _ _ _ _ _ _ _;refine awp_rseq [5,7,11,12] (by rfl) fun K hK=>?_;simp+decide only[ev,putD,VM,VO,Ka,true_and,↓qh,qc,↓qD,qm,qoD,↓qG,Qb,qz ag43,QL,ne_eq,not_false_eq_true,ne_14q13_0q0.symm,Qz wz eb_0q0,VX,Km,Jr,hrvl];refine QO (by rfl) (by rfl) (qcn wz _ bv rv out s.reps (w3.mono zqB) (hrp.mono zqB) (by omega) hrl hrn) fun x19q3 h19q3 hx19q3=>?_;rw[<-hE]at hx19q3 hrE;obtain⟨ov,rfl,hor⟩:=hx19q3;have hor':=hor;obtain⟨tb,hov,o1,o2,o3⟩:=hor';have hovl:ov.live=true:=by rw[hov];cases tb<;>rfl
      have hs19:=(hor.toks (wz:=wz)).2.2;have hs_h19q3:Sub B h19q3:=BJ zqC hs19;have hr_h19q3:Sub h14q9 h19q3:=BJ zqC hs19;have eb_14q13:=hs19 k14q13 _ zqA;have eb_x:=hs19 kx _ zqA;have eb_m:=hs19 km _ zqA;have eb_0q0:=hs19 k0q0 _ zqA;have eb_0q2:=hs19 k0q2 _ zqA;have eb_1q3:=hs19 k1q3 _ zqA;simp+decide only[qa,ev,putD,VM,VO,VN,Ka,true_and,↓qh,qc,↓QV,QI,QT,KX,J8,VX,Km,↓qd,qb,VX,Km,Jr,Nat.reduceAdd];apply hK;clear hK K;refine qL ?_;refine awp_rseq [5,7,11,12,111] (by rfl) fun K hK=>?_;simp+decide only[qa,ev,qH,qF,putD,VM,VO,VN,Ka,true_and,↓qh,qc,↓qA,ql,qC,cond_false,qp,qaP];apply hK;clear hK K;refine qK (b:=_) rfl (fun hb6=>?_) (fun hb6=>?_)
      ·try simp only[decide_eq_false_iff_not,Ji]at hb6
       have hE3:65536<(WB s.reps out).length:=by
        rcases KT 65536 (WB s.reps out).length with z|z
        ·exact z
        ·exfalso
         rw[if_neg (by omega)]at hrE;rw[hrE]at hb6;exact hb6 rfl
       rw[if_pos hE3]at hrE hX;have hE2:E.2=3:=by rw[hrE]
       refine awp_rseq [4,5] (by rfl) fun K hK=>?_;simp+decide only[ev,putD,VM,VO,Ka,true_and,↓qh,qc];refine qM (V:= .tuple [.nilSlice,QA ⟨E.2,s.name.line,s.name.col⟩]) (by rfl) (by rfl) (qjv wz _ k0q0 s.name rv hrvl E.2 (by rw[hsc];exact zqA)) ?_;simp+decide only[ev,putD,VM,VO,Ka,true_and,↓QV,QI,QT,KX,J8,VX,Km,↓qd,qb,VX,Km,Jr,Nat.reduceAdd,QA];refine qo (by rfl) (by rfl) zqA QK (by rfl) (by rfl) zqD (Js _) (by first|rfl|(simp+decide only[ev,putD,VM,VO,Ka,VV,QG,JS,Vf,hmvs,hrvs,XV,Zf,XF])) ?_;simp only[VV];simp+decide only[qa,ev,putD,VO,VN,Ka,setAt,VW,Ki,Jr,Nat.reduceAdd];apply hK;clear hK K;refine qN ?_;try simp only[Qf]
       refine qfY (by rfl) Tryz.underlying74 zqA (by rfl) (qbH _ b4 es4 0 hnot4) ?_;refine QS (?_) ?_
       ·simp+decide only[QC,qw,qj,VO,Ka,and_true,qw,qj,qg Xv QK,Qc,qf,VX,Km,Jr,Nat.reduceAdd,qi,allLive,JS,QL,ne_eq,not_false_eq_true,ne_0q2_m,qf,VX,Km,Jr,Nat.reduceAdd,qi,allLive,JS]
       simp+decide only[VO,Ka,Xi,qw,qj,qg Xv QK,Qc,qf,VX,Km,Jr,Nat.reduceAdd,qi,allLive,JS,QL,ne_eq,not_false_eq_true,ne_0q2_m,qf,VX,Km,Jr,Nat.reduceAdd,qi,allLive,JS];rw[qdm,hE2];have hE19:=hE14.trans ((Vg hn_14q13).trans hs19);refine⟨_,Vl _,none,st2, .nilSlice,⟨3,s.name.line,s.name.col⟩,trivial,⟨hfew2,c3,es4,nb3,heB3,hes4,?_⟩,rfl, .inl ⟨fun e=>absurd (congrArg FaultC.e e) (by simp[okF]),hX,rfl⟩⟩;change Sub (ZO B _ _ _ _ _ _ _) _;rw[<-heB3.set_m (c:=c3) (es:=es4++[(b4,nm)])];exact V9 (V3 hE19 z0q2) _ _
      ·try simp only[decide_eq_true_eq,VS]at hb6
       have hE3:¬65536<(WB s.reps out).length:=fun z=>by
        rw[if_pos z]at hrE;rw[hrE]at hb6;exact absurd hb6 (by decide)
       rw[if_neg hE3]at hrE hX;have hE1:E.1=WB s.reps out:=by rw[hrE]
       refine qV ?_;change Awp _ _ _ _ _ _ _;refine awp_rseq [4,5] (by rfl) fun K hK=>?_;simp+decide only[ev,qH,qF,putD,VM,VO,Ka,true_and,↓qh,qc,↓Qr,↓qY,ZV,evP,Vj,↓qd,qb];refine qo (by rfl) (by rfl) zqA QK (by rfl) (by rfl) zqD (Js _) (by first|rfl|(simp+decide only[ev,putD,VM,VO,Ka,VV,QG,JS,Vf,hmvs,hrvs,XV,Zf,XF])) ?_;simp only[VV];simp+decide only[qa,ev,putD,VO,VN,Ka,setAt,VW,Ki,Jr,Nat.reduceAdd];apply hK;clear hK K;refine qN ?_;refine qfY (by rfl) Tryz.underlying74 zqA (by rfl) (qbH _ b4 es4 0 hnot4) ?_;refine QS (?_) ?_
       ·simp+decide only[QC,qw,qj,VO,Ka,and_true,qw,qj,qg Xv QK,Qc,qf,VX,Km,Jr,Nat.reduceAdd,qi,allLive,JS,QL,ne_eq,not_false_eq_true,ne_0q2_m,qf,VX,Km,Jr,Nat.reduceAdd,qi,allLive,JS]
       simp+decide only[VO,Ka,Xi,qw,qj,qg Xv QK,Qc,qf,VX,Km,Jr,Nat.reduceAdd,qi,allLive,JS,QL,ne_eq,not_false_eq_true,ne_0q2_m,qf,VX,Km,Jr,Nat.reduceAdd,qi,allLive,JS];rw[qdm];have hE14':Sub (ZO B kx km (.slice lcm om qs.length cm) c3 (es4++[(b4,nm)]) nb3 st2.copies) (h14q9.set k14q13 ⟨[.int .i64 bf.e, .int .i64 bf.line, .int .i64 bf.col],0⟩):=V3 hE14 (hE14.none hn_14q13);obtain⟨e1,e2⟩:=heB3.buf hE14' o1;have hE19:Sub (ZO (Qv B tb) kx km (.slice lcm om qs.length cm) c3 (es4++[(b4,nm)]) nb3 st2.copies) h19q3:=by rw[e1,o3];exact En hE14'
       have z7:ZO (Qv B tb) kx km (.slice lcm om qs.length cm) c3 (es4++[(b4,nm)]) nb3 st2.copies k0q2=none:=by rw[e1];exact qnI z0q2 ((Vb _ _ ne_14q13_0q2.symm).trans (hs2h _ _ (hsB2 _ _ b1_2))) o1
       have hob:bufOk B 5 tb:=o1.sub (zqB:Sub B (h14q9.set k14q13 ⟨[.int .i64 bf.e, .int .i64 bf.line, .int .i64 bf.col],0⟩));refine⟨_,Vl _,tb,st2,ov,okF,hob,⟨hfew2,c3,es4,nb3,e2,hes4,?_⟩,rfl, .inr ⟨rfl,WB s.reps out,hX,?_,by omega,w5,w6⟩⟩
       ·rw[<-e2.set_m (c:=c3) (es:=es4++[(b4,nm)])]
        exact V9 (V3 hE19 z7) _ _
       ·rw[hov,<-hE1]
        exact(BF (hob.sub (qdF _)) (by decide) o2 Xj (Vl _)).clip
end Go.Proofs.YtlhhaagmakhilaaGreatDoor
namespace Go.Proofs.YtlhhaagmakhilaaGreatDoor
open Go.AM
open Go.Proofs
open Go.Col (Str FaultC okF)
open Go.Tok
open Go.Cop
open Go.RowKit (Below)
set_option maxRecDepth 100000
def qaS(h:AHeap):Option Buf->AHeap
 |none=>h
 |some b=>h.del b.blk
def Uj(j:Nat):Option Buf->Prop
 |none=>True
 |some b=>j≠b.blk
theorem Uy{h:AHeap}{tb:Option Buf}{j:Nat}{c:Blk}(hj:h j=some c)(hn:Uj j tb):qaS h tb j=some c:=by
 cases tb with
 |none=>exact hj
 |some b=>simp only[qaS,Vk,show j≠b.blk from hn,if_false];exact hj
theorem WC{G:AHeap}{es j:Nat}{tb:Option Buf}{c:Blk}(hb:bufOk G es tb)(hj:G j=some c):Uj j tb:=by
 cases tb with
 |none=>trivial
 |some b=>exact qnH hb hj
theorem qrC{h G:AHeap}{j:Nat}{tb:Option Buf}(hs:Sub (Qv G tb) h)(hj:h j=none):Uj j tb:=by
 cases tb with
 |none=>trivial
 |some b=>
  intro e;have:=hs b.blk _ (Vd _ _ _);rw[<-e,hj]at this;cases this
theorem qcC{A h:AHeap}{es:Nat}{tb:Option Buf}(hs:Sub A h)(hb:bufOk A es tb):Sub A (qaS h tb):=fun j c hj=>Uy (hs j c hj) (WC hb hj)
theorem qpD(h:AHeap)(tb:Option Buf):Sub (qaS h tb) h:=by
 cases tb with
 |none=>exact Vl _
 |some b=>
  intro j c hj;by_cases e:j=b.blk
  ·subst e;simp[qaS,Vk]at hj
  ·simpa[qaS,Vk,e]using hj
def qah(h:AHeap)(kx km:Nat)(nb:Option Buf):AHeap:=qaS ((h.del kx).del km) nb
theorem qeW{h:AHeap}{kx km:Nat}{nb:Option Buf}{j:Nat}{c:Blk}(hj:h j=some c)(hx:j≠kx)(hm:j≠km)(hn:Uj j nb):qah h kx km nb j=some c:=Uy (by simp only[Vk,hx,hm,if_false];exact hj) hn
section
variable {B h:AHeap} {kx km:Nat} {mv:AVal} {c cp:Nat} {es:List (Nat×Str)} {nb:Option Buf} {ns:List Str}
theorem base_ok(he:ExOk B kx km nb ns):ExOk (qah h kx km nb) kx km nb ns:=by
 have hk:∀j,(j=kx\/j=km)->qah h kx km nb j=none:=fun j hj=>by
  have:((h.del kx).del km) j=none:=by
   rcases hj with rfl|rfl
   ·by_cases e:j=km<;>simp[Vk,e]
   ·simp[Vk]
  cases hb:qah h kx km nb j with
  |none=>rfl
  |some d=>
   have:=qpD _ _ j d hb;rw[‹((h.del kx).del km) j=none›]at this;cases this
 refine⟨hk km (.inr rfl),hk kx (.inl rfl),he.ne,fun M=>⟨(Vb _ _ he.ne.symm).trans (hk kx (.inl rfl)),fun X=>?_,(he.use M).eq⟩⟩;have h1:=(he.use M).ok X;cases nb with
 |none=>trivial
 |some b=>
  refine⟨?_,h1.2⟩;have h2:((B.set km M).set kx X) b.blk=none:=h1.1;have e1:b.blk≠kx:=fun e=>by rw[e,Vd]at h2;cases h2
  rw[Vb _ _ e1]at h2;have e2:b.blk≠km:=fun e=>by rw[e,Vd]at h2;cases h2
  refine(Vb _ _ e1).trans ((Vb _ _ e2).trans ?_);simp[qah,qaS,Vk]
theorem qdZ(he:ExOk B kx km nb ns){j:Nat}{d:Blk}(hj:B j=some d):j≠kx/\j≠km/\Uj j nb:=by
 refine⟨(fun e=>by rw[e,he.bx]at hj;cases hj),(fun e=>by rw[e,he.bm]at hj;cases hj),?_⟩;have hne:j≠km:=fun e=>by rw[e,he.bm]at hj;cases hj
 have hnx:j≠kx:=fun e=>by rw[e,he.bx]at hj;cases hj
 exact WC ((he.use ⟨[],0⟩).ok ⟨[],0⟩) ((Vb _ _ hnx).trans ((Vb _ _ hne).trans hj))
theorem qdY(he:ExOk B kx km nb ns)(hs:Sub (ZO B kx km mv c es nb cp) h){j:Nat}(hj:h j=none):j≠kx/\j≠km/\Uj j nb:=by
 refine⟨fun e=>?_,fun e=>?_,qrC hs hj⟩
 ·have:=hs _ _ (he.x (mv:=mv) (c:=c) (es:=es) (cp:=cp))
  rw[<-e,hj]at this;cases this
 ·have:=hs _ _ (he.m (mv:=mv) (c:=c) (es:=es) (cp:=cp))
  rw[<-e,hj]at this;cases this
theorem qjH(he:ExOk B kx km nb ns){B':AHeap}(hb:∀j d,B' j=some d->j≠kx/\j≠km/\Uj j nb)(hs:Sub B' h):Sub B' (qah h kx km nb):=fun j d hj=>by
 obtain⟨h1,h2,h3⟩:=hb j d hj;exact qeW (hs j d hj) h1 h2 h3
theorem base_sub(he:ExOk B kx km nb ns)(hs:Sub (ZO B kx km mv c es nb cp) h):Sub (ZO (qah h kx km nb) kx km mv c es nb cp) h:=by
 have hx:=hs _ _ (he.x (mv:=mv) (c:=c) (es:=es) (cp:=cp));have hm:=hs _ _ (he.m (mv:=mv) (c:=c) (es:=es) (cp:=cp));have hn:∀b,nb=some b->h b.blk=some ⟨b.cells,0⟩:=fun b e=>by
  subst e;exact hs _ _ (Vd _ _ _)
 have hle:Sub (qah h kx km nb) h:=(qpD _ _).trans fun j d hj=>by
  by_cases e1:j=km
  ·subst e1;simp[Vk]at hj
  ·by_cases e2:j=kx
   ·subst e2;simp[Vk]at hj
   ·simpa[Vk,e1,e2]using hj
 have hG:Sub (((qah h kx km nb).set km (XB c (es.map opC))).set kx ⟨[mv, .map km,QH 1 nb, .int .i64 cp],0⟩) h:=fun j d hj=>by
  by_cases e2:j=kx
  ·subst e2
   rw[Vd]at hj;rw[<-hj];exact hx
  ·rw[Vb _ _ e2]at hj
   by_cases e1:j=km
   ·subst e1
    rw[Vd]at hj;rw[<-hj];exact hm
   ·rw[Vb _ _ e1]at hj
    exact hle j d hj
 unfold ZO qbb;cases nb with
 |none=>exact hG
 |some b=>
  intro j d hj;by_cases e:j=b.blk
  ·subst e
   rw[show Qv (((qah h kx km (some b)).set km (XB c (es.map opC))).set kx ⟨[mv, .map km,QH 1 (some b), .int .i64 cp],0⟩) (some b)=(((qah h kx km (some b)).set km (XB c (es.map opC))).set kx ⟨[mv, .map km,QH 1 (some b), .int .i64 cp],0⟩).set b.blk ⟨b.cells,0⟩from rfl,Vd]at hj;rw[<-hj];exact hn b rfl
  ·rw[show Qv (((qah h kx km (some b)).set km (XB c (es.map opC))).set kx ⟨[mv, .map km,QH 1 (some b), .int .i64 cp],0⟩) (some b)=(((qah h kx km (some b)).set km (XB c (es.map opC))).set kx ⟨[mv, .map km,QH 1 (some b), .int .i64 cp],0⟩).set b.blk ⟨b.cells,0⟩from rfl,Vb _ _ e]at hj
   exact hG j d hj
end
section
variable {lim:Bool} {mem:List MemC} {op:List Str} {rec:List TokC->List Str->Xs->Xr} {l:List TokC}
theorem qhJ:∀(f g i:Nat) (out:List TokC) (st:Xs),i<=l.length->l.length<f+i->l.length<g+i->qbI lim mem op rec l f i out st=qbI lim mem op rec l g i out st
 |0,g,i,out,st,hi,h1,_=>by omega
 |f+1,0,i,out,st,hi,_,h2=>by omega
 |f+1,g+1,i,out,st,hi,h1,h2=>by
  rw[qbI,qbI];simp only;split
  ·rfl
  ·rename_i hc
   have hcl:=qhl hi;obtain⟨s1,s2,s3,s4⟩:=qbd (l:=l) (i:=XR l i+1) (by omega);split
   ·rfl
   ·rename_i hok
    have h3:=s3 (by simpa using hok);cases qbe lim mem op rec (Xo l (XR l i+1)) st with
    |bad f'=>rfl
    |ok inner st'=>
     simp only;split
     ·rfl
     ·exact qhJ f g _ _ _ s2 (by omega) (by omega)
def qnd(lim:Bool)(mem:List MemC)(op:List Str)(rec:List TokC->List Str->Xs->Xr)(l:List TokC)(i:Nat)(out:List TokC)(st:Xs):Xr:=qbI lim mem op rec l (l.length+1-i) i out st
theorem qor{i:Nat}(hi:i<=l.length)(out:List TokC)(st:Xs):qnd lim mem op rec l i out st=
 if l.length<=XR l i then .ok (out++l.drop i) st
 else if (Xo l (XR l i+1)).ok=false then .bad (qdj l (XR l i) (Xo l (XR l i+1)).at_)
 else match qbe lim mem op rec (Xo l (XR l i+1)) st with
  | .bad f=> .bad f
  | .ok inner st'=>if qcT lim (out++qcl l i (XR l i)++inner)=true then .bad ⟨3,(Xo l (XR l i+1)).name.line,(Xo l (XR l i+1)).name.col⟩else qnd lim mem op rec l (Xo l (XR l i+1)).at_ (out++qcl l i (XR l i)++inner) st':=by
 unfold qnd;rw[show l.length+1-i=(l.length-i)+1 by omega,qbI];simp only;split
 ·rfl
 ·rename_i hc
  have hcl:=qhl hi;obtain⟨s1,s2,s3,s4⟩:=qbd (l:=l) (i:=XR l i+1) (by omega);split
  ·rfl
  ·rename_i hok
   have h3:=s3 (by simpa using hok);cases qbe lim mem op rec (Xo l (XR l i+1)) st with
   |bad f'=>rfl
   |ok inner st'=>
    simp only;split
    ·rfl
    ·exact qhJ _ _ _ _ _ s2 (by omega) (by omega)
end
end Go.Proofs.YtlhhaagmakhilaaGreatDoor
namespace Go.Proofs.YtlhhaagmakhilaaGreatDoor
open Go.AM
open Go.Proofs
open Go.Col (Str FaultC okF)
open Go.Tok
open Go.Cop
open Go.RowKit (Below)
set_option maxRecDepth 100000
theorem qjB{H H':AHeap}{es:Nat}{b:Option Buf}(hb:bufOk H es b)(hn:∀j,H j=none->H' j=none):bufOk H' es b:=by
 cases b with
 |none=>trivial
 |some b=>exact⟨hn _ hb.1,hb.2⟩
theorem qjC{H H':AHeap}{es:Nat}{b:Option Buf}(hb:bufOk H es b)(hn:∀b',b=some b'->H' b'.blk=none):bufOk H' es b:=by
 cases b with
 |none=>trivial
 |some b=>exact⟨hn _ rfl,hb.2⟩
theorem WY{B B':AHeap}(hn:∀j,B j=none->B' j=none)(k:Nat)(c:Blk):∀j,B.set k c j=none->B'.set k c j=none:=fun j hj=>by
 by_cases e:j=k
 ·subst e;rw[Vd]at hj;cases hj
 ·rw[Vb _ _ e]at hj|-
  exact hn j hj
theorem ExOk.same{B B':AHeap}{kx km:Nat}{nb:Option Buf}{ns:List Str}(he:ExOk B kx km nb ns)(hn:∀j,B j=none->B' j=none):ExOk B' kx km nb ns:=
 ⟨hn _ he.bm,hn _ he.bx,he.ne,fun M=>⟨WY hn km M _ (he.use M).bx,fun X=>qjB ((he.use M).ok X) (WY (WY hn km M) kx X),(he.use M).eq⟩⟩
theorem qrP{B B':AHeap}{kx km:Nat}{mv:AVal}{c cp:Nat}{es:List (Nat×Str)}{nb:Option Buf}(hn:∀j,B j=none->B' j=none):∀j,ZO B kx km mv c es nb cp j=none->ZO B' kx km mv c es nb cp j=none:=by
 have h1:=WY (WY hn km (XB c (es.map opC))) kx ⟨[mv, .map km,QH 1 nb, .int .i64 cp],0⟩;unfold ZO qbb;cases nb with
 |none=>exact h1
 |some b=>exact WY h1 b.blk ⟨b.cells,0⟩
theorem qgR{A:AHeap}{k:Nat}(X Y:Blk):∀j,A.set k X j=none->A.set k Y j=none:=fun j hj=>by
 by_cases e:j=k
 ·subst e;rw[Vd]at hj;cases hj
 ·rw[Vb _ _ e]at hj|-
  exact hj
theorem qiw{A B:AHeap}{k:Nat}{c:Blk}(hs:Sub A B)(hk:B k=some c):Sub (A.set k c) B:=fun j d hj=>by
 by_cases e:j=k
 ·subst e;rw[Vd]at hj;rw[<-hj];exact hk
 ·rw[Vb _ _ e]at hj;exact hs j d hj
def hasB(h:AHeap)(tb:Option Buf):Prop:=∀b,tb=some b->h b.blk=some ⟨b.cells,0⟩
theorem hasB.mono{h h':AHeap}{tb:Option Buf}(hh:hasB h tb)(hs:Sub h h'):hasB h' tb:=fun b e=>hs _ _ (hh b e)
theorem qjg(H:AHeap)(tb:Option Buf):hasB (Qv H tb) tb:=fun b e=>by subst e;exact Vd _ _ _
theorem hasB.set{h:AHeap}{tb:Option Buf}{j:Nat}(hh:hasB h tb)(hn:Uj j tb)(c:Blk):hasB (h.set j c) tb:=fun b e=>by
 subst e;rw[Vb _ _ (Ne.symm hn)];exact hh b rfl
theorem qky{h:AHeap}{tb:Option Buf}{j:Nat}(hh:hasB h tb)(hj:h j=none):Uj j tb:=by
 cases tb with
 |none=>trivial
 |some b=>
  intro e;have:=hh b rfl;rw[<-e,hj]at this;cases this
theorem qmY{G h:AHeap}{es:Nat}{tb:Option Buf}(hb:bufOk G es tb)(hh:hasB h tb):bufOk (qaS h tb) es tb/\Sub (Qv (qaS h tb) tb) h:=by
 cases tb with
 |none=>exact⟨trivial,Vl _⟩
 |some b=>
  refine⟨⟨by simp[qaS,Vk],hb.2⟩,fun j c hj=>?_⟩;have h1:=hh b rfl;by_cases e:j=b.blk
  ·subst e
   rw[show Qv (qaS h (some b)) (some b)=(qaS h (some b)).set b.blk ⟨b.cells,0⟩from rfl,Vd]at hj;rw[<-hj];exact h1
  ·rw[show Qv (qaS h (some b)) (some b)=(qaS h (some b)).set b.blk ⟨b.cells,0⟩from rfl,Vb _ _ e]at hj
   simpa[qaS,Vk,e]using hj
theorem qpa{B H E:AHeap}{es:Nat}{tb:Option Buf}(hb:bufOk B es tb)(hE:NewE B H E)(hh:hasB H tb):bufOk E es tb:=by
 cases tb with
 |none=>trivial
 |some b=>exact⟨hE.none (hh b rfl) hb.1,hb.2⟩
theorem ExOk.newE{B H E:AHeap}{kx km:Nat}{mv:AVal}{c cp:Nat}{es:List (Nat×Str)}{nb:Option Buf}{ns:List Str}(he:ExOk B kx km nb ns)(hE:NewE B H E)(hs:Sub (ZO B kx km mv c es nb cp) H):ExOk E kx km nb ns:=by
 have e1:E km=none:=hE.none (hs _ _ he.m) he.bm;have e2:E kx=none:=hE.none (hs _ _ he.x) he.bx;refine⟨e1,e2,he.ne,fun M=>⟨(Vb _ _ he.ne.symm).trans e2,fun X=>?_,(he.use M).eq⟩⟩;refine qjC ((he.use M).ok X) fun b hb=>?_;subst hb;have h2:((B.set km M).set kx X) b.blk=none:=((he.use M).ok X).1;have q1:b.blk≠kx:=fun e=>by rw[e,Vd]at h2;cases h2
 rw[Vb _ _ q1]at h2;have q2:b.blk≠km:=fun e=>by rw[e,Vd]at h2;cases h2
 rw[Vb _ _ q2]at h2;exact(Vb _ _ q1).trans ((Vb _ _ q2).trans (hE.none (hs b.blk _ (Vd _ _ _)) h2))
structure LsG where
 i:Nat
 c:Nat
 es:List (Nat×Str)
 nb:Option Buf
 st:Xs
 tb:Option Buf
 out:List TokC
structure LsOk(B:AHeap)(kx km k0 k1:Nat)(mv:AVal)(op:List Str)(l:List TokC)(R:Nat->List TokC->Xs->Xr)(X:Xr)(s:LsG):Prop where
 i:s.i<=l.length
 ex:∀Y,ExOk ((B.set k0 ⟨[.int .i64 0, .int .i64 0, .int .i64 0],0⟩).set k1 Y) kx km s.nb s.st.names
 op:s.es.map (·.2)=op
 ok:∀Y,bufOk (ZO ((B.set k0 ⟨[.int .i64 0, .int .i64 0, .int .i64 0],0⟩).set k1 Y) kx km mv s.c s.es s.nb s.st.copies) 5 s.tb
 eq:Ws s.tb=(s.out.map QJ).flatten
 len:s.out.length<=65536
 nm:s.st.names.length<=s.st.copies
 cp:s.st.copies<=4096
 go:R s.i s.out s.st=X
end Go.Proofs.YtlhhaagmakhilaaGreatDoor
namespace Go.Proofs.YtlhhaagmakhilaaGreatDoor
open Go.AM
open Go.Proofs
open Go.Col (Str FaultC okF)
open Go.Tok
open Go.Cop
open Go.RowKit (Below)
set_option maxRecDepth 100000
set_option maxHeartbeats 4000000 in
theorem qpR(wz:World)(h B:AHeap)(kx km:Nat)(mv:AVal)(mems:List MemC)(op:List Str)(st:Xs)(v:AVal)(l:List TokC)(rec:List TokC->List Str->Xs->Xr)(hx:ExpR B kx km mv op st h)(hms:IsMems wz B mv mems)(hml:mems.length<=1000000)(hmt:∀m∈mems,m.toks.length<=100000)
 (hv:IsL wz B 5 v (l.map QJ)) (hl:l.length<=100000) (hst:st.names.length<=st.copies) (hst2:st.copies<=4096) (hop8:op.length<=8)
 (hrec:op.length<8->∀nm,RecOk wz kx km mv mems (op++[nm]) rec):
 ACall Tryz.prog wz 32 [.ptr (.own kx) 0,v] h (ListR wz B kx km mv op (qbI true mems op rec l (l.length+1) 0 [] st)):=by
 obtain⟨hfew,c,es,nb,he,hes,hsh⟩:=hx;have hmvs:mv.scal=true:=by obtain⟨qs,-,q2,-⟩:=hms;exact q2.scal
 have hmvl:=YF hmvs;have hlv:=hv.live;have hvs:=hv.scal;have hSv:Sc v=True:=eq_true (isL_Sc hv);have nv:=Ze hv;refine Em hsh ?_;obtain⟨X,hX⟩:∃X,X=qbI true mems op rec l (l.length+1) 0 [] st:=⟨_,rfl⟩
 have hX0:qnd true mems op rec l 0 [] st=X:=hX.symm;rw[<-hX];obtain⟨H,hH⟩:∃H,H=ZO B kx km mv c es nb st.copies:=⟨_,rfl⟩
 have hs_H:Sub B H:=by rw[hH];exact he.above
 have eb_x:H kx=some ⟨[mv, .map km,QH 1 nb, .int .i64 st.copies],0⟩:=by rw[hH];exact he.x
 have eb_m:H km=some (XB c (es.map opC)):=by rw[hH];exact he.m
 have ne_x_m:kx≠km:=he.ne.symm;have hrvs:(AVal.bool true).scal=true:=rfl;have hrvl:(AVal.bool true).live=true:=rfl;have hbvl:(AVal.bool true).live=true:=rfl;have hbl:=QY 5 none;have hbn:=QY 1 nb;rw[<-hH];refine qP (n:=52) (rs:=[.tmp 4, .cell 5 35]) Tryz.func32 rfl rfl rfl rfl (VL rfl) ?_;simp only[Qd];refine awp_rseq [0,1,5] (by rfl) fun K hK=>?_;simp+decide only[ev,qH,qF,putD,VM,if_false,true_and,↓qd,qb,Jr];refine Qk qbT (cs:=[.int .i64 0, .int .i64 0, .int .i64 0]) (by rfl) fun k0q1 hk0q1=>?_;have hn_0q1:H k0q1=none:=by first|assumption|(simp only[V7]at hk0q1;simp only[hk0q1])
 have hf_0q1:B k0q1=none:=Bg hs_H hn_0q1;have ne_0q1_x:k0q1≠kx:=Bh hn_0q1 eb_x;have ne_0q1_m:k0q1≠km:=Bh hn_0q1 eb_m;simp+decide only[qa,putD,VM,VN,Ka];apply hK;clear hK K;refine awp_rseq [0,5,6] (by rfl) fun K hK=>?_;simp+decide only[ev,qH,qF,putD,VM,VO,Ka,true_and,↓qh,qc,↓Qr,↓qY,bld89_0,evP,Kc,Vj,hSv];refine Qk ze89 (cs:=[.nilSlice, .int .i64 0]) (by rfl) fun k1q2 hk1q2=>?_;have ne_1q2_0q1:k1q2≠k0q1:=by simp only[V7]at hk1q2;simp only[hk1q2,ne_eq,not_false_eq_true]
 have hn_1q2:H k1q2=none:=by first|assumption|(simp only[V7]at hk1q2;simp only[hk1q2])
 have hf_1q2:B k1q2=none:=Bg hs_H hn_1q2;have ne_1q2_x:k1q2≠kx:=Bh hn_1q2 eb_x;have ne_1q2_m:k1q2≠km:=Bh hn_1q2 eb_m;refine qo (by rfl) (by rfl) zqA sz89 (by rfl) (by rfl) zqD (Js _) (by first|rfl|(simp+decide only[ev,putD,VM,VO,Ka,VV,QG,JS,hvs,XV])) ?_;simp only[Vh,VV];simp+decide only[qa,ev,putD,VM,VO,VN,Ka,setAt,VW,Ki,Jr];apply hK;clear hK K;obtain⟨y1,y2⟩:=he.lay (mv:=mv) (c:=c) (es:=es) (cp:=st.copies) (j:=k0q1) (by rw[<-hH];exact hn_0q1) ⟨[.int .i64 0, .int .i64 0, .int .i64 0],0⟩;obtain⟨y3,y4⟩:=y2.lay (mv:=mv) (c:=c) (es:=es) (cp:=st.copies) (j:=k1q2) (by rw[<-y1,<-hH];exact(Vb _ _ ne_1q2_0q1).trans hn_1q2) ⟨[v, .int .i64 0],0⟩;refine awp_rseq [0,5,6,7] (by rfl) fun K hK=>?_;simp+decide only[qa,ev,qH,qF,putD,VM,VN,Ka,true_and,↓qd,qb];apply hK;clear hK K;refine Qp ?_;refine XE [0,5,6,7] (fun s:LsG=>[(0, .ptr (.own kx) 0),(5, .ptr (.own k0q1) 0),(6, .ptr (.own k1q2) 0),(7,QH 5 s.tb)]) (fun s:LsG=>Qv (ZO ((B.set k0q1 ⟨[.int .i64 0, .int .i64 0, .int .i64 0],0⟩).set k1q2 ⟨[v, .int .i64 s.i],0⟩) kx km mv s.c s.es s.nb s.st.copies) s.tb) (fun s:LsG=>LsOk B kx km k0q1 k1q2 mv op l (qnd true mems op rec l) X s) (fun s:LsG=>l.length-s.i) ⟨0,c,es,nb,st,none,[]⟩ (by rfl) (by(show Sub (ZO _ _ _ _ _ _ _ _) _);rw[show((((0:Nat):Int)))=(0:Int)from rfl,<-y3,<-y1,<-hH];exact Vl _) ⟨Js _,fun Y=>y4.same (qgR _ _),hes,fun Y=>trivial,rfl,Js _,hst,hst2,hX0⟩ ?_;rintro⟨i,c,es,nb,st,tb,out⟩ ⟨g1,g2,g3,g4,g5,g6,g7,g8,g9⟩;simp only at g1 g2 g3 g4 g5 g6 g7 g8 g9|-
 have g2i:=g2 ⟨[v, .int .i64 i],0⟩;have g4i:=g4 ⟨[v, .int .i64 i],0⟩;obtain⟨G,hG⟩:∃G,G=(B.set k0q1 ⟨[.int .i64 0, .int .i64 0, .int .i64 0],0⟩).set k1q2 ⟨[v, .int .i64 i],0⟩:=⟨_,rfl⟩
 rw[<-hG]at g2i g4i|-
 have hBG:Sub B G:=by rw[hG];exact zqB
 have gb_0:G k0q1=some ⟨[.int .i64 0, .int .i64 0, .int .i64 0],0⟩:=by rw[hG];exact zqA
 have gb_1:G k1q2=some ⟨[v, .int .i64 i],0⟩:=by rw[hG];exact Vd _ _ _
 obtain⟨H1,hH1⟩:∃H1,H1=Qv (ZO G kx km mv c es nb st.copies) tb:=⟨_,rfl⟩
 have hbuf:Sub (ZO G kx km mv c es nb st.copies) H1:=by rw[hH1];exact BH g4i
 have hs_H1:Sub B H1:=(hBG.trans g2i.above).trans hbuf;have eb_x:H1 kx=some ⟨[mv, .map km,QH 1 nb, .int .i64 st.copies],0⟩:=hbuf _ _ g2i.x;have eb_m:H1 km=some (XB c (es.map opC)):=hbuf _ _ g2i.m;have eb_0q1:H1 k0q1=some ⟨[.int .i64 0, .int .i64 0, .int .i64 0],0⟩:=hbuf _ _ (g2i.above _ _ gb_0);have eb_1q2:H1 k1q2=some ⟨[v, .int .i64 i],0⟩:=hbuf _ _ (g2i.above _ _ gb_1);have has1:hasB H1 tb:=by rw[hH1];exact qjg _ _
 have heB:ExOk B kx km nb st.names:=g2i.down hBG;have hokB:bufOk (ZO B kx km mv c es nb st.copies) 5 tb:=g4i.sub (qcH hBG);have hokB0:bufOk B 5 tb:=hokB.sub heB.above;have hEB1:Sub (ZO B kx km mv c es nb st.copies) H1:=(qcH hBG).trans hbuf;have zB0:ZO B kx km mv c es nb st.copies k0q1=none:=g2i.off gb_0 hf_0q1;have zB1:ZO B kx km mv c es nb st.copies k1q2=none:=g2i.off gb_1 hf_1q2;have hbl:=QY 5 tb;have hbn:=QY 1 nb;have hstp:=qor (lim:=true) (mem:=mems) (op:=op) (rec:=rec) g1 out st;rw[g9]at hstp;rw[<-hH1];refine Qp ?_;refine awp_rseq [0,5,6,7,8,9,10,11] (by rfl) fun K hK=>?_;refine QO (by rfl) (by rfl) (c_nextP wz H1 B k1q2 v l i eb_1q2 hs_H1 hf_1q2 hv (by omega) g1) fun x3q0 h3q0 hx3q0=>?_;obtain⟨hsub3,j,eb_1q2,hj,hcase⟩:=hx3q0;have hcl:=qhl g1;have hstm:XR l i<l.length->_:=fun hc=>qbd (l:=l) (i:=XR l i+1) (by omega);have hrps:=qiy l (XR l i+1);obtain⟨ci,hci⟩:∃ci,ci=XR l i:=⟨_,rfl⟩
 rw[<-hci]at hcase hcl hstm hrps hstp;obtain⟨sm,hsm⟩:∃sm,sm=Xo l (ci+1):=⟨_,rfl⟩
 rw[<-hsm]at hcase hstm hrps hstp;obtain⟨bv,t,rv,more,f,E,rfl,hbvl,hrvs,hE3,hE3s,hcase⟩:∃bv t rv more f E,x3q0=qiV bv t rv more f/\bv.live=true/\rv.scal=true/\NewE B H1 E/\Sub E h3q0/\
  ((f≠okF/\X= .bad f)\/(f=okF/\more=false/\X= .ok (out++l.drop i) st/\IsL wz B 5 bv ((l.drop i).map QJ))\/
   (f=okF/\more=true/\ci<l.length/\sm.ok=true/\t=sm.name/\j=sm.at_/\IsL wz B 5 bv ((qcl l i ci).map QJ)/\IsReps wz E rv sm.reps)):=by
  have hle:Sub B (H1.del k1q2):=qbV hs_H1 hf_1q2;rcases hcase with⟨z1,bv,rfl,z2⟩|⟨z1,z2,rfl⟩|⟨z1,z2,z3,bv,rv,E,rfl,z4,z5,z6,z7⟩
  ·rw[if_pos z1]at hstp
   exact⟨bv,_,_,_,_,B,rfl,z2.live,rfl,NewE.refl _ _,hle.trans hsub3, .inr (.inl ⟨rfl,rfl,hstp,z2⟩)⟩
  ·rw[if_neg (by omega),if_pos z2]at hstp
   exact⟨.nilSlice,_,_,_,_,B,rfl,rfl,rfl,NewE.refl _ _,hle.trans hsub3, .inl ⟨qoC _ _ _,hstp⟩⟩
  ·exact⟨bv,_,rv,_,_,E,rfl,z4.live,(by obtain⟨qs,-,q2,-⟩:=z7;exact q2.scal),z5,z6, .inr (.inr ⟨rfl,rfl,z1,z2,rfl,z3,z4,z7⟩)⟩
 have hrvl:=YF hrvs;have hd:∀k d,H1 k=some d->k≠k1q2->h3q0 k=some d:=fun k d hk hn=>hsub3 k d (by simp only[Vk,hn,if_false];exact hk);have eb_x:h3q0 kx=some ⟨[mv, .map km,QH 1 nb, .int .i64 st.copies],0⟩:=hd _ _ eb_x ne_1q2_x.symm;have eb_m:h3q0 km=some (XB c (es.map opC)):=hd _ _ eb_m ne_1q2_m.symm;have eb_0q1:h3q0 k0q1=some ⟨[.int .i64 0, .int .i64 0, .int .i64 0],0⟩:=hd _ _ eb_0q1 ne_1q2_0q1.symm;have hs_h3q0:Sub B h3q0:=(qbV hs_H1 hf_1q2).trans hsub3;have hEB3:Sub (ZO B kx km mv c es nb st.copies) h3q0:=(qbV hEB1 zB1).trans hsub3;have has3:hasB h3q0 tb:=fun b e=>hd _ _ (has1 b e) (by subst e;exact Ne.symm (qnH g4i (g2i.above _ _ gb_1)));unfold qiV qlj;simp+decide only[ev,putD,VM,VO,Ka,true_and,↓qh,qc,↓QV,QI,QT,KX,J8,VX,Km,VX,Km,Jr,Nat.reduceAdd,QA];refine Qk qst (cs:=[.int .u8 0, .str [], .int .i64 0, .int .i64 0, .bool false, .nilSlice]) (by rfl) fun k3q6 hk3q6=>?_;have hn_3q6:h3q0 k3q6=none:=by first|assumption|(simp only[V7]at hk3q6;simp only[hk3q6])
 have hf_3q6:B k3q6=none:=Bg hs_h3q0 hn_3q6;have ne_3q6_x:k3q6≠kx:=Bh hn_3q6 eb_x;have ne_3q6_m:k3q6≠km:=Bh hn_3q6 eb_m;have ne_3q6_0q1:k3q6≠k0q1:=Bh hn_3q6 eb_0q1;have ne_3q6_1q2:k3q6≠k1q2:=Bh hn_3q6 eb_1q2;refine Qk qbT (cs:=[.int .i64 0, .int .i64 0, .int .i64 0]) (by rfl) fun k3q7 hk3q7=>?_;have ne_3q7_3q6:k3q7≠k3q6:=by simp only[V7]at hk3q7;simp only[hk3q7,ne_eq,not_false_eq_true]
 have hn_3q7:h3q0 k3q7=none:=by first|assumption|(simp only[V7]at hk3q7;simp only[hk3q7])
 have hf_3q7:B k3q7=none:=Bg hs_h3q0 hn_3q7;have ne_3q7_x:k3q7≠kx:=Bh hn_3q7 eb_x;have ne_3q7_m:k3q7≠km:=Bh hn_3q7 eb_m;have ne_3q7_0q1:k3q7≠k0q1:=Bh hn_3q7 eb_0q1;have ne_3q7_1q2:k3q7≠k1q2:=Bh hn_3q7 eb_1q2;simp+decide only[ev,putD,VM,VO,Ka,true_and,↓qd,qb];refine qo (by rfl) (by rfl) zqA UW (by rfl) (by rfl) zqD (Js _) (by first|rfl|(simp+decide only[ev,VO,Ka,VV,QG,JS,hrvs,XV,Zf,XF])) ?_;simp only[VV];simp+decide only[ev,putD,VM,VO,Ka,true_and,↓qd,qb,setAt,VW,Ki,Jr,Nat.reduceAdd];refine qo (by rfl) (by rfl) zqA QK (by rfl) (by rfl) zqD (Js _) (by first|rfl|(simp+decide only[ev,putD,VM,VO,Ka,VV,QG,JS,Vf,hvs,hrvs,XV,Zf,XF])) ?_;simp only[VV];simp+decide only[qa,ev,putD,VO,VN,Ka,setAt,VW,Ki,Jr,Nat.reduceAdd];apply hK;clear hK K;refine qL ?_;refine awp_rseq [0,5,6,7,8,9,10,11,23] (by rfl) fun K hK=>?_;simp+decide only[qa,ev,qH,qF,putD,VM,VO,VN,Ka,true_and,↓qG,Qb,qg Xv QK,↓Qr,↓qY,ZV,evP,Vj,↓qA,ql,qZ,cond_false,YG,qna,QP,qf,VX,Km,Jr,Nat.reduceAdd,qi,allLive,JS,Ua];apply hK;clear hK K;refine qK (b:=_) rfl (fun hb1=>?_) (fun hb1=>?_)
 ·try simp only[decide_eq_false_iff_not,Ji]at hb1
  have hXb:X= .bad f:=by
   rcases hcase with⟨-,z⟩|⟨z,-⟩|⟨z,-⟩
   ·exact z
   ·exact absurd z hb1
   ·exact absurd z hb1
  refine Zi 2 [4,5] mixed (by kernel_rfl) (by rfl) (by rfl) fun K hK=>?_;simp+decide only[ev,qH,qF,putD,VM,VO,Ka,true_and,↓qG,Qb,qg Xv QK,↓qd,qb,QP,qf,VX,Km,Jr,Nat.reduceAdd,qi,allLive,JS];refine qo (by rfl) (by rfl) zqA QK (by rfl) (by rfl) zqD (Js _) (by first|rfl|(simp+decide only[ev,putD,VM,VO,Ka,VV,QG,JS,Vf,hvs,hrvs,XV,Zf,XF])) ?_;simp only[VV];simp+decide only[qa,ev,putD,VO,VN,Ka,setAt,VW,Ki,Jr,Nat.reduceAdd];apply hK;clear hK K;refine qN ?_;try simp only[Qf,Qu]
  refine QS (?_) ?_
  ·simp+decide only[QC,qw,qj,VO,Ka,and_true,qw,qj,qg Xv QK,Qc,qf,VX,Km,Jr,Nat.reduceAdd,qi,allLive,JS,qf,VX,Km,Jr,Nat.reduceAdd,qi,allLive,JS]
  simp+decide only[VO,Ka,Xi,qw,qj,qg Xv QK,Qc,qf,VX,Km,Jr,Nat.reduceAdd,qi,allLive,JS,qf,VX,Km,Jr,Nat.reduceAdd,qi,allLive,JS];have z36:=hEB3.none hn_3q6;have z37:=hEB3.none hn_3q7;exact⟨_,Vl _,none,st, .nilSlice,f,trivial,⟨by omega,c,es,nb,heB,g3,zqB⟩,rfl, .inl ⟨hb1,hXb,rfl⟩⟩
 ·try simp only[decide_eq_true_eq,VS]at hb1
  obtain⟨hf0,bl,hbl5,hbll,hcase⟩:f=okF/\∃bl,IsL wz B 5 bv (bl.map QJ)/\bl.length<=l.length/\((more=false/\X= .ok (out++bl) st)\/(more=true/\ci<l.length/\sm.ok=true/\t=sm.name/\j=sm.at_/\bl=qcl l i ci/\IsReps wz E rv sm.reps)):=by
   rcases hcase with⟨z,-⟩|⟨z1,z2,z3,z4⟩|⟨z1,z2,z3,z4,z5,z6,z7,z8⟩
   ·exact absurd (by simpa using hb1) z
   ·exact⟨z1,_,z4,by rw[K5];omega, .inl ⟨z2,z3⟩⟩
   ·exact⟨z1,_,z7,qnv _ _ _, .inr ⟨z2,z3,z4,z5,z6,rfl,z8⟩⟩
  refine qV ?_;change Awp _ _ _ _ _ _ _;obtain⟨C6,hC6⟩:∃C6,C6=(h3q0.set k3q6 ⟨[.int .u8 t.kind.toNat, .str t.text, .int .i64 t.line, .int .i64 t.col, .bool t.left,rv],0⟩).set k3q7 ⟨[.int .i64 f.e, .int .i64 f.line, .int .i64 f.col],0⟩:=⟨_,rfl⟩
  refine BG (h':=C6) (by rw[hC6];exact V9 (V9 (V3 (Vg hn_3q6) hn_3q7) _ _) _ _) ?_;have h36:Sub h3q0 C6:=by rw[hC6];exact V3 (Vg hn_3q6) hn_3q7
  have hs_C6:Sub B C6:=hs_h3q0.trans h36;have eb_x:C6 kx=some ⟨[mv, .map km,QH 1 nb, .int .i64 st.copies],0⟩:=h36 _ _ eb_x;have eb_m:C6 km=some (XB c (es.map opC)):=h36 _ _ eb_m;have eb_0q1:C6 k0q1=some ⟨[.int .i64 0, .int .i64 0, .int .i64 0],0⟩:=h36 _ _ eb_0q1;have eb_1q2:C6 k1q2=some ⟨[v, .int .i64 j],0⟩:=h36 _ _ eb_1q2;have eb_3q6:C6 k3q6=some ⟨[.int .u8 t.kind.toNat, .str t.text, .int .i64 t.line, .int .i64 t.col, .bool t.left,rv],0⟩:=by rw[hC6];exact zqA
  have eb_3q7:C6 k3q7=some ⟨[.int .i64 f.e, .int .i64 f.line, .int .i64 f.col],0⟩:=by rw[hC6];exact Vd _ _ _
  have has6:=has3.mono h36;obtain⟨of1,of2⟩:=qmY g4i has6;have nb_x:Uj kx tb:=WC g4i g2i.x;have nb_m:Uj km tb:=WC g4i g2i.m;have nb_0:Uj k0q1 tb:=WC g4i (g2i.above _ _ gb_0);have nb_1:Uj k1q2 tb:=WC g4i (g2i.above _ _ gb_1);have nb_6:Uj k3q6 tb:=qky has3 hn_3q6;have nb_7:Uj k3q7 tb:=qky has3 hn_3q7;have of_x:=Uy eb_x nb_x;have of_m:=Uy eb_m nb_m;have of_0:=Uy eb_0q1 nb_0;have of_1:=Uy eb_1q2 nb_1;have of_6:=Uy eb_3q6 nb_6;have of_7:=Uy eb_3q7 nb_7;have of_B:Sub B (qaS C6 tb):=qcC hs_C6 hokB0;have of_E:Sub E (qaS C6 tb):=qcC (hE3s.trans h36) (qpa hokB0 hE3 has1);have of_X:Sub (ZO B kx km mv c es nb st.copies) (qaS C6 tb):=qcC (hEB3.trans h36) hokB;refine awp_rseq [0,5,6,7,9,10,11] (by rfl) fun K hK=>?_;simp+decide only[ev,putD,VM,VO,Ka,true_and,↓qh,qc];refine Xw (es:=5) (zs:=out.map QJ) (xs:=bl.map QJ) (hZ:=qaS C6 tb) (b:=tb) (by rfl) (by rfl) Tryz.underlying26 Tryz.underlying26 (fun k e=>by cases e) QW qhn UO (by rfl) (by decide) (by rfl) of1 g5 Xj of2 (by rfl) (hbl5.mono hs_C6) (by rw[WV];intro z hz;obtain⟨t,_,rfl⟩:=JG.1 hz;rfl) (by simp;omega) (by simp;omega) fun tb2 h6 o1 o2 o3=>?_;have sub6:Sub (qaS C6 tb) h6:=(BH o1).trans o3;have hs_h6:Sub B h6:=of_B.trans sub6;have eb_x:=sub6 _ _ of_x;have eb_m:=sub6 _ _ of_m;have eb_0q1:=sub6 _ _ of_0;have eb_1q2:=sub6 _ _ of_1;have eb_3q6:=sub6 _ _ of_6;have eb_3q7:=sub6 _ _ of_7;have hbl:=QY 5 tb2;simp+decide only[qa,ev,putD,VM,VO,VN,Ka,true_and,↓qd,qb];apply hK;clear hK K;refine qL ?_;refine awp_rseq [0,5,6,7,9,11,29] (by rfl) fun K hK=>?_;simp+decide only[qa,ev,putD,VM,VO,VN,Ka,true_and,↓qh,qc,↓Yz,XP,Yk];apply hK;clear hK K;refine qK (b:=_) rfl (fun hb2=>?_) (fun hb2=>?_)
  ·try simp only[Ji]at hb2
   have hXo:X= .ok (out++bl) st:=by
    rcases hcase with⟨-,z⟩|⟨z,-⟩
    ·exact z
    ·rw[z]at hb2;cases hb2
   refine awp_rseq [4,5] (by rfl) fun K hK=>?_;simp+decide only[ev,qH,qF,putD,VM,VO,Ka,true_and,↓qh,qc,↓Qr,↓qY,ZV,evP,Vj,↓qd,qb];refine qo (by rfl) (by rfl) zqA QK (by rfl) (by rfl) zqD (Js _) (by first|rfl|(simp+decide only[ev,putD,VM,VO,Ka,VV,QG,JS,Vf,hvs,hrvs,XV,Zf,XF])) ?_;simp only[VV];simp+decide only[qa,ev,putD,VO,VN,Ka,setAt,VW,Ki,Jr,Nat.reduceAdd];apply hK;clear hK K;refine qN ?_;try simp only[Qf,Qu]
   refine QS (?_) ?_
   ·simp+decide only[QC,qw,qj,VO,Ka,and_true,qw,qj,qg Xv QK,Qc,qf,VX,Km,Jr,Nat.reduceAdd,qi,allLive,JS,qf,VX,Km,Jr,Nat.reduceAdd,qi,allLive,JS]
   simp+decide only[VO,Ka,Xi,qw,qj,qg Xv QK,Qc,qf,VX,Km,Jr,Nat.reduceAdd,qi,allLive,JS,qf,VX,Km,Jr,Nat.reduceAdd,qi,allLive,JS];obtain⟨e1,e2⟩:=heB.buf of_X o1;have hob:bufOk B 5 tb2:=o1.sub of_B;refine⟨_,Vl _,tb2,st,QH 5 tb2,okF,hob,⟨by omega,c,es,nb,e2,g3,V3 (by rw[e1];exact(En of_X).trans o3) (by rw[e1];exact qnI zB0 of_0 o1)⟩,rfl, .inr ⟨rfl,out++bl,hXo,?_,by rw[Jb];omega,g7,g8⟩⟩;exact BF (hob.sub (qdF _)) (by decide) (by rw[o2,Ba,Ej]) Xj (Vl _)
  ·try simp only[VS]at hb2
   obtain⟨m2,m3,rfl,m5,m6,hrp⟩:ci<l.length/\sm.ok=true/\t=sm.name/\j=sm.at_/\bl=qcl l i ci/\IsReps wz E rv sm.reps:=by
    rcases hcase with⟨z,-⟩|⟨-,z⟩
    ·rw[z]at hb2;cases hb2
    ·exact z
   have hm0:=hstm m2;rw[if_neg (by omega),if_neg (by rw[m3];decide)]at hstp;obtain⟨Bc,hBc⟩:∃Bc,Bc=qah h6 kx km nb:=⟨_,rfl⟩
   have heBc:ExOk Bc kx km nb st.names:=by rw[hBc];exact base_ok heB
   have hsBc:Sub (ZO Bc kx km mv c es nb st.copies) h6:=by rw[hBc];exact base_sub heB (of_X.trans sub6)
   have bc_B:Sub B Bc:=by rw[hBc];exact qjH heB (fun j d hj=>qdZ heB hj) hs_h6
   have bc_E:Sub E Bc:=by rw[hBc];exact qjH heB (fun j d hj=>qdZ (heB.newE hE3 hEB1) hj) (of_E.trans sub6)
   have bc_0:Bc k0q1=some ⟨[.int .i64 0, .int .i64 0, .int .i64 0],0⟩:=by
    obtain⟨a1,a2,a3⟩:=qdZ g2i gb_0;rw[hBc];exact qeW eb_0q1 a1 a2 a3
   have bc_1:Bc k1q2=some ⟨[v, .int .i64 j],0⟩:=by
    obtain⟨a1,a2,a3⟩:=qdZ g2i gb_1;rw[hBc];exact qeW eb_1q2 a1 a2 a3
   have bc_6:Bc k3q6=some ⟨[.int .u8 sm.name.kind.toNat, .str sm.name.text, .int .i64 sm.name.line, .int .i64 sm.name.col, .bool sm.name.left,rv],0⟩:=by
    obtain⟨a1,a2,a3⟩:=qdY heB hEB3 hn_3q6;rw[hBc];exact qeW eb_3q6 a1 a2 a3
   have bc_7:Bc k3q7=some ⟨[.int .i64 f.e, .int .i64 f.line, .int .i64 f.col],0⟩:=by
    obtain⟨a1,a2,a3⟩:=qdY heB hEB3 hn_3q7;rw[hBc];exact qeW eb_3q7 a1 a2 a3
   have bc_tb:hasB Bc tb2:=fun b e=>by
    subst e;obtain⟨a1,a2,a3⟩:=qdY heB of_X o1.1;rw[hBc];exact qeW (o3 _ _ (Vd _ _ _)) a1 a2 a3
   have nb2_x:Uj kx tb2:=WC o1 of_x;have nb2_m:Uj km tb2:=WC o1 of_m;have nb2_0:Uj k0q1 tb2:=WC o1 of_0;have nb2_1:Uj k1q2 tb2:=WC o1 of_1;have nb2_6:Uj k3q6 tb2:=WC o1 of_6;have nb2_7:Uj k3q7 tb2:=WC o1 of_7;refine qV ?_;change Awp _ _ _ _ _ _ _;refine awp_rseq [0,5,6,7,9,11,12] (by rfl) fun K hK=>?_;simp+decide only[ev,putD,VM,VO,Ka,true_and,↓qh,qc,↓qG,Qb,qg qdt UW,Qz wz eb_3q6,qf,VX,Km,Jr,Nat.reduceAdd,qB,qi,qE,allLive,JS,hrvl];refine QO (by rfl) (by rfl) (c_member wz h6 Bc kx km mv mems op st sm rv rec ⟨by omega,c,es,nb,heBc,g3,hsBc⟩ (hms.mono bc_B) hml hmt (hrp.mono bc_E) (fun x hx=>by have:=hrps.1 x hx;omega) (by have:=hrps.2;omega) hm0.2.2.2 g7 g8 hop8 (fun h8=>hrec h8 sm.name.text)) fun x9q2 h9q2 hx9q2=>?_;obtain⟨tb0,st2,bv2,bf,htb0,hxr,rfl,hcase2⟩:=hx9q2;obtain⟨B2,hB2⟩:∃B2,B2=Qv Bc tb0:=⟨_,rfl⟩
   rw[<-hB2]at hxr;obtain⟨hfew2,c2,es2,nb2,he2,hop2,hs2⟩:=hxr;have hsB2:Sub Bc B2:=by rw[hB2];exact BH htb0
   have bB2:Sub B B2:=bc_B.trans hsB2;have hs2h:Sub B2 h9q2:=he2.above.trans hs2;have hs_h9q2:Sub B h9q2:=bB2.trans hs2h;have eb_x:h9q2 kx=some ⟨[mv, .map km,QH 1 nb2, .int .i64 st2.copies],0⟩:=hs2 _ _ he2.x;have eb_m:h9q2 km=some (XB c2 (es2.map opC)):=hs2 _ _ he2.m;have eb_0q1:=hs2h _ _ (hsB2 _ _ bc_0);have eb_1q2:=hs2h _ _ (hsB2 _ _ bc_1);have eb_3q6:=hs2h _ _ (hsB2 _ _ bc_6);have eb_3q7:=hs2h _ _ (hsB2 _ _ bc_7);have heB2:ExOk B kx km nb2 st2.names:=he2.down bB2;have hEB9:Sub (ZO B kx km mv c2 es2 nb2 st2.copies) h9q2:=(qcH bB2).trans hs2;have y0:ZO B kx km mv c2 es2 nb2 st2.copies k0q1=none:=he2.off (hsB2 _ _ bc_0) hf_0q1;have y7:ZO B kx km mv c2 es2 nb2 st2.copies k3q7=none:=he2.off (hsB2 _ _ bc_7) hf_3q7;have has9:hasB h9q2 tb2:=bc_tb.mono (hsB2.trans hs2h);have hbv2l:bv2.live=true:=by
    rcases hcase2 with⟨-,-,w3⟩|⟨-,inn,-,w3,-⟩
    ·rw[w3];rfl
    ·exact w3.live
   simp+decide only[ev,putD,VM,VO,Ka,true_and,↓qh,qc,↓QV,QI,QT,KX,J8,VX,Km,↓qd,qb,VX,Km,Jr,Nat.reduceAdd,QA];refine qo (by rfl) (by rfl) zqA QK (by rfl) (by rfl) zqD (Js _) (by first|rfl|(simp+decide only[ev,putD,VM,VO,Ka,VV,QG,JS,Vf,hvs,hrvs,XV,Zf,XF])) ?_;simp only[VV];simp+decide only[qa,ev,putD,VO,VN,Ka,setAt,VW,Ki,Jr,Nat.reduceAdd];apply hK;clear hK K;refine qL ?_;refine awp_rseq [0,5,6,7,9,11,12,40] (by rfl) fun K hK=>?_;simp+decide only[qa,ev,qH,qF,putD,VM,VO,VN,Ka,true_and,↓qG,Qb,qg Xv QK,↓Qr,↓qY,ZV,evP,Vj,↓qA,ql,qZ,cond_false,YG,qna,QP,qf,VX,Km,Jr,Nat.reduceAdd,qi,allLive,JS,Ua];apply hK;clear hK K;refine qK (b:=_) rfl (fun hb3=>?_) (fun hb3=>?_)
   ·try simp only[decide_eq_false_iff_not,Ji]at hb3
    obtain⟨w1,w2,w3⟩:bf≠okF/\qbe true mems op rec sm st= .bad bf/\bv2= .nilSlice:=by
     rcases hcase2 with z|⟨z,-⟩
     ·exact z
     ·exact absurd z hb3
    rw[w2]at hstp;simp only at hstp;refine Zi 2 [4,5] mixed (by kernel_rfl) (by rfl) (by rfl) fun K hK=>?_;simp+decide only[ev,qH,qF,putD,VM,VO,Ka,true_and,↓qG,Qb,qg Xv QK,↓qd,qb,QP,qf,VX,Km,Jr,Nat.reduceAdd,qi,allLive,JS];refine qo (by rfl) (by rfl) zqA QK (by rfl) (by rfl) zqD (Js _) (by first|rfl|(simp+decide only[ev,putD,VM,VO,Ka,VV,QG,JS,Vf,hvs,hrvs,XV,Zf,XF])) ?_;simp only[VV];simp+decide only[qa,ev,putD,VO,VN,Ka,setAt,VW,Ki,Jr,Nat.reduceAdd];apply hK;clear hK K;refine qN ?_;try simp only[Qf,Qu]
    refine QS (?_) ?_
    ·simp+decide only[QC,qw,qj,VO,Ka,and_true,qw,qj,qg Xv QK,Qc,qf,VX,Km,Jr,Nat.reduceAdd,qi,allLive,JS,qf,VX,Km,Jr,Nat.reduceAdd,qi,allLive,JS]
    simp+decide only[VO,Ka,Xi,qw,qj,qg Xv QK,Qc,qf,VX,Km,Jr,Nat.reduceAdd,qi,allLive,JS,qf,VX,Km,Jr,Nat.reduceAdd,qi,allLive,JS];exact⟨_,Vl _,none,st2, .nilSlice,bf,trivial,⟨hfew2,c2,es2,nb2,heB2,hop2,V3 (V3 hEB9 y7) y0⟩,rfl, .inl ⟨w1,hstp,rfl⟩⟩
   ·try simp only[decide_eq_true_eq,VS]at hb3
    obtain⟨w1,inn,w2,w3,w4,w5,w6⟩:bf=okF/\∃inn,qbe true mems op rec sm st= .ok inn st2/\IsL wz (Qv (fun _=>none) tb0) 5 bv2 (inn.map QJ)/\inn.length<=200000/\st2.names.length<=st2.copies/\st2.copies<=4096:=by
     rcases hcase2 with⟨z,-⟩|z
     ·exact absurd (by simpa using hb3) z
     ·exact z
    rw[w2]at hstp;simp only at hstp;refine qV ?_;change Awp _ _ _ _ _ _ _;obtain⟨C12,hC12⟩:∃C12,C12=h9q2.set k3q7 ⟨[.int .i64 bf.e, .int .i64 bf.line, .int .i64 bf.col],0⟩:=⟨_,rfl⟩
    refine BG (h':=C12) (by rw[hC12];exact Vl _) ?_;have hs_C12:Sub B C12:=by rw[hC12];exact zqB
    have eb_x:C12 kx=some ⟨[mv, .map km,QH 1 nb2, .int .i64 st2.copies],0⟩:=by rw[hC12];exact zqA
    have eb_m:C12 km=some (XB c2 (es2.map opC)):=by rw[hC12];exact zqA
    have eb_0q1:C12 k0q1=some ⟨[.int .i64 0, .int .i64 0, .int .i64 0],0⟩:=by rw[hC12];exact zqA
    have eb_1q2:C12 k1q2=some ⟨[v, .int .i64 j],0⟩:=by rw[hC12];exact zqA
    have eb_3q6:C12 k3q6=some ⟨[.int .u8 sm.name.kind.toNat, .str sm.name.text, .int .i64 sm.name.line, .int .i64 sm.name.col, .bool sm.name.left,rv],0⟩:=by rw[hC12];exact(Vb _ _ ne_3q7_3q6.symm).trans eb_3q6
    have has12:hasB C12 tb2:=by rw[hC12];exact has9.set nb2_7 _
    obtain⟨p1,p2⟩:=qmY o1 has12;have pf_x:=Uy eb_x nb2_x;have pf_m:=Uy eb_m nb2_m;have pf_0:=Uy eb_0q1 nb2_0;have pf_1:=Uy eb_1q2 nb2_1;have pf_6:=Uy eb_3q6 nb2_6;have w3':IsL wz C12 5 bv2 (inn.map QJ):=w3.mono (fun j d hj=>by
     cases tb0 with
     |none=>cases hj
     |some b=>
      have hjb:j=b.blk:=by
       rcases Nat.decEq j b.blk with e|e
       ·rw[show Qv (fun _=>none) (some b)=Bd (fun _=>none) b.blk ⟨b.cells,0⟩from rfl,Vb _ _ e]at hj
        cases hj
       ·exact e
      have h7:j≠k3q7:=fun e=>by
       have:=htb0.1;rw[<-hjb,e,bc_7]at this;cases this
      rw[hC12,Vb _ _ h7];refine hs2h _ _ ?_;rw[hB2];exact En (qdF _) _ _ hj)
    refine awp_rseq [0,5,6,7,9] (by rfl) fun K hK=>?_;simp+decide only[ev,putD,VM,VO,Ka,true_and,↓qh,qc];refine Xw (es:=5) (zs:=(out++bl).map QJ) (xs:=inn.map QJ) (hZ:=qaS C12 tb2) (b:=tb2) (by rfl) (by rfl) Tryz.underlying26 Tryz.underlying26 (fun k e=>by cases e) QW qhn UO (by rfl) (by decide) (by rfl) p1 (by rw[o2,Ba]) Xj p2 (by rfl) w3' (by rw[WV];intro z hz;obtain⟨t,_,rfl⟩:=JG.1 hz;rfl) (by simp;omega) (by simp;omega) fun tb3 h12 o4 o5 o6=>?_;have sub12:Sub (qaS C12 tb2) h12:=(BH o4).trans o6;have hs_h12:Sub B h12:=(qcC hs_C12 (o1.sub of_B)).trans sub12;have eb_x:=sub12 _ _ pf_x;have eb_m:=sub12 _ _ pf_m;have eb_0q1:=sub12 _ _ pf_0;have eb_1q2:=sub12 _ _ pf_1;have eb_3q6:=sub12 _ _ pf_6;have hbl:=QY 5 tb3;have nbl3:=Ze (l:=out++bl++inn) (BF (wz:=wz) o4 (by decide) (by rw[o5,Ba (l₁:=out++bl)]) Xj (Vl _));simp+decide only[qa,ev,putD,VM,VO,VN,Ka,true_and,↓qd,qb];apply hK;clear hK K;refine awp_rseq [0,5,6,7,9,47] (by rfl) fun K hK=>?_;simp+decide only[qa,ev,qH,qF,putD,VM,VO,VN,Ka,true_and,↓qh,qc,↓Xt,QD,↓qA,ql,qC,cond_false,qp,UE,nbl3];apply hK;clear hK K;refine qK (b:=_) rfl (fun hb4=>?_) (fun hb4=>?_)
    ·try simp only[decide_eq_true_eq]at hb4
     rw[<-m6,if_pos (by unfold qcT;rw[Vf,decide_eq_true_eq];omega)]at hstp;refine Zi 5 [4,5] mixed (by kernel_rfl) (by rfl) (by rfl) fun K hK=>?_;simp+decide only[ev,qH,qF,putD,VM,VO,Ka,true_and,↓qD,qm,qoE,qhf,↓qG,Qb,qg qfF qbc,↓Qr,↓qY,UB,evP,Kc,Vj,↓qd,qb,Qz wz eb_3q6,qf,VX,Km,Jr,Nat.reduceAdd,qi,allLive,JS];refine qo (by rfl) (by rfl) zqA QK (by rfl) (by rfl) zqD (Js _) (by first|rfl|(simp+decide only[ev,putD,VM,VO,Ka,VV,QG,JS,Vf,hvs,hrvs,XV,Zf,XF])) ?_;simp only[VV];simp+decide only[qa,ev,putD,VO,VN,Ka,setAt,VW,Ki,Jr,Nat.reduceAdd];apply hK;clear hK K;refine qN ?_;try simp only[Qf,Qu]
     refine QS (?_) ?_
     ·simp+decide only[QC,qw,qj,VO,Ka,and_true,qw,qj,qg Xv QK,Qc,qf,VX,Km,Jr,Nat.reduceAdd,qi,allLive,JS,qf,VX,Km,Jr,Nat.reduceAdd,qi,allLive,JS]
     simp+decide only[VO,Ka,Xi,qw,qj,qg Xv QK,Qc,qf,VX,Km,Jr,Nat.reduceAdd,qi,allLive,JS,qf,VX,Km,Jr,Nat.reduceAdd,qi,allLive,JS];have hEB12:Sub (ZO B kx km mv c2 es2 nb2 st2.copies) (qaS C12 tb2):=qcC (by rw[hC12];exact V3 hEB9 y7) (qjC o1 fun b e=>he2.off (hsB2 _ _ (bc_tb b e)) (by subst e;exact of_B.none o1.1));exact⟨_,Vl _,none,st2, .nilSlice,⟨3,sm.name.line,sm.name.col⟩,trivial,⟨hfew2,c2,es2,nb2,heB2,hop2,V3 (hEB12.trans sub12) y0⟩,rfl, .inl ⟨fun e=>absurd (congrArg FaultC.e e) (by simp[okF]),hstp,rfl⟩⟩
    ·try simp only[decide_eq_false_iff_not]at hb4
     rw[<-m6,if_neg (by unfold qcT;rw[Vf,decide_eq_true_eq];omega),<-m5]at hstp;refine qV ?_;try simp only[Qi,YO]
     have hG2:Sub ((B.set k0q1 ⟨[.int .i64 0, .int .i64 0, .int .i64 0],0⟩).set k1q2 ⟨[v, .int .i64 j],0⟩) B2:=qiw (qiw bB2 (hsB2 _ _ bc_0)) (hsB2 _ _ bc_1);have hGC:Sub (ZO ((B.set k0q1 ⟨[.int .i64 0, .int .i64 0, .int .i64 0],0⟩).set k1q2 ⟨[v, .int .i64 j],0⟩) kx km mv c2 es2 nb2 st2.copies) (qaS C12 tb2):=by
      refine qcC (by rw[hC12];exact V3 ((qcH hG2).trans hs2) (he2.off (hsB2 _ _ bc_7) ((Vb _ _ ne_3q7_1q2).trans ((Vb _ _ ne_3q7_0q1).trans hf_3q7)))) (qjC o1 fun b e=>he2.off (hsB2 _ _ (bc_tb b e)) ?_);subst e;exact(Vb _ _ (Ne.symm nb2_1)).trans ((Vb _ _ (Ne.symm nb2_0)).trans (of_B.none o1.1))
     exact⟨⟨j,c2,es2,nb2,st2,tb3,out++bl++inn⟩,rfl,(En hGC).trans o6,⟨hj,fun Y=>(he2.down hG2).same (qgR _ _),hop2,fun Y=>qjB (o4.sub hGC) (qrP (qgR _ _)),by rw[o5,Ba (l₁:=out++bl)],by simp only;omega,w5,w6,hstp.symm⟩,by simp only;omega⟩
end Go.Proofs.YtlhhaagmakhilaaGreatDoor
namespace Go.Proofs.YtlhhaagmakhilaaGreatDoor
open Go.AM
open Go.Proofs
open Go.Col (Str FaultC okF)
open Go.Tok
open Go.Cop
open Go.RowKit (Below)
set_option maxRecDepth 100000
theorem c_list(wz:World)(kx km:Nat)(mv:AVal)(mems:List MemC)(hml:mems.length<=1000000)(hmt:∀m∈mems,m.toks.length<=100000):∀(d:Nat) (op:List Str),8<=d+op.length->RecOk wz kx km mv mems op (qne true mems d)
 |0,op,hd=>fun h8 h B v l st hx hms hv hl h1 h2=>qpR wz h B kx km mv mems op st v l (fun _ _ st=> .ok [] st) hx hms hml hmt hv hl h1 h2 h8 (fun hlt=>by omega)
 |d+1,op,hd=>fun h8 h B v l st hx hms hv hl h1 h2=>qpR wz h B kx km mv mems op st v l (qne true mems d) hx hms hml hmt hv hl h1 h2 h8 (fun hlt nm=>c_list wz kx km mv mems hml hmt d (op++[nm]) (by rw[Jb,JR];omega))
theorem okCapG{wz:World}{h:AHeap}{es:Nat}{v:AVal}{xs:List (List AVal)}(hes:0<es)(hb:IsL wz h es v xs):(Yd v).okIn (fun k=>(h k).isSome):=by
 cases hb with
 |nil=>simp only[Yd,Bb]
 |mk l o n c xs hn hw hc hl hcap=>
  cases l with
  |base b=>simp only[Yd,Bb]
  |own k=>
   simp only[Yd,Bb];intro h0;cases hk:h k with
   |some b=>rfl
   |none=>
    obtain⟨m,rfl⟩:∃m,n=m+1:=⟨n-1,by omega⟩
    obtain⟨e,rfl⟩:∃e,es=e+1:=⟨es-1,by omega⟩
    rw[show(m+1)*(e+1)=(m*(e+1)+e)+1 by rw[Nat.succ_mul];omega,qf]at hc;rw[<-hc]at hl;simp[allLive,rd,hk,AVal.live]at hl
theorem qfP{H:AHeap}{tb:Option Buf}(hh:hasB H tb):Sub (Qv (fun _=>none) tb) H:=fun j d hj=>by
 cases tb with
 |none=>cases hj
 |some b=>
  rcases Nat.decEq j b.blk with e|e
  ·rw[show Qv (fun _=>none) (some b)=Bd (fun _=>none) b.blk ⟨b.cells,0⟩from rfl,Vb _ _ e]at hj
   cases hj
  ·subst e
   rw[show Qv (fun _=>none) (some b)=Bd (fun _=>none) b.blk ⟨b.cells,0⟩from rfl,Vd]at hj;rw[<-hj];exact hh b rfl
theorem qpF{wz:World}{h:AHeap}{v:AVal}{l:List Str}(hv:IsL wz h 1 v (l.map qha)):∀H:AHeap,Yn Tryz.prog H 30 v=⟨True, .int .i64 l.length⟩:=by
 have:=hv.len Tryz.underlying30
 rwa [Jo]at this
theorem c_clipN(wz:World)(h:AHeap)(v:AVal)(l:List Str)(hv:IsL wz h 1 v (l.map qha)):ACall Tryz.prog wz 34 [v] h (fun r h'=>r=Yd v/\h'=h):=by
 have hlen:=qpF hv;have h3:=hv.slice3 Tryz.underlying30 sz9 .i64 .i64 none rfl;rw[Jo]at h3;have hlv:=hv.live;refine qP (n:=9) (rs:=[.tmp 2]) Tryz.func34 rfl rfl rfl rfl (VL rfl) ?_;simp only[Qd];refine awp_rseq [0] (by rfl) fun K hK=>?_;simp+decide only[qa,ev,qH,qF,putD,VM,VN,Ka,true_and,↓qd,qb];apply hK;clear hK K;refine awp_rseq [2] (by rfl) fun K hK=>?_;simp+decide only[qa,ev,putD,VM,VO,VN,Ka,true_and,↓qh,qc,↓Xt,QD,↓WU,Zt,evO,↓qd,qb,hlen,h3];apply hK;clear hK K;refine qN ?_;refine qW _ (Vl _) (qR (Qa)) ?_;simp+decide only[VO,if_true,and_true,Ql];all_goals first|rfl|exact⟨rfl,rfl⟩|(simp+decide only[Ka, *];done)|(trace_state;fail)
def ExpandR(wz:World)(h:AHeap)(x:Xr)(r:AVal)(h':AHeap):Prop:=
 ∃(ov nv:AVal) (f:FaultC),r= .tuple [ov,nv,QA f]/\Sub h h'/\Yd ov=ov/\Yd nv=nv/\((f≠okF/\x= .bad f/\ov= .nilSlice/\nv= .nilSlice)\/(f=okF/\∃out st,x= .ok out st/\IsL wz h' 5 ov (out.map QJ)/\IsL wz h' 1 nv (st.names.map qha)/\out.length<=200000/\st.names.length<=4096))
set_option maxHeartbeats 2000000 in
theorem qjz(wz:World)(h:AHeap)(lv mv:AVal)(l:List TokC)(mems:List MemC)(hlv:IsL wz h 5 lv (l.map QJ))(hms:IsMems wz h mv mems)(hl:l.length<=100000)(hml:mems.length<=1000000)(hmt:∀m∈mems,m.toks.length<=100000):
 ACall Tryz.prog wz 13 [lv,mv] h (ExpandR wz h (qbk true l mems)):=by
 have hll:=hlv.live;obtain⟨qs,hqs,hq2,hq3⟩:=hms;have hmvs:=hq2.scal;have hmvl:=YF hmvs;have hSm:Sc mv=True:=eq_true (isL_Sc hq2);have hSk:∀k,Sc (.map k)=True:=fun k=>eq_true trivial;have hbvl:(AVal.bool true).live=true:=rfl;have hbnl:(AVal.bool true).live=true:=rfl;have hccl:∀v:AVal,v.live=true->(Yd v).live=true:=fun v hv=>by cases v<;>exact hv
 have hc1:(AVal.bool true).live=true:=rfl;have hc2:(AVal.bool true).live=true:=rfl;obtain⟨X,hX⟩:∃X,X=qbk true l mems:=⟨_,rfl⟩
 rw[<-hX];refine qP (n:=28) (rs:=[.tmp 4, .tmp 5, .cell 6 35]) Tryz.func13 rfl rfl rfl rfl (VL rfl) ?_;simp only[Qd];refine awp_rseq [0,1,6] (by rfl) fun K hK=>?_;simp+decide only[ev,qH,qF,putD,VM,if_false,true_and,↓qd,qb,Jr];refine Qk qbT (cs:=[.int .i64 0, .int .i64 0, .int .i64 0]) (by rfl) fun k0q2 hk0q2=>?_;try have hf_0q2:h k0q2=none:=by first|assumption|(simp only[V7]at hk0q2;simp only[hk0q2])
 simp+decide only[qa,putD,VM,VN,Ka];apply hK;clear hK K;refine awp_rseq [0,6,7] (by rfl) fun K hK=>?_;simp+decide only[ev,putD,VM,VO,Ka,true_and,↓qh,qc];refine qmo fun k1q1 hk1q1=>?_;have ne_1q1_0q2:k1q1≠k0q2:=by simp only[V7]at hk1q1;simp only[hk1q1,ne_eq,not_false_eq_true]
 try have hf_1q1:h k1q1=none:=by first|assumption|(simp only[V7]at hk1q1;simp only[hk1q1])
 simp+decide only[ev,qH,qF,putD,VM,VO,Ka,true_and,↓Qr,↓qY,qsl,evP,Kc,Vj,hSm,hSk];refine Qk ze76 (cs:=[.nilSlice, .nilMap, .nilSlice, .int .i64 0]) (by rfl) fun k1q3 hk1q3=>?_;have ne_1q3_0q2:k1q3≠k0q2:=by simp only[V7]at hk1q3;simp only[hk1q3,ne_eq,not_false_eq_true]
 have ne_1q3_1q1:k1q3≠k1q1:=by simp only[V7]at hk1q3;simp only[hk1q3,ne_eq,not_false_eq_true]
 try have hf_1q3:h k1q3=none:=by first|assumption|(simp only[V7]at hk1q3;simp only[hk1q3])
 refine qo (by rfl) (by rfl) zqA sz76 (by rfl) (by rfl) zqD (Js _) (by first|rfl|(simp+decide only[ev,putD,VM,VO,Ka,VV,QG,JS,Vf,hmvs,XV,qlm])) ?_;simp only[Vh,VV];simp+decide only[qa,ev,putD,VM,VO,VN,Ka,setAt,VW,Ki,Jr,Nat.reduceAdd];apply hK;clear hK K;obtain⟨B,hB⟩:∃B,B=h.set k0q2 ⟨[.int .i64 0, .int .i64 0, .int .i64 0],0⟩:=⟨_,rfl⟩
 have hs_hB:Sub h B:=by rw[hB];exact Vg hf_0q2
 have b_m:B k1q1=none:=by rw[hB];exact(Vb _ _ ne_1q1_0q2).trans hf_1q1
 have b_x:B k1q3=none:=by rw[hB];exact(Vb _ _ ne_1q3_0q2).trans hf_1q3
 have b_0:B k0q2=some ⟨[.int .i64 0, .int .i64 0, .int .i64 0],0⟩:=by rw[hB];exact Vd _ _ _
 have heB:ExOk B k1q3 k1q1 none []:=⟨b_m,b_x,ne_1q3_1q1.symm,fun M=>⟨(Vb _ _ ne_1q3_1q1).trans b_x,fun _=>trivial,rfl⟩⟩
 rw[<-hB];have hlist:=c_list wz k1q3 k1q1 mv mems hml hmt 8 [] (by simp) (by simp);refine awp_rseq [6,7,8,9] (by rfl) fun K hK=>?_;simp+decide only[ev,putD,VM,VO,Ka,true_and,↓qh,qc];refine QO (by rfl) (by rfl) (hlist _ B lv l ⟨[],0⟩ ⟨Js _,0,[],none,heB,rfl,Vl _⟩ ⟨qs,hqs,hq2.mono hs_hB,fun q hq=>(hq3 q hq).mono hs_hB⟩ (hlv.mono hs_hB) hl (KJ _) (by decide)) fun x2q1 h2q1 hx2q1=>?_;obtain⟨tb,st,bv,bf,htb,⟨hfew,c2,es2,nb,he2,hop2,hs2⟩,rfl,hcase⟩:=hx2q1;rw[show qne true mems 8 l [] ⟨[],0⟩=X from hX.symm]at hcase;have hs2h:Sub (Qv B tb) h2q1:=he2.above.trans hs2;have hs_h2q1:Sub h h2q1:=(hs_hB.trans (BH htb)).trans hs2h;have eb_1q3:h2q1 k1q3=some ⟨[mv, .map k1q1,QH 1 nb, .int .i64 st.copies],0⟩:=hs2 _ _ he2.x;have eb_0q2:h2q1 k0q2=some ⟨[.int .i64 0, .int .i64 0, .int .i64 0],0⟩:=hs2h _ _ (ZU htb b_0);have hbvl:bv.live=true:=by
  rcases hcase with⟨-,-,w3⟩|⟨-,inn,-,w3,-⟩
  ·rw[w3];rfl
  ·exact w3.live
 have hbnl:=QY 1 nb;have hc1:=hccl bv hbvl;have hc2:=hccl _ hbnl;simp+decide only[ev,putD,VM,VO,Ka,true_and,↓qh,qc,↓QV,QI,QT,KX,J8,VX,Km,VX,Km,Jr,Nat.reduceAdd,QA];refine Qk qbT (cs:=[.int .i64 0, .int .i64 0, .int .i64 0]) (by rfl) fun k2q5 hk2q5=>?_;have hn_2q5:h2q1 k2q5=none:=by first|assumption|(simp only[V7]at hk2q5;simp only[hk2q5])
 have hf_2q5:h k2q5=none:=Bg hs_h2q1 hn_2q5;have ne_2q5_1q3:k2q5≠k1q3:=Bh hn_2q5 eb_1q3;have ne_2q5_0q2:k2q5≠k0q2:=Bh hn_2q5 eb_0q2;simp+decide only[ev,putD,VM,VO,Ka,true_and,↓qd,qb];refine qo (by rfl) (by rfl) zqA QK (by rfl) (by rfl) zqD (Js _) (by first|rfl|(simp+decide only[ev,putD,VM,VO,Ka,VV,QG,JS,Vf,hmvs,XV,Zf,XF,qlm])) ?_;simp only[Vh,VV];simp+decide only[qa,ev,putD,VO,VN,Ka,setAt,VW,Ki,Jr,Nat.reduceAdd];apply hK;clear hK K;refine qL ?_;refine awp_rseq [6,7,8,9,20] (by rfl) fun K hK=>?_;simp+decide only[qa,ev,qH,qF,putD,VM,VO,VN,Ka,true_and,↓qG,Qb,qg Xv QK,↓Qr,↓qY,ZV,evP,Vj,↓qA,ql,qZ,cond_false,YG,qna,QP,qf,VX,Km,Jr,Nat.reduceAdd,qi,allLive,JS,Ua];apply hK;clear hK K;refine qK (b:=_) rfl (fun hb1=>?_) (fun hb1=>?_)
 ·try simp only[decide_eq_false_iff_not,Ji]at hb1
  have hXb:X= .bad bf:=by
   rcases hcase with⟨-,z,-⟩|⟨z,-⟩
   ·exact z
   ·exact absurd z hb1
  refine Zi 3 [4,5,6] mixed (by kernel_rfl) (by rfl) (by rfl) fun K hK=>?_;simp+decide only[ev,qH,qF,putD,VM,VO,Ka,true_and,↓qG,Qb,qg Xv QK,↓qd,qb,QP,qf,VX,Km,Jr,Nat.reduceAdd,qi,allLive,JS];refine qo (by rfl) (by rfl) zqA QK (by rfl) (by rfl) zqD (Js _) (by first|rfl|(simp+decide only[ev,putD,VM,VO,Ka,VV,QG,JS,Vf,hmvs,XV,Zf,XF,qlm])) ?_;simp only[VV];simp+decide only[qa,ev,putD,VO,VN,Ka,setAt,VW,Ki,Jr,Nat.reduceAdd];apply hK;clear hK K;refine qN ?_;try simp only[Qf]
  refine QS (?_) ?_
  ·simp+decide only[QC,qw,qj,VO,Ka,and_true,qw,qj,qg Xv QK,Qc,qf,VX,Km,Jr,Nat.reduceAdd,qi,allLive,JS,qf,VX,Km,Jr,Nat.reduceAdd,qi,allLive,JS]
  simp+decide only[VO,Ka,QF,qw,qj,qg Xv QK,Qc,qf,VX,Km,Jr,Nat.reduceAdd,qi,allLive,JS,qf,VX,Km,Jr,Nat.reduceAdd,qi,allLive,JS];exact⟨_,Vl _, .nilSlice, .nilSlice,bf,rfl,zqB,rfl,rfl, .inl ⟨hb1,hXb,rfl,rfl⟩⟩
 ·try simp only[decide_eq_true_eq,VS]at hb1
  obtain⟨hf0,inn,w2,w3,w4,w5,w6⟩:bf=okF/\∃inn,X= .ok inn st/\IsL wz (Qv (fun _=>none) tb) 5 bv (inn.map QJ)/\inn.length<=200000/\st.names.length<=st.copies/\st.copies<=4096:=by
   rcases hcase with⟨z,-⟩|z
   ·exact absurd (by simpa using hb1) z
   ·exact z
  have hasT:hasB h2q1 tb:=(qjg B tb).mono hs2h;have hasN:hasB h2q1 nb:=(qjg _ nb).mono hs2;have nT:Uj k0q2 tb:=WC htb b_0;have nN:Uj k0q2 nb:=(qdZ he2 (ZU htb b_0)).2.2;have hun:=he2.use ⟨[],0⟩;have w7:IsL wz (Qv (fun _=>none) nb) 1 (QH 1 nb) (st.names.map qha):=BF ((hun.ok ⟨[],0⟩).sub (qdF _)) (by decide) hun.eq qgZ (Vl _);have w3h:=w3.mono (qfP hasT);have w7h:=w7.mono (qfP hasN);refine qV ?_;change Awp _ _ _ _ _ _ _;obtain⟨C5,hC5⟩:∃C5,C5=h2q1.set k2q5 ⟨[.int .i64 bf.e, .int .i64 bf.line, .int .i64 bf.col],0⟩:=⟨_,rfl⟩
  refine BG (h':=C5) (by rw[hC5];exact Vl _) ?_;have hs_C5:Sub h C5:=by rw[hC5];exact zqB
  have eb_1q3:C5 k1q3=some ⟨[mv, .map k1q1,QH 1 nb, .int .i64 st.copies],0⟩:=by rw[hC5];exact zqA
  have eb_0q2:C5 k0q2=some ⟨[.int .i64 0, .int .i64 0, .int .i64 0],0⟩:=by rw[hC5];exact zqA
  have hs25:Sub h2q1 C5:=by rw[hC5];exact Vg hn_2q5
  have hok1:(Yd bv).okIn (fun k=>(C5 k).isSome):=okCapG (by decide) (w3h.mono hs25);have hok2:(Yd (QH 1 nb)).okIn (fun k=>(C5 k).isSome):=okCapG (by decide) (w7h.mono hs25);refine YM 8 [] [4,5,6] mixed (by kernel_rfl) (by rfl) fun K hK=>?_;simp only[Kh,V6,VB,KP];simp+decide only[ev,putD,VM,VO,Ka,true_and,↓XD,qc];refine Xf (V:=Yd bv) (by rfl) (by rfl) (by first|trivial|(simp+decide only[Bb,Xu,and_true,true_and,QA,YR,Vd,JJ];done)|(simp[Bb,Xu,Bd];done)) (fun g hg=>qmd wz _ _ (inn.map QJ) (w3h.mono (BJ hs25 hg))) ?_;simp+decide only[ev,putD,VM,VO,Ka,true_and,↓ZG,qm,qlN,↓Zn,Xz,qz ag30,Qz wz eb_1q3,VX,Km,Jr,hbnl];refine Xf (V:=Yd (QH 1 nb)) (by rfl) (by rfl) (by first|trivial|(simp+decide only[Bb,Xu,and_true,true_and,QA,YR,Vd,JJ];done)|(simp[Bb,Xu,Bd];done)) (fun g hg=>c_clipN wz _ _ st.names (w7h.mono (BJ hs25 hg))) ?_;simp+decide only[Yl,ev,qH,qF,putD,VM,VO,Ka,true_and,↓Un,↓qY,ZV,evP,Vj,↓qay,qb];refine qo (by rfl) (by rfl) zqA QK (by rfl) (by rfl) zqD (Js _) (by first|rfl|(simp+decide only[ev,putD,VM,VO,Ka,VV,QG,JS,Vf,hmvs,XV,Zf,XF,qlm])) ?_;simp only[VV];simp+decide only[qa,ev,putD,VO,VN,Ka,setAt,VW,Ki,Jr,Nat.reduceAdd];apply hK;clear hK K;refine qN ?_;refine QS (?_) ?_
  ·simp+decide only[QC,qw,qj,VO,Ka,and_true,qw,qj,qg Xv QK,Qc,qf,VX,Km,Jr,Nat.reduceAdd,qi,allLive,JS,qf,VX,Km,Jr,Nat.reduceAdd,qi,allLive,JS]
  simp+decide only[VO,Ka,QF,qw,qj,qg Xv QK,Qc,qf,VX,Km,Jr,Nat.reduceAdd,qi,allLive,JS,qf,VX,Km,Jr,Nat.reduceAdd,qi,allLive,JS];refine⟨_,Vl _,Yd bv,Yd (QH 1 nb),okF,rfl,zqB,qfy _,qfy _, .inr ⟨rfl,inn,st,w2,?_,?_,w4,by omega⟩⟩
  ·exact(w3.mono (qfP ((hasT.mono hs25).set nT _))).clip
  ·exact(w7.mono (qfP ((hasN.mono hs25).set nN _))).clip
end Go.Proofs.YtlhhaagmakhilaaGreatDoor
namespace Go.Proofs.YtlhhaagmakhilaaGreatDoor
open Go.AM
open Go.Proofs
open Go.Col (Str FaultC okF)
open Go.Tok
open Go.Cop
open Go.RowKit (Below)
set_option maxRecDepth 100000
end Go.Proofs.YtlhhaagmakhilaaGreatDoor
namespace Go.Proofs.YtlhhaagmakhilaaGreatDoor
open Go.AM
open Go.Proofs
open Go.Col
open Go.Tok
open Go.RowKit (Below)
set_option maxRecDepth 100000
def qcM:Str->Str
 |[]=>[]
 |b::s=>if b=34 then 34::34::qcM s else b::qcM s
theorem qnt:∀a b:Str,qcM (a++b)=qcM a++qcM b
 |[],_=>rfl
 |x::a,b=>by
  rw[Kg,qcM,qcM,qnt a b];split<;>rfl
theorem qhk:∀{a:Str},(34:UInt8)∉a->qcM a=a
 |[],_=>rfl
 |x::a,h=>by
  simp only[KW,not_or]at h;rw[qcM,if_neg (fun e=>h.1 e.symm),qhk h.2]
theorem qns(s:Str):(qcM s).length<=2*s.length:=by
 induction s with
 |nil=>exact KJ _
 |cons b s ih=>
  rw[qcM];split<;>simp only[KX]<;>omega
theorem qpv:∀(n:Nat) (s:Str),s.length<=n->Lib.replaceK [34] [34,34] (Lib.count s [34]) s=qcM s
 |0,s,h=>by
  have:s=[]:=Ke (by omega);subst this;rfl
 |n+1,s,h=>by
  rcases index_one s 34 with⟨h1,h2⟩|⟨i,h1,h2,h3,h4⟩
  ·rw[Lib.count_miss h1,qhk h2]
   rfl
  ·have hc:Lib.count s [34]=Lib.count (s.drop (i+1)) [34]+1:=by
    have:=Lib.count_hit (s:=s) (sub:=[34]) (i:=i) (by decide) h1;rw[this,Nat.add_comm];rfl
   rw[hc,Lib.replaceK_hit _ _ _ _ i h1];have ih:=qpv n (s.drop (i+1)) (by rw[K5];omega);show s.take i++[34,34]++Lib.replaceK [34] [34,34] (Lib.count (s.drop (i+1)) [34]) (s.drop (i+1))=_
   rw[ih];conv=>rhs;rw[h3,qnt,qhk h4,qcM,if_pos rfl]
   simp
theorem qsH(s:Str):Lib.count s [34]<=s.length:=by
 have:∀(n:Nat) (s:Str),s.length<=n->Lib.count s [34]<=s.length:=by
  intro n;induction n with
  |zero=>
   intro s h;have:s=[]:=Ke (by omega);subst this;exact KJ _
  |succ n ih=>
   intro s h;rcases index_one s 34 with⟨h1,h2⟩|⟨i,h1,h2,h3,h4⟩
   ·rw[Lib.count_miss h1];exact Js _
   ·rw[Lib.count_hit (s:=s) (sub:=[34]) (i:=i) (by decide) h1]
    have:=ih (s.drop (i+[34].length)) (by rw[K5];simp;omega);rw[K5]at this;simp only[KX,J8]at this|-
    omega
 exact this _ s (KJ _)
theorem c_dbl(wz:World)(hm:MaxL wz)(h:AHeap)(s:Str)(hl:s.length<=100000000):ACall Tryz.prog wz 54 [.str s, .str [34], .str [34,34]] h (fun v h'=>v= .str (qcM s)/\h'=h):=by
 obtain⟨m,hm⟩:=hm;have hlt:0<wz.heap.size:=qil hm;refine qid (vals:=[.string ⟨⟨s⟩⟩, .string ⟨⟨[34]⟩⟩, .string ⟨⟨[34,34]⟩⟩]) (val:= .string ⟨⟨qcM s⟩⟩) Tryz.func54 rfl rfl (fun fi vs hv=>?_) (fun fi=>rfl) fun w hb=>?_
 ·simp only[VRs,VR]at hv
  obtain⟨v,vs',rfl,rfl,v2,vs2,rfl,rfl,v3,vs3,rfl,rfl,rfl⟩:=hv;rfl
 ·have hw:w.cell? ⟨0,0,none⟩=some (.int .i64 m):=(hb.cell (p:=⟨0,0,none⟩) hlt).trans hm
  have hcn:Lib.countB ⟨⟨s⟩⟩ ⟨⟨[34]⟩⟩<=s.length:=by
   have h1:=qsH s;exact h1
  refine(Tryz.strings_ReplaceAll ⟨⟨s⟩⟩ ⟨⟨[34]⟩⟩ ⟨⟨[34,34]⟩⟩ m w (by show s.length<_;omega) hw (by decide) (by show s.length+_*2<=_;omega)).mono fun e w' ⟨e1,e2⟩=>⟨?_,e2⟩
  rw[e1];show Ending.returned (.string ⟨⟨Lib.replaceAll s [34] [34,34]⟩⟩)=_
  unfold Lib.replaceAll Lib.replace Lib.replaceNum;rw[if_neg (by decide),if_pos (.inl (by decide)),qpv _ _ (KJ _)]
def qaj(t:TokC):Str:=if t.kind=3 then 34::qcM t.text++[34]else if t.kind=6 then[46]else if t.kind=7 then[61,61]else t.text
def textE(l:List TokC):Str:=Lib.join (l.map qaj) [32]
theorem qrb(t:TokC):(qaj t).length<=2*t.text.length+2:=by
 have:=qns t.text;unfold qaj;split
 ·simp;omega
 split
 ·simp
 split
 ·simp
 ·omega
def qfT(s:Str):List AVal:=[.str s]
structure TxtOk(h:AHeap)(l:List TokC)(g:Nat×Option Buf):Prop where
 i:g.1<=l.length
 ok:bufOk h 1 g.2
 eq:Ws g.2=((l.take g.1).map fun t=>qfT (qaj t)).flatten
theorem qkE{sep:Str}{m:Nat}:∀{l:List Str},(∀x∈l,x.length<=m)->(Lib.join l sep).length<=l.length*(m+sep.length)
 |[],_=>by simp[Lib.join]
 |[x],h=>by
  have:=h x (by simp);simp[Lib.join];omega
 |x::y::l,h=>by
  have ih:=qkE (sep:=sep) (l:=y::l) fun z hz=>h z (by simp[hz]);have hx:=h x (by simp);have e:Lib.join (x::y::l) sep=x++sep++Lib.join (y::l) sep:=by
   unfold Lib.join;rw[List.intercalate_cons_cons]
  rw[e];simp only[Jb];have:(x::y::l).length*(m+sep.length)=(y::l).length*(m+sep.length)+(m+sep.length):=by
   rw[KX,Nat.add_mul,Nat.one_mul]
  omega
set_option maxHeartbeats 1000000 in
theorem c_Text(wz:World)(hm:MaxL wz)(h:AHeap)(v:AVal)(l:List TokC)(hv:IsL wz h 5 v (l.map QJ))(hl:l.length<=65536)(hb:∀t∈l,t.text.length<=100000000):
 ACall Tryz.prog wz 45 [v] h (fun r h'=>r= .str (textE l)/\h'=h):=by
 have hlv:=hv.live;have hlen:=Ze hv;refine qP (n:=42) (rs:=[.tmp 2]) Tryz.func45 rfl rfl rfl rfl (VL rfl) ?_;simp only[Qd];refine awp_rseq [0] (by rfl) fun K hK=>?_;simp+decide only[qa,ev,qH,qF,putD,VM,VN,Ka,true_and,↓qd,qb];apply hK;clear hK K;refine awp_rseq [0,3] (by rfl) fun K hK=>?_;simp+decide only[qa,ev,qH,qF,putD,VM,VN,Ka,true_and,↓qd,qb];apply hK;clear hK K;refine qL ?_;refine awp_rseq [3,6,7,8] (by rfl) fun K hK=>?_;simp+decide only[qa,ev,qH,qF,putD,VM,VO,VN,Ka,true_and,↓qh,qc,↓Xt,QD,hlen];apply hK;clear hK K;refine Qp ?_;refine XE [3,6,7,8] (fun g:Nat×Option Buf=>[(3,QH 1 g.2),(6,v),(7, .int .i64 l.length),(8, .int .i64 g.1)]) (fun g:Nat×Option Buf=>Qv h g.2) (fun g:Nat×Option Buf=>TxtOk h l g) (fun g:Nat×Option Buf=>l.length-g.1) (0,none) (by rfl) (Vl _) ⟨Js _,trivial,rfl⟩ ?_;rintro⟨i,b⟩ ⟨g1,g2,g3⟩;simp only at g1 g2 g3|-
 have hbs:=BH g2;refine awp_rseq [3,6,7,8,9] (by rfl) fun K hK=>?_;simp+decide only[qa,ev,putD,VM,VO,VN,Ka,true_and,↓qA,ql,qZ,cond_false,qp,Zc];apply hK;clear hK K;refine qL (qK (b:=_) rfl (fun hb1=>?_) (fun hb1=>?_))
 ·try simp only[decide_eq_true_eq]at hb1
  have hi:i<l.length:=by omega
  obtain⟨lc,o,c,rfl⟩:=Wy hv (by omega);obtain⟨e0,e1,e2,e3,e4⟩:=qar (hv.mono hbs) hi;obtain⟨t,ht⟩:∃t,t=l.getD i ZC:=⟨_,rfl⟩
  have htk:l.take (i+1)=l.take i++[t]:=by rw[VJ,Jz hi,ht];simp[Kn,hi]
  rw[<-ht]at e0 e1 e2 e3 e4;have htb:=hb t (by rw[ht,Kn,Jz hi];exact VH hi);have hdl:=qns t.text;refine qV ?_;change Awp _ _ _ _ _ _ _;refine qL ?_;refine Qp ?_;refine awp_rseq [3,5,6,7,8] (by rfl) fun K hK=>?_;simp+decide only[ev,putD,VM,VO,Ka,true_and,↓QN,Qb,Qh Tryz.underlying26 QW,↓qG,qg XY QW,qf,qB,qi,qE,allLive,JS,e0,e1,e2,e3,e4,Vq];repeat (with_reducible refine And.intro ?_ ?_;· first|trivial|omega|(intro hg;simp only[Kw,JV,Ji,VP,VQ,VS,decide_eq_true_eq,decide_eq_false_iff_not,XT]at hg;omega)|(simp only[Jb,Jo,Eo,Ep,K4,K5,KX,J8,Er,V4];omega))
  refine Qk UO (cs:=[.int .u8 0, .str [], .int .i64 0, .int .i64 0, .bool false]) (by rfl) fun k4q2 hk4q2=>?_;try have hf_4q2:h k4q2=none:=by first|assumption|(simp only[V7]at hk4q2;simp only[hk4q2])
  refine qo (by rfl) (by rfl) zqA QW (by rfl) (by rfl) zqD (Js _) (by rfl) ?_;simp only[Vh,VV];simp+decide only[qa,ev,putD,VM,VO,VN,Ka,setAt,VW,Ki,Jr,Nat.reduceAdd];apply hK;clear hK K;refine awp_rseq [3,5,6,7,8,13] (by rfl) fun K hK=>?_;simp+decide only[qa,ev,putD,VM,VO,VN,Ka,true_and,↓qD,qm,qjl,↓qG,Qb,qz qsp,QP,VX,Jr,qi];apply hK;clear hK K;refine Qp ?_;refine awp_rseq [3,5,6,7,8,13,19] (by rfl) fun K hK=>?_;simp+decide only[qa,ev,qH,qF,putD,VM,VO,VN,Ka,true_and,↓qA,ql,qC,cond_false,qp,XH,↓qd,qb];apply hK;clear hK K;refine qK (b:=_) rfl (fun hb2=>?_) (fun hb2=>?_)
  ·try simp only[decide_eq_true_eq]at hb2
   have hk:t.kind=3:=(Zg _ 3).mp hb2;have htx:qaj t=[34]++qcM t.text++[34]:=by unfold qaj;rw[if_pos hk];rfl
   refine XL [3,6,7,8] (by rfl) ?_;simp+decide only[ev,putD,VM,VO,Ka,true_and,↓qh,qc,↓qD,qm,qag,↓qG,Qb,qz ag9,QP,VX,Km,Jr,qE];refine qM (V:= .str (qcM t.text)) (by rfl) (by rfl) (c_dbl wz hm _ t.text htb) ?_;simp+decide only[ev,qH,qF,putD,VM,VO,Ka,↓qA,ql,qZ,cond_false,Zl,qfs,Wn];repeat (with_reducible refine And.intro ?_ ?_;· first|trivial|omega|(intro hg;simp only[Kw,JV,Ji,VP,VQ,VS,decide_eq_true_eq,decide_eq_false_iff_not,XT]at hg;omega)|(simp only[Jb,KX,J8];omega))
   refine Qn (cs:=[.str ([34]++qcM t.text++[34])]) (by kernel_rfl) fun k8q6 hk8q6=>?_;have ne_8q6_4q2:k8q6≠k4q2:=by simp only[V7]at hk8q6;simp only[hk8q6,ne_eq,not_false_eq_true]
   try have hf_8q6:h k8q6=none:=by first|assumption|(simp only[V7]at hk8q6;simp only[hk8q6])
   refine Xw (es:=1) (zs:=(l.take i).map fun t=>qfT (qaj t)) (xs:=[qfT ([34]++qcM t.text++[34])]) (hZ:=h) (b:=b) (by rfl) (by rfl) Tryz.underlying30 Tryz.underlying30 (fun k e=>by cases e) sz9 by9 ze9 (by rfl) (by decide) (by rfl) g2 g3 (fun y hy=>by obtain⟨d,_,rfl⟩:=JG.1 hy;rfl) ((Vg hk4q2).trans (Vg hk8q6)) (by rfl) (V8 (Vd _ _ _) (by simp[qfT]) (by rfl) (by rfl) (.exact 1) (KJ _)) (by rfl) (by simp;omega) (by simp;omega) fun b' h5 o1 o2 o3=>?_;have hbl':=QY 1 b';simp+decide only[qa,ev,putD,VM,VO,VN,Ka,true_and,↓qd,qb];change Awp _ _ _ _ _ _ _;refine XL [3,6,7,8] (by rfl) ?_;simp+decide only[qa,ev,qH,qF,putD,VM,VO,VN,Ka,true_and,↓qA,ql,qC,cond_false,qp,Xc,↓qh,qc];try simp(disch:=omega)only[wrap_i64]
   try simp only[Qi]
   exact⟨(i+1,b'),rfl,o3,⟨hi,o1,by simp only;rw[o2,htk,Ba,Kc,Vj,htx]⟩,by simp only;omega⟩
  ·try simp only[decide_eq_false_iff_not]at hb2
   have hk3:¬t.kind=3:=fun q=>hb2 ((Zg _ 3).mpr q);refine awp_rseq [3,5,6,7,8,13,29] (by rfl) fun K hK=>?_;simp+decide only[qa,ev,qH,qF,putD,VM,VO,VN,Ka,true_and,↓qA,ql,qC,cond_false,qp,XH,↓qd,qb];apply hK;clear hK K;refine qK (b:=_) rfl (fun hb3=>?_) (fun hb3=>?_)
   ·try simp only[decide_eq_true_eq]at hb3
    have hk:t.kind=6:=(Zg _ 6).mp hb3;have htx:qaj t=[46]:=by unfold qaj;rw[if_neg hk3,if_pos hk]
    refine XL [3,6,7,8] (by rfl) ?_;simp+decide only[ev,putD,VM,VO,Ka,true_and,↓qh,qc];refine Qn (cs:=[.str ([46])]) (by kernel_rfl) fun k10q1 hk10q1=>?_;have ne_10q1_4q2:k10q1≠k4q2:=by simp only[V7]at hk10q1;simp only[hk10q1,ne_eq,not_false_eq_true]
    try have hf_10q1:h k10q1=none:=by first|assumption|(simp only[V7]at hk10q1;simp only[hk10q1])
    refine Xw (es:=1) (zs:=(l.take i).map fun t=>qfT (qaj t)) (xs:=[qfT ([46])]) (hZ:=h) (b:=b) (by rfl) (by rfl) Tryz.underlying30 Tryz.underlying30 (fun k e=>by cases e) sz9 by9 ze9 (by rfl) (by decide) (by rfl) g2 g3 (fun y hy=>by obtain⟨d,_,rfl⟩:=JG.1 hy;rfl) ((Vg hk4q2).trans (Vg hk10q1)) (by rfl) (V8 (Vd _ _ _) (by simp[qfT]) (by rfl) (by rfl) (.exact 1) (KJ _)) (by rfl) (by simp;omega) (by simp;omega) fun b' h5 o1 o2 o3=>?_;have hbl':=QY 1 b';simp+decide only[qa,ev,putD,VM,VO,VN,Ka,true_and,↓qd,qb];change Awp _ _ _ _ _ _ _;refine XL [3,6,7,8] (by rfl) ?_;simp+decide only[qa,ev,qH,qF,putD,VM,VO,VN,Ka,true_and,↓qA,ql,qC,cond_false,qp,Xc,↓qh,qc];try simp(disch:=omega)only[wrap_i64]
    try simp only[Qi]
    exact⟨(i+1,b'),rfl,o3,⟨hi,o1,by simp only;rw[o2,htk,Ba,Kc,Vj,htx]⟩,by simp only;omega⟩
   ·try simp only[decide_eq_false_iff_not]at hb3
    have hk6:¬t.kind=6:=fun q=>hb3 ((Zg _ 6).mpr q);refine awp_rseq [3,5,6,7,8,34] (by rfl) fun K hK=>?_;simp+decide only[qa,ev,qH,qF,putD,VM,VO,VN,Ka,true_and,↓qA,ql,qC,cond_false,qp,XH,↓qd,qb];apply hK;clear hK K;refine qK (b:=_) rfl (fun hb4=>?_) (fun hb4=>?_)
    ·try simp only[decide_eq_true_eq]at hb4
     have hk:t.kind=7:=(Zg _ 7).mp hb4;have htx:qaj t=[61,61]:=by unfold qaj;rw[if_neg hk3,if_neg hk6,if_pos hk]
     refine XL [3,6,7,8] (by rfl) ?_;simp+decide only[ev,putD,VM,VO,Ka,true_and,↓qh,qc];refine Qn (cs:=[.str ([61,61])]) (by kernel_rfl) fun k12q1 hk12q1=>?_;have ne_12q1_4q2:k12q1≠k4q2:=by simp only[V7]at hk12q1;simp only[hk12q1,ne_eq,not_false_eq_true]
     try have hf_12q1:h k12q1=none:=by first|assumption|(simp only[V7]at hk12q1;simp only[hk12q1])
     refine Xw (es:=1) (zs:=(l.take i).map fun t=>qfT (qaj t)) (xs:=[qfT ([61,61])]) (hZ:=h) (b:=b) (by rfl) (by rfl) Tryz.underlying30 Tryz.underlying30 (fun k e=>by cases e) sz9 by9 ze9 (by rfl) (by decide) (by rfl) g2 g3 (fun y hy=>by obtain⟨d,_,rfl⟩:=JG.1 hy;rfl) ((Vg hk4q2).trans (Vg hk12q1)) (by rfl) (V8 (Vd _ _ _) (by simp[qfT]) (by rfl) (by rfl) (.exact 1) (KJ _)) (by rfl) (by simp;omega) (by simp;omega) fun b' h5 o1 o2 o3=>?_;have hbl':=QY 1 b';simp+decide only[qa,ev,putD,VM,VO,VN,Ka,true_and,↓qd,qb];change Awp _ _ _ _ _ _ _;refine XL [3,6,7,8] (by rfl) ?_;simp+decide only[qa,ev,qH,qF,putD,VM,VO,VN,Ka,true_and,↓qA,ql,qC,cond_false,qp,Xc,↓qh,qc];try simp(disch:=omega)only[wrap_i64]
     try simp only[Qi]
     exact⟨(i+1,b'),rfl,o3,⟨hi,o1,by simp only;rw[o2,htk,Ba,Kc,Vj,htx]⟩,by simp only;omega⟩
    ·try simp only[decide_eq_false_iff_not]at hb4
     have hk7:¬t.kind=7:=fun q=>hb4 ((Zg _ 7).mpr q);have htx:qaj t=t.text:=by unfold qaj;rw[if_neg hk3,if_neg hk6,if_neg hk7]
     refine XL [3,6,7,8] (by rfl) ?_;simp+decide only[ev,putD,VM,VO,Ka,true_and,↓qh,qc,↓qD,qm,qag,↓qG,Qb,qz ag9,QP,VX,Km,Jr,qE];refine Qn (cs:=[.str (t.text)]) (by kernel_rfl) fun k6q3 hk6q3=>?_;have ne_6q3_4q2:k6q3≠k4q2:=by simp only[V7]at hk6q3;simp only[hk6q3,ne_eq,not_false_eq_true]
     try have hf_6q3:h k6q3=none:=by first|assumption|(simp only[V7]at hk6q3;simp only[hk6q3])
     refine Xw (es:=1) (zs:=(l.take i).map fun t=>qfT (qaj t)) (xs:=[qfT (t.text)]) (hZ:=h) (b:=b) (by rfl) (by rfl) Tryz.underlying30 Tryz.underlying30 (fun k e=>by cases e) sz9 by9 ze9 (by rfl) (by decide) (by rfl) g2 g3 (fun y hy=>by obtain⟨d,_,rfl⟩:=JG.1 hy;rfl) ((Vg hk4q2).trans (Vg hk6q3)) (by rfl) (V8 (Vd _ _ _) (by simp[qfT]) (by rfl) (by rfl) (.exact 1) (KJ _)) (by rfl) (by simp;omega) (by simp;omega) fun b' h5 o1 o2 o3=>?_;have hbl':=QY 1 b';simp+decide only[qa,ev,putD,VM,VO,VN,Ka,true_and,↓qd,qb];change Awp _ _ _ _ _ _ _;refine XL [3,6,7,8] (by rfl) ?_;simp+decide only[qa,ev,qH,qF,putD,VM,VO,VN,Ka,true_and,↓qA,ql,qC,cond_false,qp,Xc,↓qh,qc];try simp(disch:=omega)only[wrap_i64]
     try simp only[Qi]
     exact⟨(i+1,b'),rfl,o3,⟨hi,o1,by simp only;rw[o2,htk,Ba,Kc,Vj,htx]⟩,by simp only;omega⟩
 ·try simp only[decide_eq_false_iff_not]at hb1
  refine XJ ?_;change Awp _ _ _ _ _ _ _;have hie:i=l.length:=by omega
  rw[hie,List.take_length]at g3;have hst:IsStrs wz (Qv h b) (QH 1 b) (l.map qaj):=by
   have:=BF (wz:=wz) g2 (by decide) g3 (by simp[qfT]) (h:=Qv h b) (Vl _);unfold IsStrs;rw[List.map_map];exact this
  have hjl:(Lib.join (l.map qaj) [32]).length<=140737488355328:=by
   refine V5 (qkE (m:=200000002) fun y hy=>?_) ?_
   ·obtain⟨d,hd,rfl⟩:=JG.1 hy
    have h1:=qrb d;have h2:=hb d hd;omega
   ·rw[Jo]
    exact V5 (Nat.mul_le_mul_right _ hl) (by decide)
  refine awp_rseq [2] (by rfl) fun K hK=>?_;simp+decide only[ev,putD,VM,VO,Ka,true_and,↓qh,qc];refine qM (V:= .str (textE l)) (by rfl) (by rfl) (c_join wz _ _ _ _ hst (by simp;omega) hjl) ?_;simp+decide only[qa,ev,putD,VM,VO,VN,Ka,true_and,↓qd,qb];apply hK;clear hK K;refine qN ?_;refine qW h hbs (qR (Qa)) ?_;simp+decide only[VO,if_true,and_true,Ql];all_goals first|rfl|exact⟨rfl,rfl⟩|(simp+decide only[Ka, *];done)|(trace_state;fail)
end Go.Proofs.YtlhhaagmakhilaaGreatDoor
namespace Go.Proofs.YtlhhaagmakhilaaGreatDoor
open Go.AM
open Go.Proofs
open Go.Col (Str FaultC okF sp)
open Go.Tok
open Go.Cop
open Go.RowKit (Below)
set_option maxRecDepth 100000
theorem qeS(tb:Option Buf):(Yd (QH 5 tb)).live=true:=by cases tb<;>rfl
theorem qpP(tb:Option Buf):Sc (Yd (QH 5 tb))=True:=by cases tb<;>exact eq_true trivial
theorem qgF(wz:World)(hm:MaxL wz)(h:AHeap)(s:Str)(hl:s.length<=1000000):ACall Tryz.prog wz 20 [.str s] h (fun r h'=>OutR h (qby s) r h'):=by
 have hsp:(sp 11++s).length<=9223372036854775807:=by simp[sp];omega
 have hcl:=qeS none;refine qP (n:=12) (rs:=[.tmp 2]) Tryz.func20 rfl rfl rfl rfl (VL rfl) ?_;simp only[Qd];refine awp_rseq [0] (by rfl) fun K hK=>?_;simp+decide only[qa,ev,qH,qF,putD,VM,VN,Ka,true_and,↓qd,qb];apply hK;clear hK K;refine awp_rseq [3] (by rfl) fun K hK=>?_;simp+decide only[ev,qH,qF,putD,VM,VO,Ka,true_and,↓qh,qc,↓qA,ql,qZ,cond_false,Zl,qfs];repeat (with_reducible refine And.intro ?_ ?_;· first|trivial|omega|(intro hg;simp only[Kw,JV,Ji,VP,VQ,VS,decide_eq_true_eq,decide_eq_false_iff_not,XT]at hg;omega)|(simp only[KX,J8];omega))
 refine QO (by rfl) (by rfl) (c_Source wz hm _ (sp 11++s) false hsp) fun x1q2 h1q2 hx1q2=>?_;obtain⟨tb,rfl,o1,o2,hh1⟩:=hx1q2;have hs1:Sub h h1q2:=by rw[hh1];exact BH o1
 have hcl:=qeS tb;have hs_h1q2:Sub h h1q2:=BJ zqC hs1;have hr_h1q2:=hs_h1q2;simp+decide only[ev,putD,VM,VO,Ka,true_and,↓qh,qc,↓QV,QI,QT,KX,J8,VX,Km,VX,Km,Jr,Nat.reduceAdd,QA];refine Qk qbT (cs:=[.int .i64 0, .int .i64 0, .int .i64 0]) (by rfl) fun k1q6 hk1q6=>?_;have hn_1q6:h1q2 k1q6=none:=by first|assumption|(simp only[V7]at hk1q6;simp only[hk1q6])
 have hf_1q6:h k1q6=none:=Bg hs_h1q2 hn_1q6;simp+decide only[ev,putD,VM,VO,Ka,true_and,↓qd,qb];refine qo (by rfl) (by rfl) zqA QK (by rfl) (by rfl) zqD (Js _) (by rfl) ?_;simp only[Vh,VV];simp+decide only[qa,ev,putD,VO,VN,Ka,setAt,VW,Ki,Jr,Nat.reduceAdd];apply hK;clear hK K;refine awp_rseq [2] (by rfl) fun K hK=>?_;simp+decide only[qa,ev,putD,VM,VO,VN,Ka,true_and,↓qh,qc,↓qd,qb];apply hK;clear hK K;refine qN ?_;refine QS (qR (Qa)) ?_;simp+decide only[VO,if_true,Ql];exact⟨Qv h tb,by rw[<-hh1];exact Vg hn_1q6,tb,rfl,o1,o2,rfl⟩
theorem qfA(wz:World)(hm:MaxL wz)(h:AHeap):ACall Tryz.prog wz 24 [] h (fun r h'=>IsMems wz h' r qcI/\Sub h h'):=by
 refine qP (n:=6) (rs:=[.tmp 0]) Tryz.func24 rfl rfl rfl rfl (VL rfl) ?_;simp only[Qd];refine awp_rseq [] (by rfl) fun K hK=>?_;simp+decide only[qa,ev,qH,qF,putD,VM,VN,if_false,true_and,↓qd,qb];apply hK;clear hK K;refine awp_rseq [0] (by rfl) fun K hK=>?_;refine QO (by rfl) (by rfl) (qgF wz hm _ _ (by decide)) fun x1q0 h1q0 hx1q0=>?_;have ht1:=hx1q0.toks (wz:=wz);obtain⟨tb1,hv1,a1,a2,a3⟩:=hx1q0;have hcl1:=qeS tb1;have hcS1:=qpP tb1;subst hv1;have hs_h1q0:Sub h h1q0:=BJ zqC ht1.2.2;have hr_h1q0:=hs_h1q0;simp+decide only[ev,qH,qF,putD,VM,VO,Ka,true_and,↓Qr,↓qY,qlb,evP,Kc,Vj,hcS1];refine QO (by rfl) (by rfl) (qgF wz hm _ _ (by decide)) fun x1q2 h1q2 hx1q2=>?_;have ht2:=hx1q2.toks (wz:=wz);obtain⟨tb2,hv2,b1,b2,b3⟩:=hx1q2;have hcl2:=qeS tb2;have hcS2:=qpP tb2;subst hv2;have hs_h1q2:Sub h h1q2:=BJ zqC ht2.2.2;have hr_h1q2:Sub h1q0 h1q2:=BJ zqC ht2.2.2;simp+decide only[ev,qH,qF,putD,VM,VO,Ka,true_and,↓Qr,↓qY,qlb,evP,Kc,Vj,hcS2];refine Qn (cs:=[.str [65],Yd (QH 5 tb1), .str [66],Yd (QH 5 tb2)]) (by cases tb1<;>cases tb2<;>rfl) fun k1q4 hk1q4=>?_;have hn_1q4:h1q2 k1q4=none:=by first|assumption|(simp only[V7]at hk1q4;simp only[hk1q4])
 have hf_1q4:h k1q4=none:=Bg hs_h1q2 hn_1q4;simp+decide only[qa,ev,putD,VM,VO,VN,Ka,true_and,↓qd,qb];apply hK;clear hK K;refine qN ?_;refine QS (qR (Qa)) ?_;simp+decide only[VO,if_true,Ql];have hs4:Sub h1q2 (h1q2.set k1q4 ⟨[.str [65],Yd (QH 5 tb1), .str [66],Yd (QH 5 tb2)],0⟩):=Vg hn_1q4;refine⟨_,Vl _,⟨[(⟨[65],qby [48,53,32,88,32,80,73,67,32,57,40,51,41,46]⟩,Yd (QH 5 tb1)),(⟨[66],qby [48,49,32,82,46,32,67,79,80,89,32,65,32,82,69,80,76,65,67,73,78,71,32,88,32,66,89,32,89,46]⟩,Yd (QH 5 tb2))],rfl,?_,?_⟩,zqB⟩
 ·exact V8 (wz:=wz) (es:=2) (xs:=[[.str [65],Yd (QH 5 tb1)],[.str [66],Yd (QH 5 tb2)]]) (Vd _ _ _) (by simp) rfl (by simp[allLive,qE,hcl1,hcl2]) (.exact 2) (KJ _)
 ·intro q hq
  simp only[KW,Bj,or_false]at hq;rcases hq with rfl|rfl
  ·exact(ht1.1.mono ht2.2.2).mono hs4
  ·exact ht2.1.mono hs4
theorem qcW(s:Str):(qby s).length<=65536:=(qlk (sp 11++s) false).1
theorem qeh:∀m∈qcI,m.toks.length<=100000:=by
 intro m hm;simp only[qcI,KW,Bj,or_false]at hm;rcases hm with rfl|rfl<;>(have:=qcW;exact V5 (this _) (by decide))
def qlH(s want:Str):Bool:=match qbk true (qby s) qcI with
 | .ok out _=>decide (0<out.length) && (decide (out.length<=65536) && (out.all (fun t=>decide (t.text.length<=100000000)) && decide (textE out=want)))
 | .bad _=>false
def qhe(s:Str)(e col:Int):Bool:=match qbk true (qby s) qcI with
 | .ok _ _=>false
 | .bad f=>decide (f=⟨e,1,col⟩)
theorem qmb(wz:World)(hm:MaxL wz)(h:AHeap)(s want:Str)(hs:s.length<=1000000)(hg:qlH s want=true):ACall Tryz.prog wz 25 [.str s, .str want] h (fun r h'=>r= .bool true/\h'=h):=by
 have hovl:(AVal.bool true).live=true:=rfl;have hnvl:(AVal.bool true).live=true:=rfl;refine qP (n:=30) (rs:=[.tmp 4]) Tryz.func25 rfl rfl rfl rfl (VL rfl) ?_;simp only[Qd];refine awp_rseq [0,1] (by rfl) fun K hK=>?_;simp+decide only[qa,ev,qH,qF,putD,VM,VN,Ka,true_and,↓qd,qb,Jr];apply hK;clear hK K;refine awp_rseq [1,5,7] (by rfl) fun K hK=>?_;simp+decide only[ev,putD,VM,VO,Ka,true_and,↓qh,qc];refine QO (by rfl) (by rfl) (qgF wz hm _ s hs) fun x1q1 h1q1 hx1q1=>?_;have ht1:=hx1q1.toks (wz:=wz);have hs1:=ht1.2.2;have hs_h1q1:Sub h h1q1:=BJ zqC hs1;have hr_h1q1:=hs_h1q1;refine QO (by rfl) (by rfl) (qfA wz hm _) fun x1q2 h1q2 hx1q2=>?_;obtain⟨hms,hs2⟩:=hx1q2;have hs_h1q2:Sub h h1q2:=BJ zqC hs2;have hr_h1q2:Sub h1q1 h1q2:=BJ zqC hs2;refine QO (by rfl) (by rfl) (qjz wz _ x1q1 x1q2 (qby s) qcI (ht1.1.mono hs2) hms (by have:=qcW s;omega) (by decide) qeh) fun x1q3 h1q3 hx1q3=>?_;obtain⟨ov,nv,f,rfl,hs3,hc1,hc2,hcase⟩:=hx1q3;obtain⟨rfl,out,st,hX,hov,hnv,hl1,hl2⟩:f=okF/\∃out st,qbk true (qby s) qcI= .ok out st/\IsL wz h1q3 5 ov (out.map QJ)/\IsL wz h1q3 1 nv (st.names.map qha)/\out.length<=200000/\st.names.length<=4096:=by
  rcases hcase with⟨-,z,-⟩|z
  ·unfold qlH at hg
   rw[z]at hg;cases hg
  ·exact z
 unfold qlH at hg;rw[hX]at hg;simp only[Kw,decide_eq_true_eq,JC]at hg;obtain⟨g1,g2,g3,g4⟩:=hg;have hovl:=hov.live;have hnvl:=hnv.live;have nov:=Ze hov;have hpos:(0:Int)<out.length:=by omega
 have hs_h1q3:Sub h h1q3:=BJ zqC hs3;have hr_h1q3:Sub h1q2 h1q3:=BJ zqC hs3;simp+decide only[ev,putD,VM,VO,Ka,true_and,↓qh,qc,↓QV,QI,QT,KX,J8,VX,Km,VX,Km,Jr,Nat.reduceAdd,QA];refine Qk qbT (cs:=[.int .i64 0, .int .i64 0, .int .i64 0]) (by rfl) fun k1q8 hk1q8=>?_;have hn_1q8:h1q3 k1q8=none:=by first|assumption|(simp only[V7]at hk1q8;simp only[hk1q8])
 have hf_1q8:h k1q8=none:=Bg hs_h1q3 hn_1q8;simp+decide only[ev,putD,VM,VO,Ka,true_and,↓qd,qb];refine qo (by rfl) (by rfl) zqA QK (by rfl) (by rfl) zqD (Js _) (by rfl) ?_;simp only[Vh,VV];simp+decide only[qa,ev,putD,VO,VN,Ka,setAt,VW,Ki,Jr,Nat.reduceAdd];apply hK;clear hK K;refine awp_rseq [4] (by rfl) fun K hK=>?_;simp+decide only[ev,qH,qF,putD,VM,VO,Ka,true_and,↓qG,Qb,qg Xv QK,↓Qr,↓qY,ZV,evP,Vj,↓qA,ql,qZ,cond_false,YG,eq35,↓qh,qc,↓Xe,agP,Qt,qJ,qI,qy,implies_true,decide_true,Qy,JS,↓qaW,QD,↓Xb,qC,qp,UE,↓QR,Qs,Qg,decide_true,Qy,JS,YI,cond_true,cond_false,QP,qf,VX,Km,Jr,Nat.reduceAdd,qi,allLive,JS,nov,hpos];refine ZY (by rfl) ?_;refine qM (V:= .str want) (by rfl) (by rfl) (by rw[<-g4];exact c_Text wz hm _ ov out (hov.mono zqB) g2 (fun t ht=>g3 t ht)) ?_;simp+decide only[qa,ev,qH,qF,putD,VM,VO,VN,Ka,true_and,↓Xe,qc,agP,Qt,qJ,qI,qy,implies_true,decide_true,Qy,↓Xb,ql,qZ,cond_false,Zl,qgV,↓QR,Qs,Qg,↓qd,qb,decide_true,Qy,YI,cond_true,cond_false];apply hK;clear hK K;refine qN ?_;refine qW h zqC (qR (Qa)) ?_;simp+decide only[VO,if_true,and_true,Ql];all_goals first|rfl|exact⟨rfl,rfl⟩|(simp+decide only[Ka, *];done)|(trace_state;fail)
theorem qmc(wz:World)(hm:MaxL wz)(h:AHeap)(s:Str)(e col:Int)(hs:s.length<=1000000)(hg:qhe s e col=true):ACall Tryz.prog wz 26 [.str s, .int .i64 e, .int .i64 col] h (fun r h'=>r= .bool true/\h'=h):=by
 refine qP (n:=32) (rs:=[.tmp 6]) Tryz.func26 rfl rfl rfl rfl (VL rfl) ?_;simp only[Qd];refine awp_rseq [0,1,2] (by rfl) fun K hK=>?_;simp+decide only[qa,ev,qH,qF,putD,VM,VN,Ka,true_and,↓qd,qb,Jr,Nat.reduceAdd];apply hK;clear hK K;refine awp_rseq [1,2,7,8,9] (by rfl) fun K hK=>?_;simp+decide only[ev,putD,VM,VO,Ka,true_and,↓qh,qc];refine QO (by rfl) (by rfl) (qgF wz hm _ s hs) fun x1q1 h1q1 hx1q1=>?_;have ht1:=hx1q1.toks (wz:=wz);have hs1:=ht1.2.2;have hs_h1q1:Sub h h1q1:=BJ zqC hs1;have hr_h1q1:=hs_h1q1;refine QO (by rfl) (by rfl) (qfA wz hm _) fun x1q2 h1q2 hx1q2=>?_;obtain⟨hms,hs2⟩:=hx1q2;have hs_h1q2:Sub h h1q2:=BJ zqC hs2;have hr_h1q2:Sub h1q1 h1q2:=BJ zqC hs2;refine QO (by rfl) (by rfl) (qjz wz _ x1q1 x1q2 (qby s) qcI (ht1.1.mono hs2) hms (by have:=qcW s;omega) (by decide) qeh) fun x1q3 h1q3 hx1q3=>?_;obtain⟨ov,nv,f,rfl,hs3,hc1,hc2,hcase⟩:=hx1q3;obtain⟨hX,rfl,rfl⟩:qbk true (qby s) qcI= .bad f/\ov= .nilSlice/\nv= .nilSlice:=by
  rcases hcase with⟨-,z⟩|⟨-,out,st,z,-⟩
  ·exact z
  ·unfold qhe at hg
   rw[z]at hg;cases hg
 unfold qhe at hg;rw[hX]at hg;simp only[decide_eq_true_eq]at hg;subst hg;have hs_h1q3:Sub h h1q3:=BJ zqC hs3;have hr_h1q3:Sub h1q2 h1q3:=BJ zqC hs3;simp+decide only[ev,putD,VM,VO,Ka,true_and,↓qh,qc,↓QV,QI,QT,KX,J8,VX,Km,VX,Km,Jr,Nat.reduceAdd,QA];refine Qk qbT (cs:=[.int .i64 0, .int .i64 0, .int .i64 0]) (by rfl) fun k1q8 hk1q8=>?_;have hn_1q8:h1q3 k1q8=none:=by first|assumption|(simp only[V7]at hk1q8;simp only[hk1q8])
 have hf_1q8:h k1q8=none:=Bg hs_h1q3 hn_1q8;simp+decide only[ev,putD,VM,VO,Ka,true_and,↓qd,qb];refine qo (by rfl) (by rfl) zqA QK (by rfl) (by rfl) zqD (Js _) (by rfl) ?_;simp only[Vh,VV];simp+decide only[qa,ev,putD,VO,VN,Ka,setAt,VW,Ki,Jr,Nat.reduceAdd];apply hK;clear hK K;refine awp_rseq [6] (by rfl) fun K hK=>?_;simp+decide only[qa,ev,qH,qF,putD,VM,VO,VN,Ka,true_and,↓qh,qc,↓Xt,QD,qdU Tryz.underlying26,qdU Tryz.underlying30,↓qA,ql,qZ,cond_false,qp,Xc,qC,XH,↓Zy,Zd,Ud,agP,Qt,qJ,qI,qy,implies_true,decide_true,Qy,JS,qg Xv QK,↓Xe,↓ag_build,↓qY,qcN,evP,Kc,Vj,UB,↓Xb,YG,eq35,↓QR,Qs,Qg,↓qd,qb,decide_true,Qy,JS,YI,cond_true,cond_false,QP,qf,VX,Km,Jr,Nat.reduceAdd,qi,allLive,JS];apply hK;clear hK K;refine qN ?_;refine qW h zqC (qR (Qa)) ?_;simp+decide only[VO,if_true,and_true,Ql];all_goals first|rfl|exact⟨rfl,rfl⟩|(simp+decide only[Ka, *];done)|(trace_state;fail)
end Go.Proofs.YtlhhaagmakhilaaGreatDoor
namespace Go.Proofs.YtlhhaagmakhilaaGreatDoor
open Go.AM
open Go.Proofs
open Go.Col (Str FaultC okF sp)
open Go.Tok
open Go.Cop
open Go.RowKit (Below)
set_option maxRecDepth 100000
def liveB:Bool:=match qbk true (qby [67,79,80,89,32,34,66,34,46,32,77,79,86,69]) qcI with
 | .ok _ st=>decide (st.names=[[66],[65]])
 | .bad _=>false
theorem lv_names:liveB=true:=by decide+kernel
theorem lv_g1:qlH [67,79,80,89,32,65,46] [48,53,32,88,32,80,73,67,32,57,40,51,41,32,46]=true:=by decide+kernel
theorem lv_f1:qhe [67,79,80,89,32,67,46] 7 17=true:=by decide+kernel
theorem lv_f2:qhe [67,79,80,89,32,65] 4 12=true:=by decide+kernel
theorem lv_f3:qhe [67,79,80,89,32,65,32,82,69,80,76,65,67,73,78,71,32,88,46] 4 30=true:=by decide+kernel
set_option maxHeartbeats 2000000 in
theorem qeU(wz:World)(hm:MaxL wz)(h:AHeap):ACall Tryz.prog wz 9 [] h (fun r h'=>r= .bool true/\h'=h):=by
 have hovl:(AVal.bool true).live=true:=rfl;have hnvl:(AVal.bool true).live=true:=rfl;refine qP (n:=44) (rs:=[.tmp 0]) Tryz.func9 rfl rfl rfl rfl (VL rfl) ?_;simp only[Qd];refine awp_rseq [] (by rfl) fun K hK=>?_;simp+decide only[qa,ev,qH,qF,putD,VM,VN,if_false,true_and,↓qd,qb];apply hK;clear hK K;refine awp_rseq [2] (by rfl) fun K hK=>?_;refine QO (by rfl) (by rfl) (qgF wz hm _ _ (by decide)) fun x1q0 h1q0 hx1q0=>?_;have ht1:=hx1q0.toks (wz:=wz);have hs1:=ht1.2.2;have hs_h1q0:Sub h h1q0:=BJ zqC hs1;have hr_h1q0:=hs_h1q0;refine QO (by rfl) (by rfl) (qfA wz hm _) fun x1q1 h1q1 hx1q1=>?_;obtain⟨hms,hs2⟩:=hx1q1;have hs_h1q1:Sub h h1q1:=BJ zqC hs2;have hr_h1q1:Sub h1q0 h1q1:=BJ zqC hs2;refine QO (by rfl) (by rfl) (qjz wz _ x1q0 x1q1 _ qcI (ht1.1.mono hs2) hms (by have:=qcW [67,79,80,89,32,34,66,34,46,32,77,79,86,69];exact V5 this (by decide)) (by decide) qeh) fun x1q2 h1q2 hx1q2=>?_;obtain⟨ov,nv,f,rfl,hs3,hc1,hc2,hcase⟩:=hx1q2;have hlb:=lv_names;unfold liveB at hlb;obtain⟨rfl,out,st,hX,hov,hnv,hl1,hl2⟩:f=okF/\∃out st,qbk true (qby [67,79,80,89,32,34,66,34,46,32,77,79,86,69]) qcI= .ok out st/\IsL wz h1q2 5 ov (out.map QJ)/\IsL wz h1q2 1 nv (st.names.map qha)/\out.length<=200000/\st.names.length<=4096:=by
  rcases hcase with⟨-,z,-⟩|z
  ·rw[show qbk true (qby [67,79,80,89,32,34,66,34,46,32,77,79,86,69]) qcI= .bad f from z]at hlb
   cases hlb
  ·exact z
 rw[hX]at hlb;simp only[decide_eq_true_eq]at hlb;rw[hlb]at hnv;have hovl:=hov.live;have hnvl:=hnv.live;have nnv:=qpF hnv;have hs_h1q2:Sub h h1q2:=BJ zqC hs3;have hr_h1q2:Sub h1q1 h1q2:=BJ zqC hs3;simp+decide only[ev,putD,VM,VO,Ka,true_and,↓qh,qc,↓QV,QI,QT,KX,J8,VX,Km,VX,Km,Jr,Nat.reduceAdd,QA];refine Qk qbT (cs:=[.int .i64 0, .int .i64 0, .int .i64 0]) (by rfl) fun k1q7 hk1q7=>?_;have hn_1q7:h1q2 k1q7=none:=by first|assumption|(simp only[V7]at hk1q7;simp only[hk1q7])
 have hf_1q7:h k1q7=none:=Bg hs_h1q2 hn_1q7;simp+decide only[ev,putD,VM,VO,Ka,true_and,↓qd,qb];refine qo (by rfl) (by rfl) zqA QK (by rfl) (by rfl) zqD (Js _) (by rfl) ?_;simp only[Vh,VV];simp+decide only[qa,ev,putD,VO,VN,Ka,setAt,VW,Ki,Jr,Nat.reduceAdd];apply hK;clear hK K;refine BG (h':=h1q2) (Vg hn_1q7) ?_;obtain⟨lc,o,c,hnve⟩:=hnv.open (by simp);have hnv2:=hnv;rw[hnve]at hnv2;have e0:rd wz h1q2 lc (o+0)= .str [66]:=hnv2.at0 (i:=0) (by simp) (by decide);have e1:rd wz h1q2 lc (o+1)= .str [65]:=hnv2.at0 (i:=1) (by simp) (by decide);rw[K6]at e0;have hlen2:((([[66],[65]]:List Str).map qha).length:Int)=2:=by decide
 have i0:Int.toNat 0=0:=rfl;have i1:Int.toNat 1=1:=rfl;subst hnve;refine awp_rseq [0] (by kernel_rfl) fun K hK=>?_;refine qM (V:= .bool true) (by rfl) (by rfl) (qmb wz hm _ _ _ (by decide) lv_g1) ?_;simp+decide only[ev,putD,VM,VO,Ka,true_and,↓qh,qc];refine ZY (by rfl) ?_;refine qM (V:= .bool true) (by rfl) (by rfl) (qmb wz hm _ _ _ (by decide) (by decide+kernel)) ?_;simp+decide only[ev,qH,qF,putD,VM,VO,Ka,true_and,↓QR,Qs,Qg,↓qh,qc,YI,cond_true];refine ZY (by rfl) ?_;refine qM (V:= .bool true) (by rfl) (by rfl) (qmb wz hm _ _ _ (by decide) (by decide+kernel)) ?_;simp+decide only[ev,qH,qF,putD,VM,VO,Ka,true_and,↓QR,Qs,Qg,↓qh,qc,YI,cond_true];refine ZY (by rfl) ?_;refine qM (V:= .bool true) (by rfl) (by rfl) (qmc wz hm _ _ _ _ (by decide) lv_f1) ?_;simp+decide only[ev,qH,qF,putD,VM,VO,Ka,true_and,↓QR,Qs,Qg,↓qh,qc,YI,cond_true];refine ZY (by rfl) ?_;refine qM (V:= .bool true) (by rfl) (by rfl) (qmc wz hm _ _ _ _ (by decide) lv_f2) ?_;simp+decide only[ev,qH,qF,putD,VM,VO,Ka,true_and,↓QR,Qs,Qg,↓qh,qc,YI,cond_true];refine ZY (by rfl) ?_;refine qM (V:= .bool true) (by rfl) (by rfl) (qmc wz hm _ _ _ _ (by decide) lv_f3) ?_;simp+decide only[qa,ev,qH,qF,putD,VM,VO,VN,Ka,true_and,↓QR,Qs,Qg,↓qh,qc,↓Xe,agP,Qt,qJ,qI,qy,implies_true,decide_true,Qy,↓qaW,QD,ZK Tryz.underlying30,↓Xb,ql,qC,cond_false,qp,XH,↓Yh,Zd,Ud,Qh Tryz.underlying30 sz9,↓Zy,qz ag9,Wn,Zl,qgV,↓qd,qb,decide_true,Qy,YI,cond_true,cond_false,qE,i0,i1,e0,e1,BI,K6];apply hK;clear hK K;refine qN ?_;refine qW h zqC (qR (Qa)) ?_;simp+decide only[VO,if_true,and_true,Ql];all_goals first|rfl|exact⟨rfl,rfl⟩|(simp+decide only[Ka, *];done)|(trace_state;fail)
end Go.Proofs.YtlhhaagmakhilaaGreatDoor
namespace Go.AM
section
variable {P:Program} {wz:World} {ops:List Oper} {K:Slots->AHeap->Prop}
end
end Go.AM
namespace Go.Proofs.YtlhhaagmakhilaaGreatDoor
open Go.AM
open Go.Proofs
open Go.Col (Str FaultC okF sp)
open Go.Tok
open Go.Cop
open Go.RowKit (Below)
set_option maxRecDepth 100000
theorem qgH{H:AHeap}{ea eb:Nat}{a b:Option Buf}(ha:bufOk H ea a)(hb:bufOk (Qv H a) eb b):Qv (Qv H a) b=Qv (Qv H b) a/\bufOk H eb b/\bufOk (Qv H b) ea a:=by
 cases a with
 |none=>exact⟨rfl,hb,trivial⟩
 |some a=>
  cases b with
  |none=>exact⟨rfl,trivial,ha⟩
  |some b=>
   have hne:b.blk≠a.blk:=fun e=>by
    have:=hb.1;rw[e,show Qv H (some a)=H.set a.blk ⟨a.cells,0⟩from rfl,Vd]at this;cases this
   have hb1:H b.blk=none:=by
    have:=hb.1
    rwa [show Qv H (some a)=H.set a.blk ⟨a.cells,0⟩from rfl,Vb _ _ hne]at this
   exact⟨AHeap.set_comm _ _ _ hne,⟨hb1,hb.2⟩,⟨(Vb _ _ hne.symm).trans ha.1,ha.2⟩⟩
theorem qnh{α:Type}(l:List α)(d e:α){i:Nat}(hi:i<l.length):l.getD i d=l.getD i e:=by
 rw[Kn,Kn,Jz hi];rfl
end Go.Proofs.YtlhhaagmakhilaaGreatDoor
namespace Go.Proofs.YtlhhaagmakhilaaGreatDoor
open Go.AM
open Go.Proofs
open Go.Col (Str FaultC okF sp)
open Go.Tok
open Go.Cop
open Go.RowKit (Below)
set_option maxRecDepth 100000
theorem qsf(wz:World)(h:AHeap)(a b:AVal)(l:List TokC)(ha:IsL wz h 5 a (l.map QJ))(hb:IsL wz h 5 b (l.map QJ))(hl:l.length<=1099511627776):ACall Tryz.prog wz 14 [a,b] h (fun v h'=>v= .int .i64 0/\h'=h):=by
 have hla:=ha.live;have hlb:=hb.live;have na:=Ze ha;have nb:=Ze hb;refine qP (n:=26) (rs:=[.tmp 4]) Tryz.func14 rfl rfl rfl rfl (VL rfl) ?_;simp only[Qd];refine awp_rseq [0,1] (by rfl) fun K hK=>?_;simp+decide only[qa,ev,qH,qF,putD,VM,VN,Ka,true_and,↓qd,qb];apply hK;clear hK K;refine qL ?_;refine awp_rseq [0,1,10] (by rfl) fun K hK=>?_;simp+decide only[qa,ev,putD,VM,VO,VN,Ka,true_and,↓qh,qc,↓Xt,QD,↓qA,ql,qZ,cond_false,qp,qaP,na,nb];apply hK;clear hK K;refine qK (b:=_) rfl (fun hb1=>?_) (fun hb1=>?_)
 ·exact absurd hb1 (by simp)
 ·try simp only[decide_eq_true_eq,VS]at hb1
  refine qV ?_;change Awp _ _ _ _ _ _ _;refine qL ?_;refine awp_rseq [0,1,5] (by rfl) fun K hK=>?_;simp+decide only[qa,ev,qH,qF,putD,VM,VN,Ka,true_and,↓qd,qb];apply hK;clear hK K;refine Qp ?_;refine XE [0,1,5] (fun i:Nat=>[(0,a),(1,b),(5, .int .i64 i)]) (fun i:Nat=>h) (fun i:Nat=>i<=l.length) (fun i:Nat=>l.length-i) 0 (by rfl) (Vl _) (Js _) ?_;intro i hi;refine qL ?_;refine awp_rseq [0,1,5,14] (by rfl) fun K hK=>?_;simp+decide only[qa,ev,putD,VM,VO,VN,Ka,true_and,↓qh,qc,↓Xt,QD,↓qA,ql,qZ,cond_false,qp,Zc,na];apply hK;clear hK K;refine qK (b:=_) rfl (fun hb2=>?_) (fun hb2=>?_)
  ·try simp only[decide_eq_true_eq]at hb2
   have hi':i<l.length:=by omega
   obtain⟨lc,o,c,rfl⟩:=Wy ha (by omega);obtain⟨lc',o',c',rfl⟩:=Wy hb (by omega);have he:=ha.elem (i:=i) (by rw[Jo];exact hi');have hd:=hb.elem (i:=i) (by rw[Jo];exact hi');rw[getD_map ZC hi',QJ]at he hd;have hal:AM.allLive (QJ (l.getD i ZC))=true:=rfl;rw[QJ]at hal;have hbe:((l.getD i ZC).left==(l.getD i ZC).left)=true:=beq_self_eq_true _;refine qV ?_;change Awp _ _ _ _ _ _ _;refine qL ?_;refine Qp ?_;refine Zj [0,1,5,25] mixed (by kernel_rfl) (by rfl) (by rfl) fun K hK=>?_;simp+decide only[qa,ev,putD,VM,VO,VN,Ka,true_and,↓qh,qc,↓QN,Qb,Qh Tryz.underlying26 QW,↓qG,qg XY QW,↓qA,ql,qZ,cond_false,YG,ne54,he,hd,hal,hbe,Vq];repeat (with_reducible refine And.intro ?_ ?_;· first|trivial|omega|(intro hg;simp only[Kw,JV,Ji,VP,VQ,VS,decide_eq_true_eq,decide_eq_false_iff_not,XT]at hg;omega))
   apply hK;clear hK K;refine qK (b:=_) rfl (fun hb3=>?_) (fun hb3=>?_)
   ·exact absurd hb3 (by simp)
   ·try simp only[decide_eq_true_eq,VS,Kw]at hb3
    refine qV ?_;change Awp _ _ _ _ _ _ _;refine XL [0,1,5] (by rfl) ?_;simp+decide only[qa,ev,qH,qF,putD,VM,VO,VN,Ka,true_and,↓qh,qc,↓qA,ql,qC,cond_false,qp,Xc,↓qd,qb];try simp(disch:=omega)only[wrap_i64]
    try simp only[Qi]
    exact⟨i+1,rfl,Vl _,hi',by omega⟩
  ·try simp only[decide_eq_false_iff_not]at hb2
   refine XJ ?_;change Awp _ _ _ _ _ _ _;refine awp_rseq [4] (by rfl) fun K hK=>?_;simp+decide only[qa,ev,qH,qF,putD,VM,VN,Ka,true_and,↓qd,qb];apply hK;clear hK K;refine qN ?_;refine qW _ (Vl _) (qR (Qa)) ?_;simp+decide only[VO,if_true,and_true,Ql];all_goals first|rfl|exact⟨rfl,rfl⟩|(simp+decide only[Ka, *];done)|(trace_state;fail)
theorem qsh(wz:World)(h:AHeap)(a b:TokC):ACall Tryz.prog wz 48 [.agg (QJ a), .agg (QJ b)] h (fun v h'=>v= .int .i64 (if qcu a b=true then 1 else 0)/\h'=h):=by
 have hsa:qcu a b=(decide (a.kind=b.kind) && decide (a.text=b.text)):=rfl;unfold QJ;have ek:decide ((a.kind.toNat:Int)=b.kind.toNat)=decide (a.kind=b.kind):=decide_eq_decide.2 ⟨fun q=>UInt8.toNat_inj.1 (by omega),fun q=>by rw[q]⟩;refine qP (n:=17) (rs:=[.tmp 4]) Tryz.func48 rfl rfl rfl rfl (VL rfl) ?_;simp only[Qd];refine awp_rseq [2,3] (by rfl) fun K hK=>?_;refine YN (by rfl) (by rfl) (by rfl) fun k0q0 hk0q0=>?_;try have hf_0q0:h k0q0=none:=by first|assumption|(simp only[V7]at hk0q0;simp only[hk0q0])
 skip;refine YN (by rfl) (by rfl) (by rfl) fun k0q1 hk0q1=>?_;have ne_0q1_0q0:k0q1≠k0q0:=by simp only[V7]at hk0q1;simp only[hk0q1,ne_eq,not_false_eq_true]
 try have hf_0q1:h k0q1=none:=by first|assumption|(simp only[V7]at hk0q1;simp only[hk0q1])
 skip;simp+decide only[qa,ev,qH,qF,putD,VM,VO,VN,Ka,true_and,↓qd,qb,VV,Jr];apply hK;clear hK K;refine qL ?_;refine awp_rseq [16] (by rfl) fun K hK=>?_;simp+decide only[qa,ev,qH,qF,putD,VM,VO,VN,Ka,true_and,↓qD,qm,qjl,↓qG,Qb,qz qsp,↓qA,ql,qZ,cond_false,qp,XH,↓qh,qc,↓XI,agP,Qt,qJ,qI,qy,implies_true,qag,↓Zy,Zd,Ud,qgL,qz ag9,↓Xb,XZ,qbl,Za,qbm,Zl,qgV,↓QR,Qs,Qg,Xn,Xp,QL,ne_eq,not_false_eq_true,ne_0q1_0q0.symm,QP,VX,Km,Jr,qi,qE,ek];apply hK;clear hK K;refine qK (b:=_) rfl (fun hb1=>?_) (fun hb1=>?_)
 ·try simp only[decide_eq_true_eq,Kw]at hb1
  refine awp_rseq [4] (by rfl) fun K hK=>?_;simp+decide only[qa,ev,qH,qF,putD,VM,VN,Ka,true_and,↓qd,qb];apply hK;clear hK K;refine qN ?_;try simp only[Qf]
  refine qW h zqC (qR (Qa)) ?_;simp+decide only[VO,if_true,and_true,Ql];rw[if_pos (by rw[hsa];simpa using hb1)]
 ·try simp only[decide_eq_false_iff_not,VP]at hb1
  refine qV ?_;change Awp _ _ _ _ _ _ _;refine awp_rseq [4] (by rfl) fun K hK=>?_;simp+decide only[qa,ev,qH,qF,putD,VM,VN,Ka,true_and,↓qd,qb];apply hK;clear hK K;refine qN ?_;refine qW h zqC (qR (Qa)) ?_;simp+decide only[VO,if_true,and_true,Ql];rw[if_neg (by rw[hsa];rcases hb1 with z|z<;>simp[z])]
theorem qjM:∀{l m:List TokC} {a b:TokC},l.length=m.length->alike (l++[a]) (m++[b])=(alike l m && qcu a b)
 |[],[],a,b,_=>by simp only[Jd,alike,Vf,JS];rfl
 |x::l,y::m,a,b,h=>by
  simp only[Kg,alike];rw[qjM (by simpa using h)];simp only[Bool.and_assoc]
theorem qod(a b:TokC):qcu a b=qcu b a:=by
 unfold qcu;rw[show decide (a.kind=b.kind)=decide (b.kind=a.kind)from decide_eq_decide.2 eq_comm,show decide (a.text=b.text)=decide (b.text=a.text)from decide_eq_decide.2 eq_comm]
theorem qkn(l:List TokC){i:Nat}(hi:i<l.length):l.take (i+1)=l.take i++[l.getD i ZC]:=by
 rw[VJ,Jz hi,Kn,Jz hi];rfl
structure FiG where
 i:Nat
 c:Nat
structure FiOk(l o:List TokC)(s:FiG):Prop where
 i:s.i<=o.length
 c:s.c<=s.i
 eq:s.c=s.i↔alike (o.take s.i) (l.take s.i)=true
theorem c_fits04(wz:World)(h:AHeap)(v w:AVal)(l o:List TokC)(hv:IsL wz h 5 v (l.map QJ))(hw:IsL wz h 5 w (o.map QJ))(hl:l.length<=1099511627776):ACall Tryz.prog wz 39 [v,w] h (fun r h'=>r= .bool (ZB l o)/\h'=h):=by
 have hlv:=hv.live;have hlw:=hw.live;have nv:=Ze hv;have nw:=Ze hw;refine qP (n:=33) (rs:=[.tmp 4]) Tryz.func39 rfl rfl rfl rfl (VL rfl) ?_;simp only[Qd];refine awp_rseq [0,1] (by rfl) fun K hK=>?_;simp+decide only[qa,ev,qH,qF,putD,VM,VN,Ka,true_and,↓qd,qb,Jr];apply hK;clear hK K;refine qL ?_;refine awp_rseq [0,1,11] (by rfl) fun K hK=>?_;simp+decide only[qa,ev,putD,VM,VO,VN,Ka,true_and,↓qh,qc,↓Xt,QD,↓qA,ql,qZ,cond_false,qp,UE,nv,nw];apply hK;clear hK K;refine qK (b:=_) rfl (fun hb1=>?_) (fun hb1=>?_)
 ·try simp only[decide_eq_true_eq]at hb1
  refine awp_rseq [4] (by rfl) fun K hK=>?_;simp+decide only[qa,ev,qH,qF,putD,VM,VN,Ka,true_and,↓qd,qb];apply hK;clear hK K;refine qN ?_;try simp only[Qf]
  refine qW h zqC (qR (Qa)) ?_;simp+decide only[VO,if_true,and_true,Ql];rw[show ZB l o=false by unfold ZB;rw[decide_eq_false (by omega),Bool.false_and]]
 ·try simp only[decide_eq_false_iff_not]at hb1
  have hol:o.length<=l.length:=by omega
  refine qV ?_;change Awp _ _ _ _ _ _ _;refine awp_rseq [0,1,5] (by rfl) fun K hK=>?_;simp+decide only[qa,ev,qH,qF,putD,VM,VN,Ka,true_and,↓qd,qb];apply hK;clear hK K;refine qL ?_;refine awp_rseq [0,1,5,6] (by rfl) fun K hK=>?_;simp+decide only[qa,ev,qH,qF,putD,VM,VN,Ka,true_and,↓qd,qb];apply hK;clear hK K;refine Qp ?_;refine XE [0,1,5,6] (fun s:FiG=>[(0,v),(1,w),(5, .int .i64 s.c),(6, .int .i64 s.i)]) (fun s:FiG=>h) (fun s:FiG=>FiOk l o s) (fun s:FiG=>o.length-s.i) ⟨0,0⟩ (by rfl) (Vl _) ⟨Js _,KJ _,by simp[alike]⟩ ?_;rintro⟨i,c⟩ ⟨g1,g2,g3⟩;simp only at g1 g2 g3|-
  refine qL ?_;refine awp_rseq [0,1,5,6,15] (by rfl) fun K hK=>?_;simp+decide only[qa,ev,putD,VM,VO,VN,Ka,true_and,↓qh,qc,↓Xt,QD,↓qA,ql,qZ,cond_false,qp,Zc,nw];apply hK;clear hK K;refine qK (b:=_) rfl (fun hb2=>?_) (fun hb2=>?_)
  ·try simp only[decide_eq_true_eq]at hb2
   have hi':i<o.length:=by omega
   obtain⟨lc,lo,cc,rfl⟩:=Wy hv (by omega);obtain⟨lc',lo',cc',rfl⟩:=Wy hw (by omega);obtain⟨e0,e1,e2,e3,e4⟩:=qar hv (i:=i) (by omega);obtain⟨d0,d1,d2,d3,d4⟩:=qar hw hi';have e2':rd wz h lc (lo+i*5+1+1)= .int .i64 (l.getD i ZC).line:=e2;have e3':rd wz h lc (lo+i*5+1+1+1)= .int .i64 (l.getD i ZC).col:=e3;have e4':rd wz h lc (lo+i*5+1+1+1+1)= .bool (l.getD i ZC).left:=e4;have d2':rd wz h lc' (lo'+i*5+1+1)= .int .i64 (o.getD i ZC).line:=d2;have d3':rd wz h lc' (lo'+i*5+1+1+1)= .int .i64 (o.getD i ZC).col:=d3;have d4':rd wz h lc' (lo'+i*5+1+1+1+1)= .bool (o.getD i ZC).left:=d4;have hst:alike (o.take (i+1)) (l.take (i+1))=(alike (o.take i) (l.take i) && qcu (l.getD i ZC) (o.getD i ZC)):=by
    rw[qkn o hi',qkn l (by omega),qjM (by simp;omega),qod]
   refine qV ?_;change Awp _ _ _ _ _ _ _;refine qL ?_;refine Qp ?_;refine qds 12 [] mixed (by kernel_rfl) (by rfl) ?_;simp only[Kh,VB,Es,Et];simp+decide only[qa,ev,putD,VM,VO,Ka,true_and,↓XD,qc,↓qbh,Xz,Qh Tryz.underlying26 QW,WZ,↓Zn,qg XY QW,qf,qB,qi,qE,allLive,JS,e0,e1,e2',e3',e4',d0,d1,d2',d3',d4',Vq];repeat (with_reducible refine And.intro ?_ ?_;· first|trivial|omega|(intro hg;simp only[Kw,JV,Ji,VP,VQ,VS,decide_eq_true_eq,decide_eq_false_iff_not,XT]at hg;omega))
   refine Xf (V:= .int .i64 (if qcu (l.getD i ZC) (o.getD i ZC)=true then 1 else 0)) (by rfl) (by rfl) (by first|trivial|(simp+decide only[Bb,Xu,and_true,true_and,QA,YR,Vd,JJ];done)|(simp[Bb,Xu,Bd];done)) (fun g hg=>qsh wz _ _ _) ?_;simp+decide only[Yl,ev,putD,VM,VO,Ka,true_and,↓qec,ql,qZ,cond_false,qp,Xc,↓qay,qb];try simp(disch:=omega)only[wrap_i64]
   change Awp _ _ _ _ _ _ _;refine XL [0,1,5,6] (by rfl) ?_;simp+decide only[qa,ev,qH,qF,putD,VM,VO,VN,Ka,true_and,↓qh,qc,↓qA,ql,qC,cond_false,qp,Xc,↓qd,qb];try simp(disch:=omega)only[wrap_i64]
   try simp only[Qi]
   cases hs:qcu (l.getD i ZC) (o.getD i ZC)with
   |true=>
    rw[hs,JS]at hst;exact⟨⟨i+1,c+1⟩,rfl,Vl _,⟨hi',by simp only;omega,by simp only;rw[hst,<-g3];omega⟩,by simp only;omega⟩
   |false=>
    rw[hs,Bool.and_false]at hst;exact⟨⟨i+1,c⟩,rfl,Vl _,⟨hi',by simp only;omega,by simp only;rw[hst];simp;omega⟩,by simp only;omega⟩
  ·try simp only[decide_eq_false_iff_not]at hb2
   refine XJ ?_;change Awp _ _ _ _ _ _ _;refine awp_rseq [4] (by rfl) fun K hK=>?_;simp+decide only[qa,ev,putD,VM,VO,VN,Ka,true_and,↓qh,qc,↓Xt,QD,↓qA,ql,qZ,cond_false,qp,XH,↓qd,qb,nw];apply hK;clear hK K;refine qN ?_;refine qW h zqC (qR (Qa)) ?_;simp+decide only[VO,if_true,and_true,Ql];rw[show ZB l o=decide ((c:Int)=o.length) by
    rw[show i=o.length by omega,Jq (KJ _)]at g3;unfold ZB;rw[decide_eq_true hol,Vf,Bool.eq_iff_iff,<-g3,decide_eq_true_eq];omega]
end Go.Proofs.YtlhhaagmakhilaaGreatDoor
namespace Go.Proofs.YtlhhaagmakhilaaGreatDoor
open Go.AM
open Go.Proofs
open Go.Col (Str FaultC okF sp)
open Go.Tok
open Go.Cop
open Go.RowKit (Below)
set_option maxRecDepth 100000
theorem XM(wz:World)(h:AHeap)(s:Str):ACall Tryz.prog wz 27 [.str s] h (fun r h'=>r= .agg [.int .u8 1, .str s, .int .i64 0, .int .i64 0, .bool false]/\h'=h):=by
 refine qP (n:=5) (rs:=[.cell 2 54]) Tryz.func27 rfl rfl rfl rfl (VL rfl) ?_;simp only[Qd];refine awp_rseq [0,2] (by rfl) fun K hK=>?_;refine Qk UO (cs:=[.int .u8 0, .str [], .int .i64 0, .int .i64 0, .bool false]) (by rfl) fun k0q0 hk0q0=>?_;try have hf_0q0:h k0q0=none:=by first|assumption|(simp only[V7]at hk0q0;simp only[hk0q0])
 simp+decide only[qa,putD,VM,VN,Ka];apply hK;clear hK K;refine awp_rseq [2] (by rfl) fun K hK=>?_;simp+decide only[ev,qH,qF,putD,VM,VO,Ka,true_and,↓qh,qc,↓Qr,↓qY,UA,evP,Kc,Vj];refine qo (by rfl) (by rfl) zqA QW (by rfl) (by rfl) zqD (Js _) (by rfl) ?_;simp only[Vh,VV];simp+decide only[qa,ev,putD,VO,VN,Ka,setAt,VW,Ki,Jr,Nat.reduceAdd];apply hK;clear hK K;refine qN ?_;refine qW h zqC (?_) ?_
 ·simp+decide only[QC,qj,VO,if_true,and_true,qj,qg XY QW,Qc,qf,VX,Km,Jr,Nat.reduceAdd,qB,qi,qE,allLive,JS,qf,VX,Km,Jr,Nat.reduceAdd,qB,qi,qE,allLive,JS]
 simp+decide only[VO,if_true,and_true,YH,qj,qg XY QW,Qc,qf,VX,Km,Jr,Nat.reduceAdd,qB,qi,qE,allLive,JS,qf,VX,Km,Jr,Nat.reduceAdd,qB,qi,qE,allLive,JS];all_goals first|rfl|exact⟨rfl,rfl⟩|(simp+decide only[Ka, *];done)|(trace_state;fail)
def plN(i:Nat)(l:List TokC):List TokC:=(qau l).take i++l.drop i
theorem qsY(l:List TokC):plN 0 l=l:=rfl
theorem qeG(i:Nat)(l:List TokC):(plN i l).length=l.length:=by
 unfold plN qau;simp;omega
theorem plN_all(l:List TokC):plN l.length l=qau l:=by
 unfold plN;rw[List.drop_length,Be,Jq (by unfold qau;simp)]
theorem qsZ{i:Nat}{l:List TokC}(hi:i<l.length):(plN i l).set i (atT i ((plN i l).getD i ZC))=plN (i+1) l:=by
 have hp:(qau l).length=l.length:=by unfold qau;simp
 have hg:(plN i l).getD i ZC=l.getD i ZC:=by
  unfold plN;rw[Kn,VA (by simp[hp];omega),K4,hp,Eu (by omega),Ev,Ko,K6];rfl
 rw[hg];apply List.ext_getElem?;intro j;rw[List.getElem?_set];by_cases e:i=j
 ·subst e
  rw[if_pos rfl,if_pos (by rw[qeG];exact hi)];unfold plN;rw[Ew (by simp[hp];omega),KZ,if_pos (by omega)];unfold qau;rw[List.getElem?_mapIdx,Jz hi];simp[Kn,hi]
 ·rw[if_neg e]
  unfold plN;by_cases h:j<i
  ·rw[Ew (by simp[hp];omega),Ew (by simp[hp];omega),KZ,KZ,if_pos h,if_pos (by omega)]
  ·rw[VA (by simp[hp];omega),VA (by simp[hp];omega)]
   simp only[K4,hp,Ko];rw[Eu (by omega),Eu (by omega),show i+(j-i)=j by omega,show i+1+(j-(i+1))=j by omega]
theorem Ug(l:List TokC):AM.allLive ((l.map QJ).flatten)=true:=Yc.2 fun x hx=>by obtain⟨y,_,rfl⟩:=JG.1 hx;rfl
theorem qfj(l:List TokC):QG ((l.map QJ).flatten)=true:=WV.2 fun x hx=>by obtain⟨y,_,rfl⟩:=JG.1 hx;rfl
theorem qkL:∀(l:List TokC) (i:Nat) (a b:AVal) (t:TokC),i<l.length->QJ t=(QJ (l.getD i ZC)).take 2++[a,b]++(QJ (l.getD i ZC)).drop 4->setAt ((l.map QJ).flatten) (i*5+2) [a,b]=((l.set i t).map QJ).flatten
 |[],i,_,_,_,h,_=>by simp at h
 |x::l,0,a,b,t,_,e=>by
  simp only[VX]at e;simp only[Kc,Vx,VW,e];rfl
 |x::l,i+1,a,b,t,h,e=>by
  simp only[Km]at e;have ih:=qkL l i a b t (by simpa using h) e;simp only[Kc,Vx,Ki];rw[<-ih,show(i+1)*5+2=5+(i*5+2) by omega,qct (m:=5) rfl]
theorem qmm{P:Program}{wz:World}{ops rest:List Oper}{s:Slots}{H:AHeap}{K:Slots->AHeap->Prop}{dst:Option Tmp}{ty:TypeId}{pos:String}{af:Array Edge}{t:TypeId}{x y:Operand}{k i:Nat}{l:List TokC}
 (hx:ev s x= .ptr (.own k) (i*5+2)) (hv:ev s y= .agg [.int .i64 (1+(i / 8:Nat)), .int .i64 (8+(i%8:Nat))]) (hb:H k=some ⟨(l.map QJ).flatten,0⟩) (hi:i<l.length) (hn:ZP P t=some 2)
 (hk:QB P wz ops rest (putD s dst (.tuple [])) (H.set k ⟨((l.set i ⟨(l.getD i ZC).kind,(l.getD i ZC).text,1+(i / 8:Nat),8+(i%8:Nat),(l.getD i ZC).left⟩).map QJ).flatten,0⟩) K):
 QB P wz ops (⟨dst, .store t x y,ty,pos,af,none⟩::rest) s H K:=by
 refine qo hx hv hb hn rfl rfl ?_ (Js _) rfl ?_
 ·simp only
  rw[Zp (es:=5) Xj,Jo];omega
 ·simp only[VV]
  rw[qkL l i _ _ ⟨(l.getD i ZC).kind,(l.getD i ZC).text,1+(i / 8:Nat),8+(i%8:Nat),(l.getD i ZC).left⟩ hi rfl];exact hk
structure Of2(h:AHeap)(l:List TokC)(g:Nat×Option Buf):Prop where
 i:g.1<=l.length
 ok:bufOk h 5 g.2
 eq:Ws g.2=((plN g.1 l).map QJ).flatten
theorem pl_left{l:List TokC}(hl:∀t∈l,t.left=false){i:Nat}(hi:i<l.length):(⟨((plN i l).getD i ZC).kind,((plN i l).getD i ZC).text,1+(i / 8:Nat),8+(i%8:Nat),((plN i l).getD i ZC).left⟩:TokC)=atT i ((plN i l).getD i ZC):=by
 have:((plN i l).getD i ZC).left=false:=by
  have hp:(qau l).length=l.length:=by unfold qau;simp
  unfold plN;rw[Kn,VA (by simp[hp];omega),K4,hp,Eu (by omega),Ev,Ko,K6,Jz hi];exact hl _ (VH hi)
 unfold atT;rw[this]
theorem qsO:∀{ns:List Nat},(∀n∈ns,n<256)->∀t∈qcg ns,t.left=false:=by
 intro ns hn t ht;have h:=(qcy hn).1;rw[<-h]at ht;obtain⟨y,-,rfl⟩:=JG.1 ht;rfl
set_option maxHeartbeats 1000000 in
theorem of_rest2(wz:World)(h:AHeap)(l:List TokC)(hlf:∀t∈l,t.left=false)(hl:l.length<=1000000)(tb:Option Buf)(hok:bufOk h 5 tb)(heq:Ws tb=(l.map QJ).flatten):
 Awp Tryz.prog wz 178 (UL 8 (qfC Tryz.f10)) (qdN Tryz.prog wz [.tmp 2] (fun r h'=>∃tb,r=QH 5 tb/\bufOk h 5 tb/\Ws tb=((qau l).map QJ).flatten/\h'=Qv h tb)) [(8,QH 5 tb)] (Qv h tb):=by
 have hlv:=QY 5 tb;change Awp _ _ _ (Code.seq _ _) _ _ _;refine qL ?_;refine awp_rseq [8,12] (by rfl) fun K hK=>?_;simp+decide only[qa,ev,qH,qF,putD,VM,VN,Ka,true_and,↓qd,qb];apply hK;clear hK K;refine Qp ?_;refine XE [8,12] (fun g:Nat×Option Buf=>[(8,QH 5 g.2),(12, .int .i64 g.1)]) (fun g:Nat×Option Buf=>Qv h g.2) (fun g:Nat×Option Buf=>Of2 h l g) (fun g:Nat×Option Buf=>l.length-g.1) (0,tb) (by rfl) (Vl _) ⟨Js _,hok,by rw[qsY];exact heq⟩ ?_;rintro⟨i,tb⟩ ⟨g1,g2,g3⟩;simp only at g1 g2 g3|-
 have hbl:=QY 5 tb;have hV:IsL wz (Qv h tb) 5 (QH 5 tb) ((plN i l).map QJ):=BF g2 (by decide) g3 Xj (Vl _);have hlen:=Ze hV;rw[qeG]at hlen;refine qL ?_;refine awp_rseq [8,12,163] (by rfl) fun K hK=>?_;simp+decide only[qa,ev,putD,VM,VO,VN,Ka,true_and,↓qh,qc,↓Xt,QD,↓qA,ql,qZ,cond_false,qp,Zc,hlen];apply hK;clear hK K;refine qK (b:=_) rfl (fun hb1=>?_) (fun hb1=>?_)
 ·try simp only[decide_eq_true_eq]at hb1
  have hi:i<l.length:=by omega
  obtain⟨b,rfl⟩:∃b,tb=some b:=by
   cases tb with
   |some b=>exact⟨b,rfl⟩
   |none=>
    have e:=congrArg BP g3;rw[Zp (es:=5) Xj,Jo,qeG]at e;simp[Ws]at e;omega
  have hbc:b.cells=((plN i l).map QJ).flatten:=g3;have hbv:QH 5 (some b)= .slice (.own b.blk) 0 l.length (.grow 5):=by
   show AVal.slice (.own b.blk) 0 (b.cells.length / 5) (.grow 5)=_
   rw[hbc,Zp (es:=5) Xj,Jo,qeG,Vn _ (by decide)]
  have hq:Int.tdiv (i:Int) 8=((i / 8:Nat):Int):=by rw[Int.tdiv_eq_ediv_of_nonneg (by omega)];omega
  have hr:Ex (i:Int) 8=((i%8:Nat):Int):=by rw[Ey (by omega)];omega
  refine qV ?_;change Awp _ _ _ _ _ _ _;refine qL ?_;refine Qp ?_;refine XL [8,12] (by rfl) ?_;simp+decide only[ev,qH,qF,putD,VM,VO,Ka,true_and,↓qh,qc,↓qA,ql,qC,cond_false,qp,pI_quo,qZ,Xc,qiR,↓Qr,↓qY,qcN,evP,Kc,Vj,hbv,hq,hr];try simp(disch:=omega)only[wrap_i64]
  try simp+decide only[ev,putD,VM,VO,Ka,true_and,↓QN,Qb,Qh Tryz.underlying26 QW,↓qD,qm,qhf,Jr,Vq,Jr]
  repeat (with_reducible refine And.intro ?_ ?_;· first|trivial|omega|(intro hg;simp only[Kw,JV,Ji,VP,VQ,VS,decide_eq_true_eq,decide_eq_false_iff_not,XT]at hg;omega))
  refine qmm (k:=b.blk) (i:=i) (l:=plN i l) (by rfl) (by rfl) (by rw[<-hbc];exact Vd _ _ _) (by rw[qeG];exact hi) qbc ?_;rw[pl_left hlf hi,qsZ hi];simp+decide only[qa,putD,VN,Ka];change Awp _ _ _ _ _ _ _;refine XL [8,12] (by rfl) ?_;simp+decide only[qa,ev,qH,qF,putD,VM,VO,VN,Ka,true_and,↓qh,qc,↓qA,ql,qC,cond_false,qp,Xc,↓qd,qb];try simp(disch:=omega)only[wrap_i64]
  try simp only[Qi]
  refine⟨(i+1,some ⟨b.blk,((plN (i+1) l).map QJ).flatten⟩),?_,?_,⟨hi,?_,rfl⟩,by simp only;omega⟩
  ·have hbv2:QH 5 (some ⟨b.blk,((plN (i+1) l).map QJ).flatten⟩)= .slice (.own b.blk) 0 l.length (.grow 5):=by
    show AVal.slice (.own b.blk) 0 (((plN (i+1) l).map QJ).flatten.length / 5) (.grow 5)=_
    rw[Zp (es:=5) Xj,Jo,qeG,Vn _ (by decide)]
   simp only;rw[hbv2];rfl
  ·show Sub ((h.set b.blk ⟨((plN (i+1) l).map QJ).flatten,0⟩)) ((h.set b.blk ⟨b.cells,0⟩).set b.blk ⟨((plN (i+1) l).map QJ).flatten,0⟩)
   rw[Vh];exact Vl _
  ·refine⟨g2.1,?_,?_⟩
   ·simp only
    rw[Zp (es:=5) Xj,Nat.mul_mod_left]
   ·exact Ug _
 ·try simp only[decide_eq_false_iff_not]at hb1
  have hil:i=l.length:=by omega
  rw[hil,plN_all]at g3;refine XJ ?_;change Awp _ _ _ _ _ _ _;refine awp_rseq [2] (by rfl) fun K hK=>?_;simp+decide only[qa,ev,putD,VM,VO,VN,Ka,true_and,↓qh,qc,↓qd,qb];apply hK;clear hK K;refine qN ?_;refine QS (qR (Qa)) ?_;simp+decide only[VO,if_true,Ql];exact⟨Qv h tb,Vl _,tb,rfl,g2,g3,rfl⟩
end Go.Proofs.YtlhhaagmakhilaaGreatDoor
namespace Go.AM
open Go.RowKit (Below)
section
variable {P:Program} {wz:World} {n:FrameK} {g₀:AHeap}
def qaw(P:Program)(wz:World)(l:List Oper)(g₀:AHeap):List Oper->Nat->List Nat->Slots->AHeap->(Slots->AHeap->Prop)->Prop
 |[],_,_,s,h,K=>K s h
 |o::r,0,_,s,h,K=>QB P wz l [o] s h fun s' h'=>Sub g₀ h'/\qaw P wz l g₀ r 0 [] s' h' K
 |o::r,m+1,1::bs,s,h,K=>∃V,(∀g,Sub h g->QB P wz l [o] s g fun s' h'=>s'=putD s o.dst V/\h'=g)/\qaw P wz l g₀ r m bs (putD s o.dst V) h K
 |o::r,m+1,2::bs,s,h,K=>QB P wz l [o] s g₀ fun s' _=>qaw P wz l g₀ r m bs s' h K
 |o::r,m+1,bs,s,h,K=>QB P wz l [o] s h fun s' h'=>Sub h h'/\qaw P wz l g₀ r m (bs.drop 1) s' h' K
theorem qnf{l:List Oper}{m:Nat}{bs:List Nat}{s:Slots}{h:AHeap}{K:Slots->AHeap->Prop}:qaw P wz l g₀ [] m bs s h K=K s h:=by cases m<;>rfl
theorem qkB{l:List Oper}{m:Nat}{bs:List Nat}{o:Oper}{r:List Oper}{s:Slots}{h:AHeap}{K:Slots->AHeap->Prop}:qaw P wz l g₀ (o::r) (m+1) (0::bs) s h K=QB P wz l [o] s h fun s' h'=>Sub h h'/\qaw P wz l g₀ r m bs s' h' K:=rfl
theorem qkz{l:List Oper}{bs:List Nat}{o:Oper}{r:List Oper}{s:Slots}{h:AHeap}{K:Slots->AHeap->Prop}:qaw P wz l g₀ (o::r) 0 bs s h K=QB P wz l [o] s h fun s' h'=>Sub g₀ h'/\qaw P wz l g₀ r 0 [] s' h' K:=rfl
theorem qrH{l:List Oper}{m:Nat}{bs:List Nat}{o:Oper}{r:List Oper}{s:Slots}{h:AHeap}{K:Slots->AHeap->Prop}{V:AVal}(hc:∀g,Sub h g->QB P wz l [o] s g fun s' h'=>s'=putD s o.dst V/\h'=g)(hk:qaw P wz l g₀ r m bs (putD s o.dst V) h K):qaw P wz l g₀ (o::r) (m+1) (1::bs) s h K:=⟨V,hc,hk⟩
theorem qrG{l:List Oper}{m:Nat}{bs:List Nat}{o:Oper}{r:List Oper}{s:Slots}{h:AHeap}{K:Slots->AHeap->Prop}:qaw P wz l g₀ (o::r) (m+1) (2::bs) s h K=QB P wz l [o] s g₀ fun s' _=>qaw P wz l g₀ r m bs s' h K:=rfl
theorem qkA{l:List Oper}{m:Nat}{bs:List Nat}(h1:bs.getD 0 0≠1)(h2:bs.getD 0 0≠2){o:Oper}{r:List Oper}{s:Slots}{h:AHeap}{K:Slots->AHeap->Prop}(hj:qaw P wz l g₀ (o::r) (m+1) bs s h K):QB P wz l [o] s h fun s' h'=>Sub h h'/\qaw P wz l g₀ r m (bs.drop 1) s' h' K:=by
 match bs,h1,h2,hj with
 |[],_,_,hj=>exact hj
 |0::bs,_,_,hj=>exact hj
 |1::bs,h1,_,_=>exact absurd rfl h1
 |2::bs,_,h2,_=>exact absurd rfl h2
 |(k+3)::bs,_,_,hj=>exact hj
theorem qow{l:List Oper}{m:Nat}{bs:List Nat}(hb:bs.getD 0 0=1){o:Oper}{r:List Oper}{s:Slots}{h:AHeap}{K:Slots->AHeap->Prop}(hj:qaw P wz l g₀ (o::r) (m+1) bs s h K):∃V,(∀g,Sub h g->QB P wz l [o] s g fun s' h'=>s'=putD s o.dst V/\h'=g)/\qaw P wz l g₀ r m (bs.drop 1) (putD s o.dst V) h K:=by
 match bs,hb,hj with
 |[],hb,_=>simp at hb
 |1::bs,_,hj=>exact hj
 |0::bs,hb,_=>simp at hb
 |(k+2)::bs,hb,_=>simp at hb
theorem qov{l:List Oper}{m:Nat}{bs:List Nat}(hb:bs.getD 0 0=2){o:Oper}{r:List Oper}{s:Slots}{h:AHeap}{K:Slots->AHeap->Prop}(hj:qaw P wz l g₀ (o::r) (m+1) bs s h K):QB P wz l [o] s g₀ fun s' _=>qaw P wz l g₀ r m (bs.drop 1) s' h K:=by
 match bs,hb,hj with
 |[],hb,_=>simp at hb
 |2::bs,_,hj=>exact hj
 |0::bs,hb,_=>simp at hb
 |1::bs,hb,_=>simp at hb
 |(k+3)::bs,hb,_=>simp at hb
theorem qou{l:List Oper}{bs bs':List Nat}{r:List Oper}{s:Slots}{h:AHeap}{K:Slots->AHeap->Prop}:qaw P wz l g₀ r 0 bs s h K=qaw P wz l g₀ r 0 bs' s h K:=by cases r<;>rfl
def isL(P:Program)(l:List Oper)(π:List Nat)(fl:List Nat)(m q:Nat):Bool:=decide (q<m) && (fl.getD q 0==1||isF P l (π.getD q 0))
def qoB(P:Program)(l:List Oper)(π:List Nat)(fl:List Nat)(ws:List (Option Nat))(m:Nat):Bool:=
 WN l && ((KO m).all fun q=> !(fl.getD q 0==2)||isF P l (π.getD q 0)) && (π.all fun i=>decide (i<l.length)) && ((KO l.length).all fun i=>π.contains i) &&
 ((KO π.length).all fun q=>(KO π.length).all fun r=>decide (q=r)|| !(π.getD q 0==π.getD r 0)) &&
 ((KO π.length).all fun q=>match ws.getD q none with
   |none=>(KO q).all fun c=>isL P l π fl m c
   |some r=>decide (r<q) && Region.waitsFor .any l.toArray (π.getD q 0) (π.getD r 0) && (KO q).all fun c=>decide (c<=r)||isL P l π fl m c) &&
 ((KO π.length).all fun q=>match l[π.getD q 0]? with
   |none=>true
   |some o=>(KO π.length).all fun r=>match l[π.getD r 0]? with
    |none=>true
    |some oj=>(match oj.dst with
     |none=>true
     |some t=> !(QE l o).contains t||(decide (q<r) && decide (m<=r) && !(fl.getD q 0==2))||(decide (r<q) && Region.waitsFor .any l.toArray (π.getD q 0) (π.getD r 0)))) &&
 decide (m<=π.length) && ((KO π.length).all fun q=>decide (q<m)|| !isL P l π fl m q) &&
 (decide (m=π.length)||(KO m).all fun q=>(fl.getD q 0==2)||(KO (m+1)).any fun r=>decide (q<r) && (decide (r=m)|| !(fl.getD r 0==2)) && Region.waitsFor .any l.toArray (π.getD r 0) (π.getD q 0))
structure FloatL(P:Program)(l:List Oper)(π:List Nat)(fl:List Nat)(m:Nat):Prop where
 order:WN l=true
 lateF:∀q,q<m->fl.getD q 0=2->isF P l (π.getD q 0)=true
 inr:∀q,q<π.length->π.getD q 0<l.length
 onto:∀i,i<l.length->∃q,q<π.length/\π.getD q 0=i
 inj:∀q r,q<π.length->r<π.length->π.getD q 0=π.getD r 0->q=r
 wait:∀q c,q<π.length->c<q->isL P l π fl m c=false->∃r,c<=r/\r<q/\Region.waitsFor .any l.toArray (π.getD q 0) (π.getD r 0)=true
 data:∀q r o oj t,q<π.length->r<π.length->l[π.getD q 0]?=some o->l[π.getD r 0]?=some oj->oj.dst=some t->t∈QE l o->(q<r/\m<=r/\fl.getD q 0≠2)\/(r<q/\Region.waitsFor .any l.toArray (π.getD q 0) (π.getD r 0)=true)
 mle:m<=π.length
 tail:∀q,m<=q->q<π.length->isL P l π fl m q=false
 sink:m<π.length->∀q,q<m->fl.getD q 0≠2->∃r,q<r/\r<=m/\(r=m\/fl.getD r 0≠2)/\Region.waitsFor .any l.toArray (π.getD r 0) (π.getD q 0)=true
theorem qnk{l:List Oper}{π:List Nat}{fl:List Nat}{ws:List (Option Nat)}{m:Nat}(h:qoB P l π fl ws m=true):FloatL P l π fl m:=by
 unfold qoB at h;simp only[Kw]at h;obtain⟨⟨⟨⟨⟨⟨⟨⟨⟨h1,hL⟩,h2⟩,h3⟩,h4⟩,h5⟩,h6⟩,h7⟩,h8⟩,h9⟩:=h;simp only[JC,JD]at hL h2 h3 h4 h5 h6 h8;refine⟨h1,fun q hq e=>by
  have z:=hL q hq;rw[JV]at z;rcases z with z|z
  ·rw[e]at z;simp at z
  ·exact z,fun q hq=>?_,fun i hi=>?_,fun q r hq hr e=>?_,fun q c hq hc hf=>?_,fun q r o oj t hq hr ho hoj hd ht=>?_,by simpa using h7,fun q hm hq=>?_,fun hm q hq hq2=>?_⟩
 ·have:=h2 (π.getD q 0) (by rw[Kn,Jz hq];exact VH hq)
  simpa using this
 ·have:=h3 i hi
  rw[JW]at this;obtain⟨q,hq,e⟩:=BM this;exact⟨q,hq,by rw[Kn,Jz hq];exact e⟩
 ·have:=h4 q hq r hr
  rw[JV,decide_eq_true_eq]at this;rcases this with e'|e'
  ·exact e'
  ·rw[e]at e';simp at e'
 ·have:=h5 q hq
  split at this
  ·rw[JC]at this
   rw[this c (JD.2 hc)]at hf;cases hf
  ·rename_i r _
   simp only[Kw,decide_eq_true_eq,JC,JD,JV]at this;obtain⟨⟨t1,t2⟩,t3⟩:=this;rcases t3 c hc with e|e
   ·exact⟨r,e,t1,t2⟩
   ·rw[e]at hf;cases hf
 ·have:=h6 q hq
  rw[ho]at this;simp only[JC,JD]at this;have:=this r hr;rw[hoj]at this;simp only[hd,JV,Kw,decide_eq_true_eq,Ji]at this;rcases this with(e|e)|e
  ·have hm:(QE l o).contains t=true:=by simpa using ht
   rw[hm]at e;cases e
  ·exact .inl ⟨e.1.1,e.1.2,by simpa using e.2⟩
  ·exact .inr e
 ·have:=h8 q hq
  simp only[JV,decide_eq_true_eq,Ji]at this;rcases this with e|e
  ·omega
  ·exact e
 ·rw[JV,decide_eq_true_eq]at h9
  rcases h9 with e|e
  ·omega
  ·rw[JC]at e
   have:=e q (JD.2 hq);rw[JV]at this;rcases this with this|this
   ·exact absurd (by simpa using this) hq2
   rw[JX]at this;obtain⟨r,hr,hw⟩:=this;rw[JD]at hr;simp only[Kw,JV,decide_eq_true_eq]at hw;exact⟨r,hw.1.1,by omega,hw.1.2.imp id (fun z=>by simpa using z),hw.2⟩
theorem qnR{l:List Oper}(hall:Xg n l=true){π:List Nat}{fl:List Nat}{m:Nat}(F:FloatL P l π fl m){K:Slots->AHeap->Prop}{g:AHeap}(hg₀:Sub g₀ g):∀(d p:Nat) (S:Slots),π.length-p=d->p<=π.length->qaw P wz l g₀ ((Zk l π).drop p) (m-p) (fl.drop p) S g K->
 ∃p' S',p<=p'/\p'<=π.length/\(p'<π.length->isL P l π fl m p'=false)/\(∀q,p<=q->q<p'->isL P l π fl m q=true)/\qaw P wz l g₀ ((Zk l π).drop p') (m-p') (fl.drop p') S' g K/\
  (∀q o,p<=q->q<p'->l[π.getD q 0]?=some o->∃V,(∀t,o.dst=some t->S'.get t=V)/\FactC P wz n l g S' o V/\(fl.getD q 0=2->FactC P wz n l g₀ S' o V))/\
  (∀t,(∀q o,p<=q->q<p'->l[π.getD q 0]?=some o->o.dst≠some t)->S'.get t=S.get t):=by
 intro d;induction d with
 |zero=>
  intro p S hd hp ha;exact⟨p,S,KJ _,hp,fun h=>by omega,fun q h1 h2=>by omega,ha,fun q o h1 h2=>by omega,fun t _=>rfl⟩
 |succ d ih=>
  intro p S hd hp ha;have hpl:p<π.length:=by omega
  cases hf:isL P l π fl m p with
  |false=>exact⟨p,S,KJ _,hp,fun _=>hf,fun q h1 h2=>by omega,ha,fun q o h1 h2=>by omega,fun t _=>rfl⟩
  |true=>
   have hpm:p<m:=by
    refine JO fun h=>?_;rw[F.tail p h hpl]at hf;cases hf
   obtain⟨o,ho⟩:∃o,l[π.getD p 0]?=some o:=⟨_,Jz (F.inr p hpl)⟩
   rw[YJ F.inr hpl ho,show m-p=(m-(p+1))+1 by omega]at ha;have hfl:(fl.drop p).getD 0 0=fl.getD p 0:=by simp[Kn,Ko]
   have hfd:(fl.drop p).drop 1=fl.drop (p+1):=by rw[BN]
   obtain⟨V,hv,hfact,hfact₀⟩:∃V,qaw P wz l g₀ ((Zk l π).drop (p+1)) (m-(p+1)) (fl.drop (p+1)) (putD S o.dst V) g K/\FactC P wz n l g S o V/\(fl.getD p 0=2->FactC P wz n l g₀ S o V):=by
    by_cases hb2:fl.getD p 0=2
    ·have ha:=qov (by rw[hfl,hb2]) ha
     rw[hfd]at ha;have hk2:Ya P o.op=2:=by
      have:=F.lateF p hpm hb2;unfold isF at this;rw[ho]at this;simpa using this
     obtain⟨V,hv,hfact⟩:=qgo hall hk2 ha;exact⟨V,hv,hfact.toC.sub hg₀,fun _=>hfact.toC⟩
    ·by_cases hb1:fl.getD p 0=1
     ·obtain⟨V,h1,h2⟩:=qow (by rw[hfl,hb1]) ha
      rw[hfd]at h2;exact⟨V,h2,qkO hall h1,fun e=>absurd e hb2⟩
     ·have hk2:Ya P o.op=2:=by
       unfold isL isF at hf;rw[ho]at hf;simp only[Kw,JV,beq_iff_eq,hb1,false_or]at hf;simpa using hf.2
      have ha:=qkA (by rw[hfl];exact hb1) (by rw[hfl];exact hb2) ha;rw[hfd]at ha;obtain⟨V,⟨_,hv⟩,hfact⟩:=qgo hall hk2 ha;exact⟨V,hv,hfact.toC,fun e=>absurd e hb2⟩
   obtain⟨p',S',a1,a2,a3,a4,a5,a6,a7⟩:=ih (p+1) (putD S o.dst V) (by omega) (by omega) hv;have notlook:∀q oq t,p<=q->q<p'->l[π.getD q 0]?=some oq->oq.dst=some t->t∉QE l o:=fun q oq t h1 h2 h3 h4 ht=>by
    rcases F.data p q o oq t hpl (by omega) ho h3 h4 ht with⟨c1,c2,_⟩|⟨c1,_⟩
    ·have:=a4 q (by omega) h2
     rw[F.tail q c2 (by omega)]at this;cases this
    ·omega
   have uniq:∀q oq t,p<q->q<π.length->l[π.getD q 0]?=some oq->oq.dst=some t->o.dst≠some t:=fun q oq t h1 h2 h3 h4 e=>by
    have:=((XC F.order ho).2 _ oq t h3 h4).1 e;have:=F.inj p q hpl h2 this;omega
   refine⟨p',S',by omega,a2,a3,fun q h1 h2=>?_,a5,fun q oq h1 h2 hq=>?_,fun t ht=>?_⟩
   ·rcases JB h1 with e|e
    ·rw[<-e];exact hf
    ·exact a4 q e h2
   ·rcases JB h1 with e|e
    ·subst e
     rw[ho]at hq;obtain rfl:=Option.some.inj hq;have hsl:∀t∈QE l o,S'.get t=S.get t:=fun t ht=>by
      rw[a7 t fun q oq h3 h4 h5 h6=>notlook q oq t (by omega) (by omega) h5 h6 ht,XG,if_neg fun e=>notlook p o t (KJ _) (by omega) ho e ht]
     refine⟨V,fun t ht=>?_,hfact.slots hsl,fun e=>(hfact₀ e).slots hsl⟩;rw[a7 t fun q oq h3 h4 h5 h6=>uniq q oq t h3 (by omega) h5 h6 ht,XG,if_pos ht]
    ·exact a6 q oq e h2 hq
   ·rw[a7 t fun q oq h3 h4 h5=>ht q oq (by omega) h4 h5,XG,if_neg (ht p o (KJ _) (by omega) ho)]
def PhaseL(P:Program)(wz:World)(n:FrameK)(g₀:AHeap)(l:List Oper)(π:List Nat)(fl:List Nat)(m:Nat)(K:Slots->AHeap->Prop)(listed:Array Bool)(Ps:PMap)(a:Act)(w:World):Prop:=
 listed.size=l.length/\(∀j oj,l[j]?=some oj->listed.getD j false=true->∀e∈oj.after,Region.binds .any e=true->listed.getD e.on false=true)/\a.tmps.size=n/\a.defers=n.dfr/\
 ∃p S g,p<=π.length/\(p<π.length->isL P l π fl m p=false)/\(∀q,p<=q->q<π.length->listed.getD (π.getD q 0) false=false)/\(∀q,q<p->isL P l π fl m q=false->listed.getD (π.getD q 0) false=true)/\
  (m<p->∀q,q<p->fl.getD q 0≠2->listed.getD (π.getD q 0) false=true)/\Sub g₀ g/\HRel wz Ps g w/\qaw P wz l g₀ ((Zk l π).drop p) (m-p) (fl.drop p) S g K/\
  (∀q o,q<p->l[π.getD q 0]?=some o->listed.getD (π.getD q 0) false=false->∃V,(∀t,o.dst=some t->S.get t=V)/\FactC P wz n l g S o V/\(fl.getD q 0=2->FactC P wz n l g₀ S o V))/\
  ∀t,(∃q o,q<p/\l[π.getD q 0]?=some o/\o.dst=some t/\listed.getD (π.getD q 0) false=false)\/VR Ps (S.get t) (a.tmps.getD t undef)
theorem any_okL{l:List Oper}(hall:Xg n l=true){π:List Nat}{fl:List Nat}{m:Nat}(F:FloatL P l π fl m){K:Slots->AHeap->Prop}{fi:PMap}{Q:Exit->Act->World->Prop}
 (hq:∀Ps S g a w,fi.le Ps->HRel wz Ps g w->SRel Ps n S a->K S g->Q .normal a w):∀(fuel:Nat) (listed:Array Bool) (a:Act) (w:World) (Ps:PMap),fi.le Ps->PhaseL P wz n g₀ l π fl m K listed Ps a w->
 (listed.toList.filter (!·)).length<=fuel->wpAny P .any l.toArray Q fuel listed a w:=by
 have hB:=F.order;have fin:∀(listed:Array Bool) (a:Act) (w:World) (Ps:PMap),fi.le Ps->PhaseL P wz n g₀ l π fl m K listed Ps a w->Region.ready .any l.toArray listed=[]->Q .normal a w:=by
  rintro listed a w Ps hle ⟨i1,i2,i3,i4,p,S,g,p1,p2,p3,p4,p5,pg,p6,p7,p8,p9⟩ hrd;have hal:=qaE hB i1 hrd;have hp:p=π.length:=by
   rcases JB p1 with e|e
   ·exact e
   ·have:=p3 p (KJ _) e
    rw[hal _ (F.inr p e)]at this;cases this
  subst hp;rw[show(Zk l π).drop π.length=[] by rw[<-qab F.inr];simp,qnf]at p7;refine hq Ps S g a w hle p6 ⟨i3,i4,fun t=>?_⟩ p7;rcases p9 t with⟨q,o,c1,c2,c3,c4⟩|c
  ·rw[hal _ (F.inr q c1)]at c4;cases c4
  ·exact c
 intro fuel;induction fuel with
 |zero=>
  intro listed a w Ps hle inv hc;have hrd:Region.ready .any l.toArray listed=[]:=by
   cases hrd:Region.ready .any l.toArray listed with
   |nil=>rfl
   |cons i r=>
    exfalso;have hm:i∈Region.ready .any l.toArray listed:=by rw[hrd];exact Je
    obtain⟨h1,o,ho,_⟩:=mem_ready.1 hm;have hi:i<listed.size:=by
     have:l[i]?=some o:=by simpa using ho
     rw[inv.1];exact(JA.1 this).1
    have h2:listed.toList[i]?=some false:=by
     simp[JE,hi]at h1;simp[hi,h1]
    have:=JZ h2;have hmem:false∈listed.toList.filter (!·):=by simp[J2,this]
    have:=J3 hmem;omega
  exact⟨hrd,fin listed a w Ps hle inv hrd⟩
 |succ fuel ih=>
  intro listed a w Ps hle inv hc;refine⟨fun hrd=>fin listed a w Ps hle inv hrd,fun i hi=>?_⟩;obtain⟨i1,i2,i3,i4,p,S,g,p1,p2,p3,p4,p5,pg,p6,p7,p8,p9⟩:=inv;obtain⟨h1,o,ho,hedges⟩:=mem_ready.1 hi;have hol:l[i]?=some o:=by simpa using ho
  have hilt:i<l.length:=(JA.1 hol).1;have hisz:i<listed.size:=by rw[i1];exact hilt
  have hif:listed.getD i false=false:=by simp[JE,hisz]at h1|-;exact h1
  have hcount:((listed.setIfInBounds i true).toList.filter (!·)).length<=fuel:=by
   have h2:listed.toList[i]?=some false:=by
    simp[JE,hisz]at h1;simp[hisz,h1]
   have:=qaB listed.toList i h2;have e:(listed.setIfInBounds i true).toList=listed.toList.set i true:=by simp
   rw[e];omega
  have hdn:∀d,o.dst=some d->d<n:=fun d hd=>qbF l i d hall (by rw[Yf,hol];exact hd);obtain⟨q,hql,hqi⟩:=F.onto i hilt;have hoq:l[π.getD q 0]?=some o:=by rw[hqi];exact hol
  have looks:LookOk Ps n l o S a:=⟨i3,i4,fun t ht=>by
   rcases p9 t with⟨r,oj,c1,c2,c3,c4⟩|c
   ·exfalso
    rcases F.data q r o oj t hql (by omega) hoq c2 c3 ht with⟨d1,d2,d3⟩|⟨_,this⟩
    ·have:=p5 (by omega) q (by omega) d3
     rw[hqi,hif]at this;cases this
    ·rw[hqi]at this
     rw[YA hol hedges this]at c4;cases c4
   ·exact c⟩
  have closed':∀j oj,l[j]?=some oj->(listed.setIfInBounds i true).getD j false=true->∀e∈oj.after,Region.binds .any e=true->(listed.setIfInBounds i true).getD e.on false=true:=fun j oj hj hl e he hb=>by
   by_cases e1:e.on=i
   ·rw[e1];exact set_self hisz
   ·rw[Xy e1]
    by_cases e2:j=i
    ·subst e2
     rw[hol]at hj;obtain rfl:=Option.some.inj hj;exact hedges e he hb
    ·rw[Xy e2]at hl
     exact i2 j oj hj hl e he hb
  have other:∀r,r<π.length->r≠q->(listed.setIfInBounds i true).getD (π.getD r 0) false=listed.getD (π.getD r 0) false:=fun r hr hne=>Xy fun e=>hne (F.inj r q hr hql (by rw[e,hqi]));have nobehind:p<q->False:=fun hpq=>by
   obtain⟨r,r1,r2,r3⟩:=F.wait q p hql hpq (p2 (by omega));rw[hqi]at r3;have:=YA hol hedges r3;rw[p3 r r1 (by omega)]at this;cases this
  have goal:(if Region.wanted o (yielded l.toArray a.tmps)=true then o.wp P a w (wpAny P .any l.toArray Q fuel (listed.setIfInBounds i true)) Q else wpAny P .any l.toArray Q fuel (listed.setIfInBounds i true) (a.put o.dst undef) w):=by
   rcases KT q p with hqp|hqp
   ·
    obtain⟨V,v1,v2,-⟩:=p8 q o hqp hoq (by rw[hqi];exact hif);refine v2 Ps w a g _ Q (Vl g) p6 looks fun ψ₂ v wx hle₂ hr₂ hv=>?_;refine ih _ _ _ ψ₂ (J6 hle hle₂) ⟨by simp[i1],closed',by rw[UG];exact i3,by rw[put_defers];exact i4,p,S,g,p1,p2,fun r r1 r2=>?_,fun r r1 r2=>?_,fun hm r r1 r2=>?_,pg,hr₂,p7,fun r oj r1 r2 r3=>?_,fun t=>?_⟩ hcount
    ·rw[other r r2 (by omega)];exact p3 r r1 r2
    ·by_cases e:r=q
     ·rw[e,hqi];exact set_self hisz
     ·rw[other r (by omega) e];exact p4 r r1 r2
    ·by_cases e:r=q
     ·rw[e,hqi];exact set_self hisz
     ·rw[other r (by omega) e];exact p5 hm r r1 r2
    ·by_cases e:r=q
     ·rw[e,hqi,set_self hisz]at r3;cases r3
     ·rw[other r (by omega) e]at r3
      exact p8 r oj r1 r2 r3
    ·by_cases hod:o.dst=some t
     ·right
      rw[v1 t hod,Yr a hod (by rw[i3];exact hdn t hod)];exact hv t hod
     ·rcases p9 t with⟨r,oj,c1,c2,c3,c4⟩|c
      ·refine .inl ⟨r,oj,c1,c2,c3,?_⟩
       rw[other r (by omega) fun e=>by subst e;rw[hoq]at c2;obtain rfl:=Option.some.inj c2;exact hod c3];exact c4
      ·right
       rw[Zz a hod];exact Yj hle₂ _ _ c
   ·have hqe:q=p:=by
     rcases JB hqp with e|e
     ·exact e.symm
     ·exact(nobehind e).elim
    subst hqe;have all_m:m<=q->∀r,r<q->fl.getD r 0≠2->listed.getD (π.getD r 0) false=true:=fun hm r hr hr2=>by
     rcases JB hm with e|e
     ·subst e
      have key:∀d r,r+d=m->r<m->fl.getD r 0≠2->listed.getD (π.getD r 0) false=true:=by
       intro d;induction d using Jv with
       |ind d ihd=>
        intro r hd hr hr2;obtain⟨r',s1,s2,s4,s3⟩:=F.sink hql r hr hr2;rcases JB s2 with e|e
        ·subst e
         rw[hqi]at s3;exact YA hol hedges s3
        ·have hl:=ihd (m-r') (by omega) r' (by omega) e (s4.resolve_left (by omega))
         obtain⟨oj,hoj⟩:∃oj,l[π.getD r' 0]?=some oj:=⟨_,Jz (F.inr r' (by omega))⟩
         exact YA hoj (i2 _ oj hoj hl) s3
      exact key (m-r) r (by omega) hr hr2
     ·exact p5 e r hr hr2
    obtain⟨K',ha,hnext⟩:∃K':Slots->AHeap->Prop,QB P wz l [o] S g K'/\∀s' h',K' s' h'->(q<m->Sub g h')/\Sub g₀ h'/\qaw P wz l g₀ ((Zk l π).drop (q+1)) (m-(q+1)) (fl.drop (q+1)) s' h' K:=by
     rw[YJ F.inr hql hoq]at p7;have hfl:(fl.drop q).getD 0 0=fl.getD q 0:=by simp[Kn,Ko]
     have hfd:(fl.drop q).drop 1=fl.drop (q+1):=by rw[BN]
     by_cases c:q<m
     ·have hfb:fl.getD q 0≠1/\fl.getD q 0≠2:=by
       have:=p2 hql;unfold isL at this;rw[decide_eq_true c,Vf,VQ]at this;refine⟨by simpa using this.1,fun e=>?_⟩;rw[F.lateF q c e]at this;cases this.2
      rw[show m-q=(m-(q+1))+1 by omega]at p7;have p7:=qkA (by rw[hfl];exact hfb.1) (by rw[hfl];exact hfb.2) p7;rw[hfd]at p7;exact⟨_,p7,fun s' h' hx=>⟨fun _=>hx.1,pg.trans hx.1,hx.2⟩⟩
     ·rw[show m-q=0 by omega,qkz]at p7
      refine⟨_,p7,fun s' h' hx=>⟨fun hc=>absurd hc c,hx.1,?_⟩⟩;rw[show m-(q+1)=0 by omega,qou (bs':=[])];exact hx.2
    refine qgY hall ha p6 looks fun ψ' x h' v w' e1 e2 e3 hk=>?_;obtain⟨k1,kg,k2⟩:=hnext _ _ hk;obtain⟨p',S',a1,a2,a3,a4,a5,a6,a7⟩:=qnR hall F kg (π.length-(q+1)) (q+1) (putD S o.dst x) rfl (by omega) k2;have keep:∀r or t,r<q->l[π.getD r 0]?=some or->listed.getD (π.getD r 0) false=false->(or.dst=some t\/t∈QE l or)->S'.get t=S.get t:=fun r or t hr hor hun ht=>by
     have nd:∀u ou,q<=u->u<max p' (q+1)->u<π.length->l[π.getD u 0]?=some ou->ou.dst≠some t:=fun u ou h1 hup h2 h3 h4=>by
      rcases ht with ht|ht
      ·have:=((XC hB hor).2 _ ou t h3 h4).1 ht
       have:=F.inj r u (by omega) h2 this;omega
      ·rcases F.data r u or ou t (by omega) h2 hor h3 h4 ht with⟨c1,c2,c3⟩|⟨c1,_⟩
       ·rcases JB h1 with e|e
        ·subst e
         rw[all_m c2 r hr c3]at hun;cases hun
        ·have:=a4 u e (by omega)
         rw[F.tail u c2 h2]at this;cases this
       ·omega
     rw[a7 t fun u ou h1 h2 h3=>nd u ou (by omega) (by omega) (by omega) h3,XG,if_neg (nd q o (KJ _) (by omega) hql hoq)]
    refine ih _ _ _ ψ' (J6 hle e1) ⟨by simp[i1],closed',by rw[UG];exact i3,by rw[put_defers];exact i4,p',S',h',a2,a3,fun r r1 r2=>?_,fun r r1 r2=>?_,fun hm r r1 rl=>?_,kg,e2,a5,fun r oj r1 r2 r3=>?_,fun t=>?_⟩ hcount
    ·rw[other r r2 (by omega)];exact p3 r (by omega) r2
    ·by_cases e:r=q
     ·rw[e,hqi];exact set_self hisz
     ·rw[other r (by omega) e]
      rcases KT r q with c|c
      ·exact p4 r c r2
      ·rw[a4 r (by omega) r1]at r2;cases r2
    ·have hmq:m<=q:=by
      refine Kr fun hc=>?_;have hmp:m<π.length:=by omega
      have:=a4 m (by omega) hm;rw[F.tail m (KJ _) hmp]at this;cases this
     by_cases e:r=q
     ·rw[e,hqi];exact set_self hisz
     ·rw[other r (by omega) e]
      rcases KT r q with c|c
      ·exact all_m hmq r c rl
      ·have:=a4 r (by omega) r1
       rw[F.tail r (by omega) (by omega)]at this;cases this
    ·by_cases e:r=q
     ·rw[e,hqi,set_self hisz]at r3;cases r3
     ·rw[other r (by omega) e]at r3
      rcases KT r q with c|c
      ·obtain⟨V,v1,v2,v3⟩:=p8 r oj c r2 r3
       have hsl:∀t∈QE l oj,S'.get t=S.get t:=fun t ht=>keep r oj t c r2 r3 (.inr ht);refine⟨V,fun t ht=>(keep r oj t c r2 r3 (.inl ht)).trans (v1 t ht),?_,fun e=>(v3 e).slots hsl⟩;by_cases e2:fl.getD r 0=2
       ·exact((v3 e2).sub kg).slots hsl
       ·have hqm:q<m:=by
         refine JO fun hm=>?_;rw[all_m hm r c e2]at r3;cases r3
        exact(v2.sub (k1 hqm)).slots hsl
      ·exact a6 r oj (by omega) r1 r2
    ·by_cases hod:o.dst=some t
     ·right
      rw[a7 t fun u ou h1 h2 h3 h4=>by
       have:=((XC hB hoq).2 _ ou t h3 h4).1 hod;have:=F.inj q u hql (by omega) this;omega,XG,if_pos hod,Yr a hod (by rw[i3];exact hdn t hod)]
      exact e3
     ·by_cases hw:∃r or,q+1<=r/\r<p'/\l[π.getD r 0]?=some or/\or.dst=some t
      ·obtain⟨r,or,w1,w2,w3,w4⟩:=hw
       exact .inl ⟨r,or,w2,w3,w4,by rw[other r (by omega) (by omega)];exact p3 r (by omega) (by omega)⟩
      ·have hS:S'.get t=S.get t:=by
        rw[a7 t fun u ou h1 h2 h3 h4=>hw ⟨u,ou,h1,h2,h3,h4⟩,XG,if_neg hod]
       rcases p9 t with⟨r,oj,c1,c2,c3,c4⟩|c
       ·exact .inl ⟨r,oj,by omega,c2,c3,by rw[other r (by omega) (by omega)];exact c4⟩
       ·right
        rw[hS,Zz a hod];exact Yj e1 _ _ c
  simp only[wpOp,ho];split
  ·rename_i hw
   rw[if_pos hw]at goal;exact .inl goal
  ·rename_i hw
   rw[if_neg hw]at goal;exact goal
theorem qpi{Q:Exit->Slots->AHeap->Prop}{s:Slots}{h:AHeap}{id:Nat}{l:List Oper}(π:List Nat)(fl:List Nat)(ws:List (Option Nat))(m:Nat)(g₀:AHeap)(hm:P.follows .mixedOrders=true)(hB:qoB P l π fl ws m=true)(hd:Xg n l=true)(hg₀:Sub g₀ h)
 (hc:qaw P wz l g₀ (Zk l π) m fl s h fun s' h'=>Q .normal s' h'):Awp P wz n (.region id l.toArray true) Q s h:=by
 refine Awp.of0 ?_;intro fi a w hr hs;have F:=qnk hB;refine wp_region_any hm ?_;have hf:∀j,(Jw l.toArray.size false).getD j false=false:=fun j=>by simp[JE]
 obtain⟨p',S',a1,a2,a3,a4,a5,a6,a7⟩:=qnR hd F hg₀ π.length 0 s rfl (Js _) (by rw[Jg,KP];exact hc);refine any_okL (fi:=fi) hd F (K:=fun s' h'=>Q .normal s' h') (fun Ps S g a' w' hle h1 h2 h3=>⟨Ps,S,g,hle,h1,h2,h3⟩) _ _ _ _ fi fi.le_refl
  ⟨by simp,fun j oj _ hl=>(by rw[hf]at hl;cases hl),hs.size,hs.defers,p',S',h,a2,a3,fun r _ _=>hf _,fun r r1 r2=>?_,fun hm' r r1 _=>?_,hg₀,hr.drew,a5,fun r oj r1 r2 _=>a6 r oj (Js _) r1 r2,fun t=>?_⟩ ?_
 ·rw[a4 r (Js _) r1]at r2;cases r2
 ·have:=a4 m (Js _) hm'
  rw[F.tail m (KJ _) (by omega)]at this;cases this
 ·by_cases hw:∃r or,r<p'/\l[π.getD r 0]?=some or/\or.dst=some t
  ·obtain⟨r,or,w2,w3,w4⟩:=hw
   exact .inl ⟨r,or,w2,w3,w4,hf _⟩
  ·right
   rw[a7 t fun u ou _ h2 h3 h4=>hw ⟨u,ou,h2,h3,h4⟩];exact hs.val t
 ·have:=J9 (!·) (Jw l.toArray.size false).toList
  simpa using this
end
end Go.AM
namespace Go.Proofs.YtlhhaagmakhilaaGreatDoor
open Go.AM
open Go.Proofs
open Go.Col (Str FaultC okF sp)
open Go.Tok
open Go.Cop
open Go.RowKit (Below)
set_option maxRecDepth 100000
structure OfB(wz:World)(B:AHeap)(kp ka kr:Nat)(rs:List AVal):Prop where
 per:B kp=some ⟨QJ qmS,0⟩
 pla:B ka=some ⟨(plainC.map QJ).flatten,0⟩
 row:B kr=some ⟨rs,0⟩
 prs:∀i,i<6->IsL wz B 5 (rs.getD i .dead) ((pairsC.getD i []).map QJ)
structure Of1(B:AHeap)(x:List UInt8)(g:Nat×Option Buf):Prop where
 i:g.1<=x.length
 i2:g.1<=60
 ok:bufOk B 5 g.2
 eq:Ws g.2=((qcg ((x.take g.1).map Ez)).map QJ).flatten
theorem qsN{x:List UInt8}{i:Nat}(hi:i<x.length):qcg ((x.take (i+1)).map Ez)=qcg ((x.take i).map Ez)++qcm (x.getD i 0).toNat:=by
 rw[VJ,Jz hi,Ba,qsP];simp[Kn,hi,qcg]
theorem raw_end{x:List UInt8}{i:Nat}(hi:i<=60)(h:i=60\/x.length<=i):qcg ((x.take i).map Ez)=qcg (qdi x):=by
 unfold qdi;rcases h with h|h
 ·rw[h]
 ·rw[Jq h,Jq (V5 h hi)]
theorem qpw(x:List UInt8){i:Nat}(hi:i<=60):(qcg ((x.take i).map Ez)).length<=840:=by
 have h:=(qcy (ns:=(x.take i).map Ez) (fun n hn=>by obtain⟨b,-,rfl⟩:=JG.1 hn;exact b.toNat_lt)).2;rw[Jo,K4]at h;omega
theorem qoI:∀i:Fin 8,(([48,49,50,51,52,53,54,55]:Str).drop i.val).take (i.val+1-i.val)=[KC (48+i.val)]:=by decide
theorem qhm{n:Nat}(h:n<160):qcm n=[plainC.getD (n%8) ZC]:=by
 unfold qcm;rw[if_pos h,qnh plainC noT ZC (by show n%8<8;omega)]
theorem qgU:∀i:Fin 6,(pairsC.getD i.val []).length<=10:=by decide
set_option maxHeartbeats 8000000 in
theorem of_rest1(wz:World)(h B:AHeap)(hBs:Sub h B)(v:AVal)(x:List UInt8)(hv:IsL wz h 1 v (x.map qcj))(hl:x.length<=9223372036854775807)(kp ka kr:Nat)(rs:List AVal)(hB:OfB wz B kp ka kr rs):
 Awp Tryz.prog wz 178 (UL 6 (qfC Tryz.f10)) (qdN Tryz.prog wz [.tmp 2] (fun r h'=>∃tb,r=QH 5 tb/\bufOk h 5 tb/\Ws tb=((lOf x).map QJ).flatten/\h'=Qv h tb)) [(0,v),(3, .func 27 []),(4, .ptr (.own kp) 0),(6, .slice (.own ka) 0 8 (.exact 8)),(7, .slice (.own kr) 0 6 (.exact 6))] (B):=by
 have hlv:=hv.live;have hlen:=hv.len Tryz.underlying23;rw[Jo]at hlen;obtain⟨b1,b2,b3,b4⟩:=hB;change Awp _ _ _ (Code.seq _ _) _ _ _;refine awp_rseq [0,3,4,6,7,8] (by rfl) fun K hK=>?_;simp+decide only[qa,ev,qH,qF,putD,VM,VN,Ka,true_and,↓qd,qb];apply hK;clear hK K;refine qL ?_;refine awp_rseq [0,3,4,6,7,8,9] (by rfl) fun K hK=>?_;simp+decide only[qa,ev,qH,qF,putD,VM,VN,Ka,true_and,↓qd,qb];apply hK;clear hK K;refine Qp ?_;refine XE [0,3,4,6,7,8,9] (fun g:Nat×Option Buf=>[(0,v),(3, .func 27 []),(4, .ptr (.own kp) 0),(6, .slice (.own ka) 0 8 (.exact 8)),(7, .slice (.own kr) 0 6 (.exact 6)),(8,QH 5 g.2),(9, .int .i64 g.1)]) (fun g:Nat×Option Buf=>Qv B g.2) (fun g:Nat×Option Buf=>Of1 B x g) (fun g:Nat×Option Buf=>60-g.1) (0,none) (by rfl) (Vl _) ⟨Js _,Js _,trivial,rfl⟩ ?_;rintro⟨i,tb⟩ ⟨g1,g4,g2,g3⟩;simp only at g1 g2 g3 g4|-
 have hbl:=QY 5 tb;have hSb:Sub h (Qv B tb):=hBs.trans (BH g2);refine qL ?_;refine awp_rseq [0,3,4,6,7,8,9,106] (by rfl) fun K hK=>?_;simp+decide only[qa,ev,qH,qF,putD,VM,VO,VN,Ka,true_and,↓qh,qc,↓Xt,QD,↓qA,ql,qZ,cond_false,qp,Zc,↓Xe,agP,Qt,qJ,qI,qy,implies_true,↓Xb,qC,XZ,Za,↓QR,Qs,Qg,Xn,Xp,hlen];apply hK;clear hK K;refine qK (b:=_) rfl (fun hb1=>?_) (fun hb1=>?_)
 ·try simp only[decide_eq_true_eq,Kw]at hb1
  have hi:i<x.length:=by omega
  have hi2:i<60:=by omega
  obtain⟨lc,o,cp,e⟩:=hv.open (fun e=>by rw[VU]at e;subst e;simp at hi);rw[Jo]at e;subst e;have he:=(hv.mono hSb).elem (i:=i) (by rw[Jo];exact hi);rw[getD_map 0 hi,BI]at he;simp only[qf,qcj,List.cons.injEq,and_true]at he;obtain⟨n,hn⟩:∃n,n=(x.getD i 0).toNat:=⟨_,rfl⟩
  have hn8:n<256:=by rw[hn];exact UInt8.toNat_lt _
  have hst:=qsN hi;obtain⟨l,hl0⟩:∃l,l=qcg ((x.take i).map Ez):=⟨_,rfl⟩
  have hll:l.length<=840:=by rw[hl0];exact qpw x (by omega)
  rw[<-hl0,<-hn]at hst;rw[<-hl0]at g3;rw[<-hn]at he;have m8:Ex (n:Int) 8=((n%8:Nat):Int):=by rw[Ey (by omega)];omega
  have m6:Ex (n:Int) 6=((n%6:Nat):Int):=by rw[Ey (by omega)];omega
  have hP:IsL wz (Qv B tb) 5 (.slice (.own ka) 0 plainC.length (.exact 8)) (plainC.map QJ):=V8 (ZU g2 b2) Xj rfl rfl (.exact 8) (KJ _);obtain⟨t,ht⟩:∃t,t=plainC.getD (n%8) ZC:=⟨_,rfl⟩
  obtain⟨p0,p1,p2,p3,p4⟩:=qar hP (i:=n%8) (by show n%8<8;omega);rw[<-ht]at p0 p1 p2 p3 p4;rw[Jr]at p0 p1 p2 p3 p4;have p2':rd wz (Qv B tb) (.own ka) (n%8*5+1+1)= .int .i64 t.line:=p2;have p3':rd wz (Qv B tb) (.own ka) (n%8*5+1+1+1)= .int .i64 t.col:=p3;have p4':rd wz (Qv B tb) (.own ka) (n%8*5+1+1+1+1)= .bool t.left:=p4;have hcut:=qoI ⟨n%8,by omega⟩;simp only at hcut;have hcut1:List.take ((((n%8:Nat):Int)+1).toNat-n%8) (List.drop (n%8) ([48,49,50,51,52,53,54,55]:Str))=[KC (48+n%8)]:=by
   rw[show(((n%8:Nat):Int)+1).toNat=n%8+1 by omega];exact hcut
  obtain⟨nm,hnm⟩:∃nm,nm=qpE n:=⟨_,rfl⟩
  refine qV ?_;change Awp _ _ _ _ _ _ _;refine qL ?_;refine Qp ?_;refine awp_rseq [0,3,4,6,7,8,9,10] (by rfl) fun K hK=>?_;simp+decide only[qa,ev,putD,VM,VO,VN,Ka,true_and,↓qh,qc,↓QN,Qb,Qh Tryz.underlying23 sz5,↓qG,qz ag5,↓qjL _ _ _ (es_int Tryz.underlying5 Tryz.underlying3),qdS,qry Tryz.underlying5 Tryz.underlying3,↓qd,qb,qi,he,Vq,BI];try simp(disch:=omega)only[wrap_i64]
  repeat (with_reducible refine And.intro ?_ ?_;· first|trivial|omega|(intro hg;simp only[Kw,JV,Ji,VP,VQ,VS,decide_eq_true_eq,decide_eq_false_iff_not,XT]at hg;omega)|(simp only[Jb,Jo,Eo,Ep,K4,K5,KX,J8,Er,V4];omega))
  apply hK;clear hK K;refine qL ?_;refine awp_rseq [0,3,4,6,7,8,9,10,115] (by rfl) fun K hK=>?_;simp+decide only[qa,ev,qH,qF,putD,VM,VO,VN,Ka,true_and,↓qh,qc,↓qA,ql,qC,cond_false,qp,Zc];apply hK;clear hK K;refine qK (b:=_) rfl (fun hb2=>?_) (fun hb2=>?_)
  ·try simp only[decide_eq_true_eq]at hb2
   refine awp_rseq [0,3,4,6,7,8,9] (by rfl) fun K hK=>?_;simp+decide only[ev,qH,qF,putD,VM,VO,Ka,true_and,↓qh,qc,↓qA,ql,qC,cond_false,qp,qiR,↓QN,Qb,Qh Tryz.underlying26 QW,↓qG,qg XY QW,qf,Jr,qB,qi,qE,allLive,JS,Vq,Jr,p0,p1,p2',p3',p4',Jr,m8,Vq];repeat (with_reducible refine And.intro ?_ ?_;· first|trivial|omega|(intro hg;simp only[Kw,JV,Ji,VP,VQ,VS,decide_eq_true_eq,decide_eq_false_iff_not,XT]at hg;omega)|(simp only[Jb,Jo,Eo,Ep,K4,K5,KX,J8,Er,V4];omega))
   refine Qn (cs:=QJ (t)) (by kernel_rfl) fun k12q6 hk12q6=>?_;try have hf_12q6:h k12q6=none:=by first|assumption|(simp only[V7]at hk12q6;simp only[hk12q6])
   refine Xw (es:=5) (zs:=(l).map QJ) (xs:=[t].map QJ) (hZ:=B) (b:=tb) (by rfl) (by rfl) Tryz.underlying26 Tryz.underlying26 (fun k e=>by cases e) QW qhn UO (by rfl) (by decide) (by rfl) g2 g3 Xj (Vg (by assumption)) (by rfl) (V8 (Vd _ _ _) (by simp[QJ]) (by rfl) (by rfl) (.exact 1) (KJ _)) (by rfl) (by simp;omega) (by simp;omega) fun tb2 htb2 o1tb2 o2tb2 o3tb2=>?_;simp+decide only[qa,ev,putD,VM,VO,VN,Ka,true_and,↓qd,qb];apply hK;clear hK K;refine XJ ?_;change Awp _ _ _ _ _ _ _;refine XL [0,3,4,6,7,8,9] (by rfl) ?_;simp+decide only[qa,ev,qH,qF,putD,VM,VO,VN,Ka,true_and,↓qh,qc,↓qA,ql,qC,cond_false,qp,Xc,↓qd,qb];try simp(disch:=omega)only[wrap_i64]
   try simp only[Qi]
   first
   |exact⟨(i+1,tb2),rfl,o3tb2,⟨hi,hi2,o1tb2,by simp only;rw[o2tb2,hst,qhm (by omega),ht];simp⟩,by simp only;omega⟩
   |exact⟨(i+1,tb6),rfl,o3tb6,⟨hi,hi2,o1tb6,by simp only;rw[o2tb6,hst,hck (by omega),if_neg (by omega)];simp⟩,by simp only;omega⟩
   |exact⟨(i+1,tj),rfl,Vl _,⟨hi,hi2,z1,by simp only;rw[hst,hck (by omega),if_pos (by omega),Be];exact z2⟩,by simp only;omega⟩
  ·try simp only[decide_eq_false_iff_not]at hb2
   refine qV ?_;change Awp _ _ _ _ _ _ _;refine awp_rseq [0,3,4,6,7,8,9,10,11] (by rfl) fun K hK=>?_;simp+decide only[ev,qH,qF,putD,VM,VO,Ka,true_and,↓qh,qc,↓qA,ql,qC,cond_false,qp,qiR,Xc,m8];try simp(disch:=omega)only[wrap_i64]
   try simp+decide only[qa,ev,qH,qF,putD,VM,VO,VN,Ka,true_and,↓WU,Zt,evO,qfp Tryz.underlying9,qaH,UH,↓qA,ql,qZ,cond_false,Zl,qfs,↓qd,qb,Vq,hcut1]
   repeat (with_reducible refine And.intro ?_ ?_;· first|trivial|omega|(intro hg;simp only[Kw,JV,Ji,VP,VQ,VS,decide_eq_true_eq,decide_eq_false_iff_not,XT]at hg;omega)|(simp only[KX,J8];omega))
   apply hK;clear hK K;refine qL ?_;refine awp_rseq [0,3,4,6,7,8,9,10,11,132] (by rfl) fun K hK=>?_;simp+decide only[qa,ev,qH,qF,putD,VM,VO,VN,Ka,true_and,↓qh,qc,↓qA,ql,qC,cond_false,qp,XH];apply hK;clear hK K;refine Ub [0,3,4,6,7,8,9,10,11] (fun z:Unit=>[(0, .slice lc o x.length cp),(3, .func 27 []),(4, .ptr (.own kp) 0),(6, .slice (.own ka) 0 8 (.exact 8)),(7, .slice (.own kr) 0 6 (.exact 6)),(8,QH 5 tb),(9, .int .i64 i),(10, .int .i64 n),(11, .str nm)]) (fun z:Unit=>Qv B tb) (fun z:Unit=>True) ?_ ?_
   ·refine qK (b:=_) rfl (fun hb3=>?_) (fun hb3=>?_)
    ·try simp only[decide_eq_true_eq]at hb3
     have hN:nm=[77,57]:=by rw[hnm];unfold qpE;rw[if_pos (by omega)]
     refine XL [0,3,4,6,7,8,9,10,11] (by rfl) ?_;simp+decide only[qa,ev,qH,qF,putD,VM,VN,Ka,true_and,and_true,↓qd,qb];try simp only[Qi]
     first
     |exact⟨(),by rw[hN]<;>rfl,Vl _⟩
     |exact⟨(),by rw[hN,<-hcut1]<;>rfl,Vl _,trivial⟩
    ·try simp only[decide_eq_false_iff_not]at hb3
     have hN:nm=[77]++[KC (48+n%8)]:=by rw[hnm];unfold qpE;rw[if_neg (by omega)];rfl
     refine qV ?_;try simp only[Qi]
     first
     |exact⟨(),by rw[hN]<;>rfl,Vl _⟩
     |exact⟨(),by rw[hN,<-hcut1]<;>rfl,Vl _,trivial⟩
   ·rintro z-
    refine awp_rseq [0,3,4,6,7,8,9,10] (by rfl) fun K hK=>?_;simp+decide only[ev,putD,VM,VO,Ka,true_and,↓qh,qc];refine qM (V:= .agg [.int .u8 1, .str [67,79,80,89], .int .i64 0, .int .i64 0, .bool false]) (by rfl) (by rfl) (XM wz _ _) ?_;simp+decide only[ev,putD,VM,VO,Ka,true_and,↓qh,qc];refine qM (V:= .agg [.int .u8 1, .str nm, .int .i64 0, .int .i64 0, .bool false]) (by rfl) (by rfl) (XM wz _ _) ?_;refine Qn (cs:=QJ (wd COPY)++QJ (wd nm)) (by kernel_rfl) fun k16q6 hk16q6=>?_;try have hf_16q6:h k16q6=none:=by first|assumption|(simp only[V7]at hk16q6;simp only[hk16q6])
    refine Xw (es:=5) (zs:=(l).map QJ) (xs:=[wd COPY,wd nm].map QJ) (hZ:=B) (b:=tb) (by rfl) (by rfl) Tryz.underlying26 Tryz.underlying26 (fun k e=>by cases e) QW qhn UO (by rfl) (by decide) (by rfl) g2 g3 Xj (Vg (by assumption)) (by rfl) (V8 (Vd _ _ _) (by simp[QJ]) (by rfl) (by rfl) (.exact 2) (KJ _)) (by rfl) (by simp;omega) (by simp;omega) fun tb3 htb3 o1tb3 o2tb3 o3tb3=>?_;simp+decide only[qa,ev,putD,VM,VO,VN,Ka,true_and,↓qd,qb];apply hK;clear hK K;refine qL ?_;refine BG (h':=Qv B tb3) o3tb3 ?_;refine awp_rseq [0,3,4,6,7,8,9,10,142] (by rfl) fun K hK=>?_;simp+decide only[qa,ev,qH,qF,putD,VM,VO,VN,Ka,true_and,↓qh,qc,↓qA,ql,qC,cond_false,qp,qav];apply hK;clear hK K;refine Ub [0,3,4,6,7,8,9,10] (fun z:Option Buf=>[(0, .slice lc o x.length cp),(3, .func 27 []),(4, .ptr (.own kp) 0),(6, .slice (.own ka) 0 8 (.exact 8)),(7, .slice (.own kr) 0 6 (.exact 6)),(8,QH 5 z),(9, .int .i64 i),(10, .int .i64 n)]) (fun z:Option Buf=>Qv B z) (fun z:Option Buf=>bufOk B 5 z/\Ws z=((l++(wd COPY::wd nm::if 200<=n then wd Yo::pairsC.getD (n%6) []else[])).map QJ).flatten) ?_ ?_
    ·refine qK (b:=_) rfl (fun hb4=>?_) (fun hb4=>?_)
     ·try simp only[decide_eq_true_eq]at hb4
      obtain⟨sl,hsl⟩:∃sl,sl=rs.getD (n%6) .dead:=⟨_,rfl⟩
      have hsI:=b4 (n%6) (by omega);rw[<-hsl]at hsI;have hsv:=hsI.live;have r6:rd wz B (.own kr) (n%6)=sl:=by rw[hsl];exact Qz wz b3 _
      refine qpi [0,1,2,5,6,7,8,9,3,4,10,11] [0,0,1,2,2,2,2,2,0,0,0,0] [none,none,none,none,none,none,none,none,none,some 8,some 9,some 10] 9 (B) mixed (by kernel_rfl) (by rfl) (BH o1tb3) ?_;simp only[Zk,VI,Ec,Ky,KL];simp+decide only[qa,ev,putD,VM,VO,Ka,true_and,qkB,Yv,↓qh,qc];refine qrH (V:= .agg [.int .u8 1, .str [82,69,80,76,65,67,73,78,71], .int .i64 0, .int .i64 0, .bool false]) (fun g hg=>?_) ?_
      ·exact qM (V:= .agg [.int .u8 1, .str [82,69,80,76,65,67,73,78,71], .int .i64 0, .int .i64 0, .bool false]) (by rfl) (by rfl) (XM wz _ _) ⟨rfl,rfl⟩
      simp+decide only[qa,ev,qH,qF,putD,VM,VO,Ka,true_and,qkB,qrG,qkz,qnf,↓qh,qc,↓qA,ql,qC,cond_false,qp,qiR,↓QN,Qb,Qh Tryz.underlying67 sz26,↓qG,qz UJ,Jr,Vq,BI,Jr,r6,hsv,m6,Vq,BI,Jr];repeat (with_reducible refine And.intro ?_ ?_;· first|trivial|omega|(intro hg;simp only[Kw,JV,Ji,VP,VQ,VS,decide_eq_true_eq,decide_eq_false_iff_not,XT]at hg;omega)|(simp only[Jb,Jo,Eo,Ep,K4,K5,KX,J8,Er,V4];omega))
      refine Qn (cs:=QJ (wd Yo)) (by kernel_rfl) fun k18q3 hk18q3=>?_;try have hf_18q3:h k18q3=none:=by first|assumption|(simp only[V7]at hk18q3;simp only[hk18q3])
      rw[qa];refine And.intro (by first|exact Vl _|assumption|exact Vg (by assumption)) ?_;simp+decide only[putD,VM,Ka];refine Xw (es:=5) (zs:=(l++[wd COPY,wd nm]).map QJ) (xs:=[wd Yo].map QJ) (hZ:=B) (b:=tb3) (by rfl) (by rfl) Tryz.underlying26 Tryz.underlying26 (fun k e=>by cases e) QW qhn UO (by rfl) (by decide) (by rfl) o1tb3 (by rw[o2tb3];simp) Xj (Vg (by assumption)) (by rfl) (V8 (Vd _ _ _) (by simp[QJ]) (by rfl) (by rfl) (.exact 1) (KJ _)) (by rfl) (by simp;omega) (by simp;omega) fun tb4 htb4 o1tb4 o2tb4 o3tb4=>?_;have hSg4:Sub B htb4:=BJ (BH o1tb4) o3tb4;rw[qa];refine And.intro (by first|exact Vl _|assumption|exact Vg (by assumption)) ?_;simp+decide only[putD,VM,Ka];refine Xw (es:=5) (zs:=(l++[wd COPY,wd nm]++[wd Yo]).map QJ) (xs:=(pairsC.getD (n%6) []).map QJ) (hZ:=B) (b:=tb4) (by rfl) (by rfl) Tryz.underlying26 Tryz.underlying26 (fun k e=>by cases e) QW qhn UO (by rfl) (by decide) (by rfl) o1tb4 (by rw[o2tb4];simp) Xj o3tb4 (by rfl) (hsI.mono (BJ (BH o1tb4) o3tb4)) (qfj _) (by have:=qgU ⟨n%6,by omega⟩;simp only[Jo,Jb,KX,J8]at this|-;omega) (by have:=qgU ⟨n%6,by omega⟩;simp only[Jo,Jb,KX,J8]at this|-;omega) fun tb5 htb5 o1tb5 o2tb5 o3tb5=>?_;have hSg5:Sub B htb5:=BJ (BH o1tb5) o3tb5;rw[qa];refine And.intro (by first|exact Vl _|assumption|exact Vg (by assumption)) ?_;simp+decide only[qa,ev,putD,VM,VO,Ka,true_and,↓qd,qb,hSg5];try simp only[Qi]
      first
      |exact⟨tb5,rfl,o3tb5,o1tb5,by rw[o2tb5,if_pos (by omega)];simp⟩
      |exact⟨tb3,rfl,Vl _,o1tb3,by rw[o2tb3,if_neg (by omega)];simp⟩
     ·try simp only[decide_eq_false_iff_not]at hb4
      refine qV ?_;try simp only[Qi]
      first
      |exact⟨tb5,rfl,o3tb5,o1tb5,by rw[o2tb5,if_pos (by omega)];simp⟩
      |exact⟨tb3,rfl,Vl _,o1tb3,by rw[o2tb3,if_neg (by omega)];simp⟩
    ·rintro tj ⟨z1,z2⟩
     have hbj:=QY 5 tj;obtain⟨q0,q1,q2,q3,q4⟩:rd wz (Qv B tj) (.own kp) 0= .int .u8 6/\rd wz (Qv B tj) (.own kp) 1= .str [46]/\rd wz (Qv B tj) (.own kp) 2= .int .i64 0/\rd wz (Qv B tj) (.own kp) 3= .int .i64 0/\rd wz (Qv B tj) (.own kp) 4= .bool false:=⟨qfc wz z1 b1 0,qfc wz z1 b1 1,qfc wz z1 b1 2,qfc wz z1 b1 3,qfc wz z1 b1 4⟩
     obtain⟨lz,hlz⟩:∃lz,lz=l++(wd COPY::wd nm::if 200<=n then wd Yo::pairsC.getD (n%6) []else[]):=⟨_,rfl⟩
     have hlzl:lz.length<=900:=by
      have:=qgU ⟨n%6,by omega⟩;rw[hlz];split<;>simp only[Jb,KX,J8]at this|- <;>omega
     rw[<-hlz]at z2;have hck:¬n<160->l++qcm n=lz++(if n=254 then[]else[qmS]):=by
      intro h160;unfold qcm;rw[if_neg h160,hlz,hnm];simp
     refine awp_rseq [0,3,4,6,7,8,9,155] (by rfl) fun K hK=>?_;simp+decide only[qa,ev,qH,qF,putD,VM,VO,VN,Ka,true_and,↓qh,qc,↓qA,ql,qC,cond_false,qp,qaP];apply hK;clear hK K;refine qK (b:=_) rfl (fun hb5=>?_) (fun hb5=>?_)
     ·try simp only[decide_eq_false_iff_not,Ji]at hb5
      refine XL [0,3,4,6,7,8,9] (by rfl) ?_;simp+decide only[ev,putD,VM,VO,Ka,true_and,↓qh,qc,↓qG,Qb,qg XY QW,qf,Jr,Nat.reduceAdd,qB,qi,qE,allLive,JS,q0,q1,q2,q3,q4];refine Qn (cs:=QJ (qmS)) (by kernel_rfl) fun k20q2 hk20q2=>?_;try have hf_20q2:h k20q2=none:=by first|assumption|(simp only[V7]at hk20q2;simp only[hk20q2])
      refine Xw (es:=5) (zs:=(lz).map QJ) (xs:=[qmS].map QJ) (hZ:=B) (b:=tj) (by rfl) (by rfl) Tryz.underlying26 Tryz.underlying26 (fun k e=>by cases e) QW qhn UO (by rfl) (by decide) (by rfl) z1 z2 Xj (Vg (by assumption)) (by rfl) (V8 (Vd _ _ _) (by simp[QJ]) (by rfl) (by rfl) (.exact 1) (KJ _)) (by rfl) (by simp;omega) (by simp;omega) fun tb6 htb6 o1tb6 o2tb6 o3tb6=>?_;simp+decide only[qa,ev,putD,VM,VO,VN,Ka,true_and,↓qd,qb];change Awp _ _ _ _ _ _ _;refine XL [0,3,4,6,7,8,9] (by rfl) ?_;simp+decide only[qa,ev,qH,qF,putD,VM,VO,VN,Ka,true_and,↓qh,qc,↓qA,ql,qC,cond_false,qp,Xc,↓qd,qb];try simp(disch:=omega)only[wrap_i64]
      try simp only[Qi]
      first
      |exact⟨(i+1,tb2),rfl,o3tb2,⟨hi,hi2,o1tb2,by simp only;rw[o2tb2,hst,qhm (by omega),ht];simp⟩,by simp only;omega⟩
      |exact⟨(i+1,tb6),rfl,o3tb6,⟨hi,hi2,o1tb6,by simp only;rw[o2tb6,hst,hck (by omega),if_neg (by omega)];simp⟩,by simp only;omega⟩
      |exact⟨(i+1,tj),rfl,Vl _,⟨hi,hi2,z1,by simp only;rw[hst,hck (by omega),if_pos (by omega),Be];exact z2⟩,by simp only;omega⟩
     ·try simp only[decide_eq_true_eq,VS]at hb5
      refine qV ?_;change Awp _ _ _ _ _ _ _;refine XL [0,3,4,6,7,8,9] (by rfl) ?_;simp+decide only[qa,ev,qH,qF,putD,VM,VO,VN,Ka,true_and,↓qh,qc,↓qA,ql,qC,cond_false,qp,Xc,↓qd,qb];try simp(disch:=omega)only[wrap_i64]
      try simp only[Qi]
      first
      |exact⟨(i+1,tb2),rfl,o3tb2,⟨hi,hi2,o1tb2,by simp only;rw[o2tb2,hst,qhm (by omega),ht];simp⟩,by simp only;omega⟩
      |exact⟨(i+1,tb6),rfl,o3tb6,⟨hi,hi2,o1tb6,by simp only;rw[o2tb6,hst,hck (by omega),if_neg (by omega)];simp⟩,by simp only;omega⟩
      |exact⟨(i+1,tj),rfl,Vl _,⟨hi,hi2,z1,by simp only;rw[hst,hck (by omega),if_pos (by omega),Be];exact z2⟩,by simp only;omega⟩
 ·try simp only[decide_eq_false_iff_not,VP]at hb1
  refine XJ ?_;change Awp _ _ _ _ _ _ _;have hbl:=QY 5 tb;have he1:=raw_end (x:=x) (i:=i) g4 (by omega);rw[he1]at g3;refine BG (h':=Qv h tb) (En hBs) ?_;refine Va [8] ?_;exact of_rest2 wz h (qcg (qdi x)) (qsO (qlA x)) (V5 (by rw[<-he1];exact qpw x g4) (by decide)) tb (g2.sub hBs) g3
end Go.Proofs.YtlhhaagmakhilaaGreatDoor
namespace Go.Proofs.YtlhhaagmakhilaaGreatDoor
open Go.AM
open Go.Proofs
open Go.Col (Str FaultC okF sp)
open Go.Tok
open Go.Cop
open Go.RowKit (Below)
set_option maxRecDepth 100000
set_option maxHeartbeats 8000000 in
theorem qoZ(wz:World)(h:AHeap)(v:AVal)(x:List UInt8)(hv:IsL wz h 1 v (x.map qcj))(hl:x.length<=9223372036854775807):
 ACall Tryz.prog wz 10 [v] h (fun r h'=>∃tb,r=QH 5 tb/\bufOk h 5 tb/\Ws tb=((lOf x).map QJ).flatten/\h'=Qv h tb):=by
 have hlv:=hv.live;have hlen:=hv.len Tryz.underlying23;rw[Jo]at hlen;refine qP (n:=178) (rs:=[.tmp 2]) Tryz.func10 rfl rfl rfl rfl (VL rfl) ?_;simp only[Qd];refine awp_rseq [0] (by rfl) fun K hK=>?_;simp+decide only[qa,ev,qH,qF,putD,VM,VN,Ka,true_and,↓qd,qb];apply hK;clear hK K;refine awp_rseq [0,3] (by rfl) fun K hK=>?_;simp+decide only[qa,ev,putD,VM,VN,Ka,true_and,↓qd,qb];apply hK;clear hK K;refine awp_rseq [0,3,4] (by rfl) fun K hK=>?_;simp+decide only[ev,qH,qF,putD,VM,VO,if_false,true_and,↓Qr,↓qY,UA,evP,Kc,Vj];refine Qk UO (cs:=[.int .u8 0, .str [], .int .i64 0, .int .i64 0, .bool false]) (by rfl) fun k2q1 hk2q1=>?_;try have hf_2q1:h k2q1=none:=by first|assumption|(simp only[V7]at hk2q1;simp only[hk2q1])
 refine qo (by rfl) (by rfl) zqA QW (by rfl) (by rfl) zqD (Js _) (by rfl) ?_;simp only[Vh,VV];simp+decide only[qa,ev,putD,VM,VO,VN,Ka,setAt,VW,Ki,Jr,Nat.reduceAdd];apply hK;clear hK K;refine awp_rseq [0,3,4,5] (by rfl) fun K hK=>?_;simp+decide only[ev,qH,qF,putD,VM,VO,if_false,true_and,↓Qr,↓qY,UA,evP,Kc,Vj];refine Qk UO (cs:=[.int .u8 0, .str [], .int .i64 0, .int .i64 0, .bool false]) (by rfl) fun k3q1 hk3q1=>?_;have ne_3q1_2q1:k3q1≠k2q1:=by simp only[V7]at hk3q1;simp only[hk3q1,ne_eq,not_false_eq_true]
 try have hf_3q1:h k3q1=none:=by first|assumption|(simp only[V7]at hk3q1;simp only[hk3q1])
 refine qo (by rfl) (by rfl) zqA QW (by rfl) (by rfl) zqD (Js _) (by rfl) ?_;simp only[Vh,VV];simp+decide only[qa,ev,putD,VM,VO,VN,Ka,setAt,VW,Ki,Jr,Nat.reduceAdd];apply hK;clear hK K;refine YM 14 [] [0,3,4,5,6] mixed (by kernel_rfl) (by rfl) fun K hK=>?_;simp only[Kh,VB,Es,Et];simp+decide only[qa,ev,putD,VM,VO,Ka,true_and,↓XD,qc];refine Xf (V:= .agg [.int .u8 1, .str [65], .int .i64 0, .int .i64 0, .bool false]) (by rfl) (by rfl) (by first|trivial|(simp+decide only[Bb,Xu,and_true,true_and,QA,YR,Vd,JJ];done)|(simp[Bb,Xu,Bd];done)) (fun g hg=>XM wz _ _) ?_;simp+decide only[ev,putD,VM,VO,Ka,true_and,↓XD,qc];refine Xf (V:= .agg [.int .u8 1, .str [66], .int .i64 0, .int .i64 0, .bool false]) (by rfl) (by rfl) (by first|trivial|(simp+decide only[Bb,Xu,and_true,true_and,QA,YR,Vd,JJ];done)|(simp[Bb,Xu,Bd];done)) (fun g hg=>XM wz _ _) ?_;simp+decide only[ev,putD,VM,VO,Ka,true_and,↓XD,qc];refine Xf (V:= .agg [.int .u8 1, .str [67], .int .i64 0, .int .i64 0, .bool false]) (by rfl) (by rfl) (by first|trivial|(simp+decide only[Bb,Xu,and_true,true_and,QA,YR,Vd,JJ];done)|(simp[Bb,Xu,Bd];done)) (fun g hg=>XM wz _ _) ?_;simp+decide only[ev,putD,VM,VO,Ka,true_and,↓XD,qc];refine Xf (V:= .agg [.int .u8 1, .str [66,89], .int .i64 0, .int .i64 0, .bool false]) (by rfl) (by rfl) (by first|trivial|(simp+decide only[Bb,Xu,and_true,true_and,QA,YR,Vd,JJ];done)|(simp[Bb,Xu,Bd];done)) (fun g hg=>XM wz _ _) ?_;simp+decide only[ev,qH,qF,putD,VM,VO,Ka,true_and,↓Un,↓qY,UA,evP,Kc,Vj,↓Zn,Xz,qg XY QW,QL,ne_eq,not_false_eq_true,ne_3q1_2q1.symm,QP,qf,VX,Km,Jr,Nat.reduceAdd,qB,qi,qE,allLive,JS];refine WJ (cs:=[.int .u8 1, .str [65], .int .i64 0, .int .i64 0, .bool false, .int .u8 1, .str [66], .int .i64 0, .int .i64 0, .bool false, .int .u8 1, .str [67], .int .i64 0, .int .i64 0, .bool false, .int .u8 1, .str [66,89], .int .i64 0, .int .i64 0, .bool false, .int .u8 2, .str [53], .int .i64 0, .int .i64 0, .bool false, .int .u8 3, .str [65], .int .i64 0, .int .i64 0, .bool false, .int .u8 6, .str [46], .int .i64 0, .int .i64 0, .bool false, .int .u8 5, .str [40], .int .i64 0, .int .i64 0, .bool false]) (by kernel_rfl) fun k4q12 hk4q12=>?_;have ne_4q12_2q1:k4q12≠k2q1:=by simp only[V7]at hk4q12;simp only[hk4q12,ne_eq,not_false_eq_true]
 have ne_4q12_3q1:k4q12≠k3q1:=by simp only[V7]at hk4q12;simp only[hk4q12,ne_eq,not_false_eq_true]
 try have hf_4q12:h k4q12=none:=by first|assumption|(simp only[V7]at hk4q12;simp only[hk4q12])
 simp+decide only[Yl,ev,putD,VM,VO,VN,Ka,true_and,↓qay,qb];apply hK;clear hK K;refine YM 72 [] [0,3,4,6,7] mixed (by kernel_rfl) (by rfl) fun K hK=>?_;simp only[List.append_eq,Kg,Jd];simp only[Kh,VB,Es,Et];simp+decide only[qa,ev,putD,VM,VO,Ka,true_and,↓XD,qc];refine Xf (V:= .agg [.int .u8 1, .str [65], .int .i64 0, .int .i64 0, .bool false]) (by rfl) (by rfl) (by first|trivial|(simp+decide only[Bb,Xu,and_true,true_and,QA,YR,Vd,JJ];done)|(simp[Bb,Xu,Bd];done)) (fun g hg=>XM wz _ _) ?_;simp+decide only[ev,putD,VM,VO,Ka,true_and,↓XD,qc];refine Xf (V:= .agg [.int .u8 1, .str [66,89], .int .i64 0, .int .i64 0, .bool false]) (by rfl) (by rfl) (by first|trivial|(simp+decide only[Bb,Xu,and_true,true_and,QA,YR,Vd,JJ];done)|(simp[Bb,Xu,Bd];done)) (fun g hg=>XM wz _ _) ?_;simp+decide only[ev,putD,VM,VO,Ka,true_and,↓XD,qc];refine Xf (V:= .agg [.int .u8 1, .str [66], .int .i64 0, .int .i64 0, .bool false]) (by rfl) (by rfl) (by first|trivial|(simp+decide only[Bb,Xu,and_true,true_and,QA,YR,Vd,JJ];done)|(simp[Bb,Xu,Bd];done)) (fun g hg=>XM wz _ _) ?_;refine WJ (cs:=[.int .u8 1, .str [65], .int .i64 0, .int .i64 0, .bool false, .int .u8 1, .str [66,89], .int .i64 0, .int .i64 0, .bool false, .int .u8 1, .str [66], .int .i64 0, .int .i64 0, .bool false]) (by kernel_rfl) fun k5q6 hk5q6=>?_;have ne_5q6_2q1:k5q6≠k2q1:=by simp only[V7]at hk5q6;simp only[hk5q6,ne_eq,not_false_eq_true]
 have ne_5q6_3q1:k5q6≠k3q1:=by simp only[V7]at hk5q6;simp only[hk5q6,ne_eq,not_false_eq_true]
 have ne_5q6_4q12:k5q6≠k4q12:=by simp only[V7]at hk5q6;simp only[hk5q6,ne_eq,not_false_eq_true]
 try have hf_5q6:h k5q6=none:=by first|assumption|(simp only[V7]at hk5q6;simp only[hk5q6])
 simp+decide only[ev,putD,VM,VO,Ka,true_and,↓XD,qc];refine Xf (V:= .agg [.int .u8 1, .str [66], .int .i64 0, .int .i64 0, .bool false]) (by rfl) (by rfl) (by first|trivial|(simp+decide only[Bb,Xu,and_true,true_and,QA,YR,Vd,JJ];done)|(simp[Bb,Xu,Bd];done)) (fun g hg=>XM wz _ _) ?_;simp+decide only[ev,putD,VM,VO,Ka,true_and,↓XD,qc];refine Xf (V:= .agg [.int .u8 1, .str [66,89], .int .i64 0, .int .i64 0, .bool false]) (by rfl) (by rfl) (by first|trivial|(simp+decide only[Bb,Xu,and_true,true_and,QA,YR,Vd,JJ];done)|(simp[Bb,Xu,Bd];done)) (fun g hg=>XM wz _ _) ?_;simp+decide only[ev,putD,VM,VO,Ka,true_and,↓XD,qc];refine Xf (V:= .agg [.int .u8 1, .str [65], .int .i64 0, .int .i64 0, .bool false]) (by rfl) (by rfl) (by first|trivial|(simp+decide only[Bb,Xu,and_true,true_and,QA,YR,Vd,JJ];done)|(simp[Bb,Xu,Bd];done)) (fun g hg=>XM wz _ _) ?_;simp+decide only[ev,putD,VM,VO,Ka,true_and,↓XD,qc];refine Xf (V:= .agg [.int .u8 1, .str [65], .int .i64 0, .int .i64 0, .bool false]) (by rfl) (by rfl) (by first|trivial|(simp+decide only[Bb,Xu,and_true,true_and,QA,YR,Vd,JJ];done)|(simp[Bb,Xu,Bd];done)) (fun g hg=>XM wz _ _) ?_;simp+decide only[ev,putD,VM,VO,Ka,true_and,↓XD,qc];refine Xf (V:= .agg [.int .u8 1, .str [66,89], .int .i64 0, .int .i64 0, .bool false]) (by rfl) (by rfl) (by first|trivial|(simp+decide only[Bb,Xu,and_true,true_and,QA,YR,Vd,JJ];done)|(simp[Bb,Xu,Bd];done)) (fun g hg=>XM wz _ _) ?_;simp+decide only[ev,putD,VM,VO,Ka,true_and,↓XD,qc];refine Xf (V:= .agg [.int .u8 1, .str [67], .int .i64 0, .int .i64 0, .bool false]) (by rfl) (by rfl) (by first|trivial|(simp+decide only[Bb,Xu,and_true,true_and,QA,YR,Vd,JJ];done)|(simp[Bb,Xu,Bd];done)) (fun g hg=>XM wz _ _) ?_;refine WJ (cs:=[.int .u8 1, .str [66], .int .i64 0, .int .i64 0, .bool false, .int .u8 1, .str [66,89], .int .i64 0, .int .i64 0, .bool false, .int .u8 1, .str [65], .int .i64 0, .int .i64 0, .bool false, .int .u8 1, .str [65], .int .i64 0, .int .i64 0, .bool false, .int .u8 1, .str [66,89], .int .i64 0, .int .i64 0, .bool false, .int .u8 1, .str [67], .int .i64 0, .int .i64 0, .bool false]) (by kernel_rfl) fun k5q19 hk5q19=>?_;have ne_5q19_2q1:k5q19≠k2q1:=by simp only[V7]at hk5q19;simp only[hk5q19,ne_eq,not_false_eq_true]
 have ne_5q19_3q1:k5q19≠k3q1:=by simp only[V7]at hk5q19;simp only[hk5q19,ne_eq,not_false_eq_true]
 have ne_5q19_4q12:k5q19≠k4q12:=by simp only[V7]at hk5q19;simp only[hk5q19,ne_eq,not_false_eq_true]
 have ne_5q19_5q6:k5q19≠k5q6:=by simp only[V7]at hk5q19;simp only[hk5q19,ne_eq,not_false_eq_true]
 try have hf_5q19:h k5q19=none:=by first|assumption|(simp only[V7]at hk5q19;simp only[hk5q19])
 simp+decide only[ev,putD,VM,VO,Ka,true_and,↓Zn,Xz,qg XY QW,↓XD,qc,QL,ne_eq,not_false_eq_true,ne_4q12_3q1.symm,ne_5q6_3q1.symm,ne_5q19_3q1.symm,QP,qf,VX,Km,Jr,Nat.reduceAdd,qB,qi,qE,allLive,JS];refine Xf (V:= .agg [.int .u8 1, .str [65], .int .i64 0, .int .i64 0, .bool false]) (by rfl) (by rfl) (by first|trivial|(simp+decide only[Bb,Xu,and_true,true_and,QA,YR,Vd,JJ];done)|(simp[Bb,Xu,Bd];done)) (fun g hg=>XM wz _ _) ?_;simp+decide only[ev,putD,VM,VO,Ka,true_and,↓XD,qc];refine Xf (V:= .agg [.int .u8 1, .str [66], .int .i64 0, .int .i64 0, .bool false]) (by rfl) (by rfl) (by first|trivial|(simp+decide only[Bb,Xu,and_true,true_and,QA,YR,Vd,JJ];done)|(simp[Bb,Xu,Bd];done)) (fun g hg=>XM wz _ _) ?_;simp+decide only[ev,putD,VM,VO,Ka,true_and,↓Zn,Xz,qg XY QW,↓XD,qc,QL,ne_eq,not_false_eq_true,ne_4q12_3q1.symm,ne_5q6_3q1.symm,ne_5q19_3q1.symm,QP,qf,VX,Km,Jr,Nat.reduceAdd,qB,qi,qE,allLive,JS];refine Xf (V:= .agg [.int .u8 1, .str [66,89], .int .i64 0, .int .i64 0, .bool false]) (by rfl) (by rfl) (by first|trivial|(simp+decide only[Bb,Xu,and_true,true_and,QA,YR,Vd,JJ];done)|(simp[Bb,Xu,Bd];done)) (fun g hg=>XM wz _ _) ?_;simp+decide only[ev,putD,VM,VO,Ka,true_and,↓Zn,Xz,qg XY QW,QL,ne_eq,not_false_eq_true,ne_4q12_3q1.symm,ne_5q6_3q1.symm,ne_5q19_3q1.symm,QP,qf,VX,Km,Jr,Nat.reduceAdd,qB,qi,qE,allLive,JS];refine WJ (cs:=[.int .u8 7, .str [61,61], .int .i64 0, .int .i64 0, .bool false, .int .u8 1, .str [65], .int .i64 0, .int .i64 0, .bool false, .int .u8 1, .str [66], .int .i64 0, .int .i64 0, .bool false, .int .u8 7, .str [61,61], .int .i64 0, .int .i64 0, .bool false, .int .u8 1, .str [66,89], .int .i64 0, .int .i64 0, .bool false, .int .u8 7, .str [61,61], .int .i64 0, .int .i64 0, .bool false, .int .u8 7, .str [61,61], .int .i64 0, .int .i64 0, .bool false]) (by kernel_rfl) fun k5q30 hk5q30=>?_;have ne_5q30_2q1:k5q30≠k2q1:=by simp only[V7]at hk5q30;simp only[hk5q30,ne_eq,not_false_eq_true]
 have ne_5q30_3q1:k5q30≠k3q1:=by simp only[V7]at hk5q30;simp only[hk5q30,ne_eq,not_false_eq_true]
 have ne_5q30_4q12:k5q30≠k4q12:=by simp only[V7]at hk5q30;simp only[hk5q30,ne_eq,not_false_eq_true]
 have ne_5q30_5q6:k5q30≠k5q6:=by simp only[V7]at hk5q30;simp only[hk5q30,ne_eq,not_false_eq_true]
 have ne_5q30_5q19:k5q30≠k5q19:=by simp only[V7]at hk5q30;simp only[hk5q30,ne_eq,not_false_eq_true]
 try have hf_5q30:h k5q30=none:=by first|assumption|(simp only[V7]at hk5q30;simp only[hk5q30])
 simp+decide only[ev,putD,VM,VO,Ka,true_and,↓Zn,Xz,qg XY QW,↓XD,qc,QL,ne_eq,not_false_eq_true,ne_4q12_3q1.symm,ne_5q6_3q1.symm,ne_5q19_3q1.symm,ne_5q30_3q1.symm,QP,qf,VX,Km,Jr,Nat.reduceAdd,qB,qi,qE,allLive,JS];refine Xf (V:= .agg [.int .u8 1, .str [65], .int .i64 0, .int .i64 0, .bool false]) (by rfl) (by rfl) (by first|trivial|(simp+decide only[Bb,Xu,and_true,true_and,QA,YR,Vd,JJ];done)|(simp[Bb,Xu,Bd];done)) (fun g hg=>XM wz _ _) ?_;simp+decide only[ev,putD,VM,VO,Ka,true_and,↓Zn,Xz,qg XY QW,↓XD,qc,QL,ne_eq,not_false_eq_true,ne_4q12_3q1.symm,ne_5q6_3q1.symm,ne_5q19_3q1.symm,ne_5q30_3q1.symm,QP,qf,VX,Km,Jr,Nat.reduceAdd,qB,qi,qE,allLive,JS];refine Xf (V:= .agg [.int .u8 1, .str [66,89], .int .i64 0, .int .i64 0, .bool false]) (by rfl) (by rfl) (by first|trivial|(simp+decide only[Bb,Xu,and_true,true_and,QA,YR,Vd,JJ];done)|(simp[Bb,Xu,Bd];done)) (fun g hg=>XM wz _ _) ?_;simp+decide only[ev,putD,VM,VO,Ka,true_and,↓Zn,Xz,qg XY QW,↓XD,qc,QL,ne_eq,not_false_eq_true,ne_4q12_3q1.symm,ne_5q6_3q1.symm,ne_5q19_3q1.symm,ne_5q30_3q1.symm,QP,qf,VX,Km,Jr,Nat.reduceAdd,qB,qi,qE,allLive,JS];refine Xf (V:= .agg [.int .u8 1, .str [65], .int .i64 0, .int .i64 0, .bool false]) (by rfl) (by rfl) (by first|trivial|(simp+decide only[Bb,Xu,and_true,true_and,QA,YR,Vd,JJ];done)|(simp[Bb,Xu,Bd];done)) (fun g hg=>XM wz _ _) ?_;simp+decide only[ev,putD,VM,VO,Ka,true_and,↓XD,qc];refine Xf (V:= .agg [.int .u8 1, .str [65], .int .i64 0, .int .i64 0, .bool false]) (by rfl) (by rfl) (by first|trivial|(simp+decide only[Bb,Xu,and_true,true_and,QA,YR,Vd,JJ];done)|(simp[Bb,Xu,Bd];done)) (fun g hg=>XM wz _ _) ?_;simp+decide only[ev,putD,VM,VO,Ka,true_and,↓Zn,Xz,qg XY QW,QL,ne_eq,not_false_eq_true,ne_4q12_3q1.symm,ne_5q6_3q1.symm,ne_5q19_3q1.symm,ne_5q30_3q1.symm,QP,qf,VX,Km,Jr,Nat.reduceAdd,qB,qi,qE,allLive,JS];refine WJ (cs:=[.int .u8 7, .str [61,61], .int .i64 0, .int .i64 0, .bool false, .int .u8 1, .str [65], .int .i64 0, .int .i64 0, .bool false, .int .u8 7, .str [61,61], .int .i64 0, .int .i64 0, .bool false, .int .u8 1, .str [66,89], .int .i64 0, .int .i64 0, .bool false, .int .u8 7, .str [61,61], .int .i64 0, .int .i64 0, .bool false, .int .u8 1, .str [65], .int .i64 0, .int .i64 0, .bool false, .int .u8 1, .str [65], .int .i64 0, .int .i64 0, .bool false, .int .u8 7, .str [61,61], .int .i64 0, .int .i64 0, .bool false]) (by kernel_rfl) fun k5q43 hk5q43=>?_;have ne_5q43_2q1:k5q43≠k2q1:=by simp only[V7]at hk5q43;simp only[hk5q43,ne_eq,not_false_eq_true]
 have ne_5q43_3q1:k5q43≠k3q1:=by simp only[V7]at hk5q43;simp only[hk5q43,ne_eq,not_false_eq_true]
 have ne_5q43_4q12:k5q43≠k4q12:=by simp only[V7]at hk5q43;simp only[hk5q43,ne_eq,not_false_eq_true]
 have ne_5q43_5q6:k5q43≠k5q6:=by simp only[V7]at hk5q43;simp only[hk5q43,ne_eq,not_false_eq_true]
 have ne_5q43_5q19:k5q43≠k5q19:=by simp only[V7]at hk5q43;simp only[hk5q43,ne_eq,not_false_eq_true]
 have ne_5q43_5q30:k5q43≠k5q30:=by simp only[V7]at hk5q43;simp only[hk5q43,ne_eq,not_false_eq_true]
 try have hf_5q43:h k5q43=none:=by first|assumption|(simp only[V7]at hk5q43;simp only[hk5q43])
 simp+decide only[ev,qH,qF,putD,VM,VO,Ka,true_and,↓Un,↓qY,UA,evP,Kc,Vj,↓XD,qc];refine Xf (V:= .agg [.int .u8 1, .str [66,89], .int .i64 0, .int .i64 0, .bool false]) (by rfl) (by rfl) (by first|trivial|(simp+decide only[Bb,Xu,and_true,true_and,QA,YR,Vd,JJ];done)|(simp[Bb,Xu,Bd];done)) (fun g hg=>XM wz _ _) ?_;simp+decide only[ev,putD,VM,VO,Ka,true_and,↓Zn,Xz,qg XY QW,↓XD,qc,QL,ne_eq,not_false_eq_true,ne_4q12_3q1.symm,ne_5q6_3q1.symm,ne_5q19_3q1.symm,ne_5q30_3q1.symm,ne_5q43_3q1.symm,QP,qf,VX,Km,Jr,Nat.reduceAdd,qB,qi,qE,allLive,JS];refine Xf (V:= .agg [.int .u8 1, .str [67,79,80,89], .int .i64 0, .int .i64 0, .bool false]) (by rfl) (by rfl) (by first|trivial|(simp+decide only[Bb,Xu,and_true,true_and,QA,YR,Vd,JJ];done)|(simp[Bb,Xu,Bd];done)) (fun g hg=>XM wz _ _) ?_;simp+decide only[ev,putD,VM,VO,Ka,true_and,↓XD,qc];refine Xf (V:= .agg [.int .u8 1, .str [77,49], .int .i64 0, .int .i64 0, .bool false]) (by rfl) (by rfl) (by first|trivial|(simp+decide only[Bb,Xu,and_true,true_and,QA,YR,Vd,JJ];done)|(simp[Bb,Xu,Bd];done)) (fun g hg=>XM wz _ _) ?_;simp+decide only[ev,putD,VM,VO,Ka,true_and,↓Zn,Xz,qg XY QW,QL,ne_eq,not_false_eq_true,ne_3q1_2q1.symm,ne_4q12_2q1.symm,ne_4q12_3q1.symm,ne_5q6_2q1.symm,ne_5q6_3q1.symm,ne_5q19_2q1.symm,ne_5q19_3q1.symm,ne_5q30_2q1.symm,ne_5q30_3q1.symm,ne_5q43_2q1.symm,ne_5q43_3q1.symm,QP,qf,VX,Km,Jr,Nat.reduceAdd,qB,qi,qE,allLive,JS];refine WJ (cs:=[.int .u8 2, .str [53], .int .i64 0, .int .i64 0, .bool false, .int .u8 1, .str [66,89], .int .i64 0, .int .i64 0, .bool false, .int .u8 7, .str [61,61], .int .i64 0, .int .i64 0, .bool false, .int .u8 1, .str [67,79,80,89], .int .i64 0, .int .i64 0, .bool false, .int .u8 1, .str [77,49], .int .i64 0, .int .i64 0, .bool false, .int .u8 6, .str [46], .int .i64 0, .int .i64 0, .bool false, .int .u8 7, .str [61,61], .int .i64 0, .int .i64 0, .bool false]) (by kernel_rfl) fun k5q54 hk5q54=>?_;have ne_5q54_2q1:k5q54≠k2q1:=by simp only[V7]at hk5q54;simp only[hk5q54,ne_eq,not_false_eq_true]
 have ne_5q54_3q1:k5q54≠k3q1:=by simp only[V7]at hk5q54;simp only[hk5q54,ne_eq,not_false_eq_true]
 have ne_5q54_4q12:k5q54≠k4q12:=by simp only[V7]at hk5q54;simp only[hk5q54,ne_eq,not_false_eq_true]
 have ne_5q54_5q6:k5q54≠k5q6:=by simp only[V7]at hk5q54;simp only[hk5q54,ne_eq,not_false_eq_true]
 have ne_5q54_5q19:k5q54≠k5q19:=by simp only[V7]at hk5q54;simp only[hk5q54,ne_eq,not_false_eq_true]
 have ne_5q54_5q30:k5q54≠k5q30:=by simp only[V7]at hk5q54;simp only[hk5q54,ne_eq,not_false_eq_true]
 have ne_5q54_5q43:k5q54≠k5q43:=by simp only[V7]at hk5q54;simp only[hk5q54,ne_eq,not_false_eq_true]
 try have hf_5q54:h k5q54=none:=by first|assumption|(simp only[V7]at hk5q54;simp only[hk5q54])
 simp+decide only[ev,putD,VM,VO,Ka,true_and,↓Zn,Xz,qg XY QW,↓XD,qc,QL,ne_eq,not_false_eq_true,ne_3q1_2q1.symm,ne_4q12_2q1.symm,ne_4q12_3q1.symm,ne_5q6_2q1.symm,ne_5q6_3q1.symm,ne_5q19_2q1.symm,ne_5q19_3q1.symm,ne_5q30_2q1.symm,ne_5q30_3q1.symm,ne_5q43_2q1.symm,ne_5q43_3q1.symm,ne_5q54_2q1.symm,ne_5q54_3q1.symm,QP,qf,VX,Km,Jr,Nat.reduceAdd,qB,qi,qE,allLive,JS];refine Xf (V:= .agg [.int .u8 1, .str [66,89], .int .i64 0, .int .i64 0, .bool false]) (by rfl) (by rfl) (by first|trivial|(simp+decide only[Bb,Xu,and_true,true_and,QA,YR,Vd,JJ];done)|(simp[Bb,Xu,Bd];done)) (fun g hg=>XM wz _ _) ?_;simp+decide only[ev,qH,qF,putD,VM,VO,Ka,true_and,↓Un,↓qY,UA,evP,Kc,Vj,↓Zn,Xz,qg XY QW,↓XD,qc,QL,ne_eq,not_false_eq_true,ne_4q12_3q1.symm,ne_5q6_3q1.symm,ne_5q19_3q1.symm,ne_5q30_3q1.symm,ne_5q43_3q1.symm,ne_5q54_3q1.symm,QP,qf,VX,Km,Jr,Nat.reduceAdd,qB,qi,qE,allLive,JS];refine Xf (V:= .agg [.int .u8 1, .str [67], .int .i64 0, .int .i64 0, .bool false]) (by rfl) (by rfl) (by first|trivial|(simp+decide only[Bb,Xu,and_true,true_and,QA,YR,Vd,JJ];done)|(simp[Bb,Xu,Bd];done)) (fun g hg=>XM wz _ _) ?_;simp+decide only[ev,putD,VM,VO,Ka,true_and,↓Zn,Xz,qg XY QW,↓XD,qc,QL,ne_eq,not_false_eq_true,ne_4q12_3q1.symm,ne_5q6_3q1.symm,ne_5q19_3q1.symm,ne_5q30_3q1.symm,ne_5q43_3q1.symm,ne_5q54_3q1.symm,QP,qf,VX,Km,Jr,Nat.reduceAdd,qB,qi,qE,allLive,JS];refine Xf (V:= .agg [.int .u8 1, .str [66,89], .int .i64 0, .int .i64 0, .bool false]) (by rfl) (by rfl) (by first|trivial|(simp+decide only[Bb,Xu,and_true,true_and,QA,YR,Vd,JJ];done)|(simp[Bb,Xu,Bd];done)) (fun g hg=>XM wz _ _) ?_;simp+decide only[ev,putD,VM,VO,Ka,true_and,↓XD,qc];refine Xf (V:= .agg [.int .u8 1, .str [67], .int .i64 0, .int .i64 0, .bool false]) (by rfl) (by rfl) (by first|trivial|(simp+decide only[Bb,Xu,and_true,true_and,QA,YR,Vd,JJ];done)|(simp[Bb,Xu,Bd];done)) (fun g hg=>XM wz _ _) ?_;refine WJ (cs:=[.int .u8 7, .str [61,61], .int .i64 0, .int .i64 0, .bool false, .int .u8 6, .str [46], .int .i64 0, .int .i64 0, .bool false, .int .u8 7, .str [61,61], .int .i64 0, .int .i64 0, .bool false, .int .u8 1, .str [66,89], .int .i64 0, .int .i64 0, .bool false, .int .u8 3, .str [88], .int .i64 0, .int .i64 0, .bool false, .int .u8 7, .str [61,61], .int .i64 0, .int .i64 0, .bool false, .int .u8 1, .str [67], .int .i64 0, .int .i64 0, .bool false, .int .u8 7, .str [61,61], .int .i64 0, .int .i64 0, .bool false, .int .u8 1, .str [66,89], .int .i64 0, .int .i64 0, .bool false, .int .u8 1, .str [67], .int .i64 0, .int .i64 0, .bool false]) (by kernel_rfl) fun k5q69 hk5q69=>?_;have ne_5q69_2q1:k5q69≠k2q1:=by simp only[V7]at hk5q69;simp only[hk5q69,ne_eq,not_false_eq_true]
 have ne_5q69_3q1:k5q69≠k3q1:=by simp only[V7]at hk5q69;simp only[hk5q69,ne_eq,not_false_eq_true]
 have ne_5q69_4q12:k5q69≠k4q12:=by simp only[V7]at hk5q69;simp only[hk5q69,ne_eq,not_false_eq_true]
 have ne_5q69_5q6:k5q69≠k5q6:=by simp only[V7]at hk5q69;simp only[hk5q69,ne_eq,not_false_eq_true]
 have ne_5q69_5q19:k5q69≠k5q19:=by simp only[V7]at hk5q69;simp only[hk5q69,ne_eq,not_false_eq_true]
 have ne_5q69_5q30:k5q69≠k5q30:=by simp only[V7]at hk5q69;simp only[hk5q69,ne_eq,not_false_eq_true]
 have ne_5q69_5q43:k5q69≠k5q43:=by simp only[V7]at hk5q69;simp only[hk5q69,ne_eq,not_false_eq_true]
 have ne_5q69_5q54:k5q69≠k5q54:=by simp only[V7]at hk5q69;simp only[hk5q69,ne_eq,not_false_eq_true]
 try have hf_5q69:h k5q69=none:=by first|assumption|(simp only[V7]at hk5q69;simp only[hk5q69])
 refine WJ (cs:=[.slice (.own k5q6) 0 3 (.exact 3), .slice (.own k5q19) 0 6 (.exact 6), .slice (.own k5q30) 0 7 (.exact 7), .slice (.own k5q43) 0 8 (.exact 8), .slice (.own k5q54) 0 7 (.exact 7), .slice (.own k5q69) 0 10 (.exact 10)]) (by kernel_rfl) fun k5q70 hk5q70=>?_;have ne_5q70_2q1:k5q70≠k2q1:=by simp only[V7]at hk5q70;simp only[hk5q70,ne_eq,not_false_eq_true]
 have ne_5q70_3q1:k5q70≠k3q1:=by simp only[V7]at hk5q70;simp only[hk5q70,ne_eq,not_false_eq_true]
 have ne_5q70_4q12:k5q70≠k4q12:=by simp only[V7]at hk5q70;simp only[hk5q70,ne_eq,not_false_eq_true]
 have ne_5q70_5q6:k5q70≠k5q6:=by simp only[V7]at hk5q70;simp only[hk5q70,ne_eq,not_false_eq_true]
 have ne_5q70_5q19:k5q70≠k5q19:=by simp only[V7]at hk5q70;simp only[hk5q70,ne_eq,not_false_eq_true]
 have ne_5q70_5q30:k5q70≠k5q30:=by simp only[V7]at hk5q70;simp only[hk5q70,ne_eq,not_false_eq_true]
 have ne_5q70_5q43:k5q70≠k5q43:=by simp only[V7]at hk5q70;simp only[hk5q70,ne_eq,not_false_eq_true]
 have ne_5q70_5q54:k5q70≠k5q54:=by simp only[V7]at hk5q70;simp only[hk5q70,ne_eq,not_false_eq_true]
 have ne_5q70_5q69:k5q70≠k5q69:=by simp only[V7]at hk5q70;simp only[hk5q70,ne_eq,not_false_eq_true]
 try have hf_5q70:h k5q70=none:=by first|assumption|(simp only[V7]at hk5q70;simp only[hk5q70])
 simp+decide only[Yl,ev,putD,VM,VO,VN,Ka,true_and,↓qay,qb];apply hK;clear hK K;refine Va [0,3,4,6,7] ?_;refine of_rest1 wz h _ zqB v x hv hl k2q1 k4q12 k5q70 _ ⟨zqA,zqA,zqA,fun i hi=>?_⟩;have h0:IsL wz h 5 .nilSlice []:= .nil;rcases i with _|_|_|_|_|_|i
 ·exact V8 (xs:=(pairsC.getD 0 []).map QJ) (b:=⟨((pairsC.getD 0 []).map QJ).flatten,0⟩) zqA Xj rfl (Ug _) (.exact 3) (KJ _)
 ·exact V8 (xs:=(pairsC.getD 1 []).map QJ) (b:=⟨((pairsC.getD 1 []).map QJ).flatten,0⟩) zqA Xj rfl (Ug _) (.exact 6) (KJ _)
 ·exact V8 (xs:=(pairsC.getD 2 []).map QJ) (b:=⟨((pairsC.getD 2 []).map QJ).flatten,0⟩) zqA Xj rfl (Ug _) (.exact 7) (KJ _)
 ·exact V8 (xs:=(pairsC.getD 3 []).map QJ) (b:=⟨((pairsC.getD 3 []).map QJ).flatten,0⟩) zqA Xj rfl (Ug _) (.exact 8) (KJ _)
 ·exact V8 (xs:=(pairsC.getD 4 []).map QJ) (b:=⟨((pairsC.getD 4 []).map QJ).flatten,0⟩) zqA Xj rfl (Ug _) (.exact 7) (KJ _)
 ·exact V8 (xs:=(pairsC.getD 5 []).map QJ) (b:=⟨((pairsC.getD 5 []).map QJ).flatten,0⟩) zqA Xj rfl (Ug _) (.exact 10) (KJ _)
 ·omega
end Go.Proofs.YtlhhaagmakhilaaGreatDoor
namespace Go.Proofs.YtlhhaagmakhilaaGreatDoor
open Go.AM
open Go.Proofs
open Go.Col (Str FaultC okF sp)
open Go.Tok
open Go.Cop
open Go.RowKit (Below)
set_option maxRecDepth 100000
abbrev LisQ:=List UInt8×AVal
section
variable {wz:World} {h:AHeap} {v:AVal}
end
abbrev TwoQ:=LisQ×LisQ
def qmy(q:TwoQ):List AVal:=[q.1.2,q.2.2]
def IsRs(wz:World)(h:AHeap)(v:AVal)(r:List (List UInt8×List UInt8)):Prop:=∃qs:List TwoQ,r=qs.map (fun q=>(q.1.1,q.2.1))/\IsL wz h 2 v (qs.map qmy)/\∀q∈qs,IsL wz h 1 q.1.2 (q.1.1.map qcj)/\IsL wz h 1 q.2.2 (q.2.1.map qcj)
def apart(a b:Option Buf):Prop:=∀x y,a=some x->b=some y->x.blk≠y.blk
theorem qpT(es:Nat)(b:Option Buf):Sc (QH es b)=True:=by cases b<;>exact eq_true trivial
end Go.Proofs.YtlhhaagmakhilaaGreatDoor
namespace Go.AM
open Go.RowKit (Below)
section
variable {P:Program} {wz:World} {n:FrameK} {la:List Nat} {ly:Nat->List AVal×(Nat->AVal)}
def qje(la:List Nat)(o:Oper):Bool:=match o.dst with
 |some t=>la.contains t
 |none=>false
def isY(la:List Nat)(l:List Oper)(i:Nat):Bool:=match l[i]? with
 |some o=>qje la o
 |none=>false
def lyO(ly:Nat->List AVal×(Nat->AVal))(o:Oper):List AVal×(Nat->AVal):=ly (o.dst.getD 0)
def qka(P:Program)(wz:World)(l:List Oper)(s:Slots)(o:Oper)(c:List AVal×(Nat->AVal)):Prop:=
 ∀g,QB P wz l [o] s g fun s' h'=>∃k,g k=none/\s'=putD s o.dst (c.2 k)/\h'=g.set k ⟨c.1,0⟩
def qdv(P:Program)(wz:World)(l:List Oper)(la:List Nat)(ly:Nat->List AVal×(Nat->AVal))(s:Slots)(r:List Oper):Prop:=∀o∈r,qje la o=true->qka P wz l s o (lyO ly o)
theorem qja{l:List Oper}{s:Slots}:qdv P wz l la ly s []:=fun o ho=>by cases ho
theorem qeI{l:List Oper}{s:Slots}{o:Oper}{r:List Oper}(ho:qje la o=false)(hr:qdv P wz l la ly s r):qdv P wz l la ly s (o::r):=fun x hx hy=>by
 rcases KW.1 hx with e|e
 ·subst e;rw[ho]at hy;cases hy
 ·exact hr x e hy
theorem qot{l:List Oper}{s:Slots}{o:Oper}{r:List Oper}(ho:qka P wz l s o (lyO ly o))(hr:qdv P wz l la ly s r):qdv P wz l la ly s (o::r):=fun x hx hy=>by
 rcases KW.1 hx with e|e
 ·subst e;exact ho
 ·exact hr x e hy
def qaK(P:Program)(wz:World)(l:List Oper)(la:List Nat)(ly:Nat->List AVal×(Nat->AVal))(hZ:AHeap):Nat->List Oper->Slots->AHeap->(Slots->AHeap->Prop)->Prop
 |_,[],s,g,K=>K s g
 |0,o::r,s,g,K=>QB P wz l (o::r) s g K
 |m+1,o::r,s,g,K=>
  if qje la o=true then qka P wz l s o (lyO ly o)/\qdv P wz l la ly s r/\∀k g',hZ k=none->Sub g g'->g' k=some ⟨(lyO ly o).1,0⟩->qaK P wz l la ly hZ m r (putD s o.dst ((lyO ly o).2 k)) g' K
  else if Ya P o.op=2 then QB P wz l [o] s g fun s' g'=>Sub g g'/\qaK P wz l la ly hZ m r s' g' K
   else qdv P wz l la ly s r/\∀g',Sub g g'->QB P wz l [o] s g' fun s' h'=>Sub g' h'/\qaK P wz l la ly hZ m r s' h' K
theorem qio{l:List Oper}{hZ:AHeap}{m:Nat}{s:Slots}{h:AHeap}{K:Slots->AHeap->Prop}:qaK P wz l la ly hZ m [] s h K=K s h:=by cases m<;>rfl
theorem qkj{l:List Oper}{hZ:AHeap}{o:Oper}{r:List Oper}{s:Slots}{h:AHeap}{K:Slots->AHeap->Prop}:qaK P wz l la ly hZ 0 (o::r) s h K=QB P wz l (o::r) s h K:=rfl
theorem qbp{l:List Oper}{hZ:AHeap}{m:Nat}{o:Oper}{r:List Oper}{s:Slots}{h:AHeap}{K:Slots->AHeap->Prop}(ha:qje la o=false)(hk:Ya P o.op=2)(hc:QB P wz l [o] s h fun s' g'=>Sub h g'/\qaK P wz l la ly hZ m r s' g' K):qaK P wz l la ly hZ (m+1) (o::r) s h K:=by
 simp only[qaK,ha,hk,if_true,KV,if_false];exact hc
theorem qpZ{l:List Oper}{hZ:AHeap}{m:Nat}{o:Oper}{r:List Oper}{s:Slots}{h:AHeap}{K:Slots->AHeap->Prop}(ha:qje la o=false)(hL:qdv P wz l la ly s r)(hc:∀g',Sub h g'->QB P wz l [o] s g' fun s' h'=>Sub g' h'/\qaK P wz l la ly hZ m r s' h' K):qaK P wz l la ly hZ (m+1) (o::r) s h K:=by
 simp only[qaK,ha,KV,if_false];split
 ·exact hc h (Vl h)
 ·exact⟨hL,hc⟩
theorem qsw{l:List Oper}{hZ:AHeap}{m:Nat}{o:Oper}{r:List Oper}{s:Slots}{h:AHeap}{K:Slots->AHeap->Prop}(ha:qje la o=true)(ho:qka P wz l s o (lyO ly o))(hL:qdv P wz l la ly s r)(hc:∀k g',hZ k=none->Sub h g'->g' k=some ⟨(lyO ly o).1,0⟩->qaK P wz l la ly hZ m r (putD s o.dst ((lyO ly o).2 k)) g' K):qaK P wz l la ly hZ (m+1) (o::r) s h K:=by
 simp only[qaK,ha,if_true];exact⟨ho,hL,hc⟩
theorem qeu{l:List Oper}{hZ:AHeap}{K K':Slots->AHeap->Prop}(hk:∀s h,K s h->K' s h):∀{r:List Oper} {m:Nat} {s:Slots} {h:AHeap},qaK P wz l la ly hZ m r s h K->qaK P wz l la ly hZ m r s h K'
 |[],m,s,h,ha=>by rw[qio]at ha|-;exact hk _ _ ha
 |o::r,0,s,h,ha=>awp_rseq.aOps_mono hk ha
 |o::r,m+1,s,h,ha=>by
  simp only[qaK]at ha|-
  by_cases h1:qje la o=true
  ·rw[if_pos h1]at ha|-
   exact⟨ha.1,ha.2.1,fun k g' q1 q2 q3=>qeu hk (ha.2.2 k g' q1 q2 q3)⟩
  ·rw[if_neg h1]at ha|-
   by_cases h2:Ya P o.op=2
   ·rw[if_pos h2]at ha|-
    exact qbR (fun s' h' hx=>⟨hx.1,qeu hk hx.2⟩) ha
   ·rw[if_neg h2]at ha|-
    exact⟨ha.1,fun g' hg=>qbR (fun s' h' hx=>⟨hx.1,qeu hk hx.2⟩) (ha.2 g' hg)⟩
def isM(P:Program)(l:List Oper)(π:List Nat)(m i:Nat):Bool:=isF P l i && (KO m).any fun q=>π.getD q 0==i
theorem qoz{l:List Oper}{π:List Nat}{m q:Nat}(h:q<m):isM P l π m (π.getD q 0)=isF P l (π.getD q 0):=by
 have:((KO m).any fun c=>π.getD c 0==π.getD q 0)=true:=JX.2 ⟨q,JD.2 h,by simp⟩;unfold isM;rw[this,JS]
def qlK(P:Program)(la:List Nat)(l:List Oper)(π:List Nat)(ws:List (Option Nat))(m:Nat):Bool:=
 WN l && ((KO l.length).all fun i=> !(isM P l π m i && isY la l i)) && ((KO π.length).all fun q=> !isY la l (π.getD q 0)||match l[π.getD q 0]? with
  |none=>true
  |some o=>(KO π.length).all fun r=>match l[π.getD r 0]? with
   |none=>true
   |some oj=>(match oj.dst with
    |none=>true
    |some t=> !(QE l o).contains t|| !isY la l (π.getD r 0))) && (π.all fun i=>decide (i<l.length)) && ((KO l.length).all fun i=>π.contains i) &&
 ((KO π.length).all fun q=>(KO π.length).all fun r=>decide (q=r)|| !(π.getD q 0==π.getD r 0)) &&
 ((KO π.length).all fun q=>isY la l (π.getD q 0)||match ws.getD q none with
   |none=>(KO q).all fun c=>isM P l π m (π.getD c 0)
   |some r=>decide (r<q) && Region.waitsFor .any l.toArray (π.getD q 0) (π.getD r 0) && !isY la l (π.getD r 0) && (KO q).all fun c=>decide (c<=r)||isM P l π m (π.getD c 0)||(isY la l (π.getD c 0) && Region.waitsFor .any l.toArray (π.getD q 0) (π.getD c 0))) &&
 ((KO π.length).all fun q=>match l[π.getD q 0]? with
   |none=>true
   |some o=>(KO π.length).all fun r=>match l[π.getD r 0]? with
    |none=>true
    |some oj=>(match oj.dst with
     |none=>true
     |some t=> !(QE l o).contains t||(decide (r<q) && Region.waitsFor .any l.toArray (π.getD q 0) (π.getD r 0)))) &&
 decide (m<=π.length) && ((KO π.length).all fun q=>decide (q<m)||(!isM P l π m (π.getD q 0) && !isY la l (π.getD q 0))) &&
 (decide (m=π.length)||(KO m).all fun q=>(KO (m+1)).any fun r=>decide (q<r) && Region.waitsFor .any l.toArray (π.getD r 0) (π.getD q 0))
structure FloatY(P:Program)(la:List Nat)(l:List Oper)(π:List Nat)(m:Nat):Prop where
 order:WN l=true
 notF:∀i,i<l.length->isM P l π m i=true->isY la l i=false
 dataY:∀q r o oj t,q<π.length->r<π.length->isY la l (π.getD q 0)=true->l[π.getD q 0]?=some o->l[π.getD r 0]?=some oj->oj.dst=some t->t∈QE l o->isY la l (π.getD r 0)=false
 inr:∀q,q<π.length->π.getD q 0<l.length
 onto:∀i,i<l.length->∃q,q<π.length/\π.getD q 0=i
 inj:∀q r,q<π.length->r<π.length->π.getD q 0=π.getD r 0->q=r
 wait:∀q c,q<π.length->c<q->isY la l (π.getD q 0)=false->isM P l π m (π.getD c 0)=false->∃r,c<=r/\r<q/\(r=c\/isY la l (π.getD r 0)=false)/\Region.waitsFor .any l.toArray (π.getD q 0) (π.getD r 0)=true
 data:∀q r o oj t,q<π.length->r<π.length->l[π.getD q 0]?=some o->l[π.getD r 0]?=some oj->oj.dst=some t->t∈QE l o->r<q/\Region.waitsFor .any l.toArray (π.getD q 0) (π.getD r 0)=true
 mle:m<=π.length
 tail:∀q,m<=q->q<π.length->isM P l π m (π.getD q 0)=false/\isY la l (π.getD q 0)=false
 sink:m<π.length->∀q,q<m->∃r,q<r/\r<=m/\Region.waitsFor .any l.toArray (π.getD r 0) (π.getD q 0)=true
theorem qnj{l:List Oper}{π:List Nat}{ws:List (Option Nat)}{m:Nat}(h:qlK P la l π ws m=true):FloatY P la l π m:=by
 unfold qlK at h;simp only[Kw]at h;obtain⟨⟨⟨⟨⟨⟨⟨⟨⟨⟨h1,hF⟩,hY⟩,h2⟩,h3⟩,h4⟩,h5⟩,h6⟩,h7⟩,h8⟩,h9⟩:=h;simp only[JC,JD]at hF hY h2 h3 h4 h5 h6 h8;refine⟨h1,fun i hi hf=>?_,fun q r o oj t hq hr hy ho hoj hd ht=>?_,fun q hq=>?_,fun i hi=>?_,fun q r hq hr e=>?_,fun q c hq hc hqa hf=>?_,fun q r o oj t hq hr ho hoj hd ht=>?_,by simpa using h7,fun q hm hq=>?_,fun hm q hq=>?_⟩
 ·have:=hF i hi
  rw[hf,Vf]at this;simpa using this
 ·have:=hY q hq
  rw[hy,ho]at this;simp only[Bool.not_true,BO,JC,JD]at this;have:=this r hr;rw[hoj]at this;simp only[hd,JV,Ji]at this;rcases this with e|e
  ·have hm:(QE l o).contains t=true:=by simpa using ht
   rw[hm]at e;cases e
  ·exact e
 ·have:=h2 (π.getD q 0) (by rw[Kn,Jz hq];exact VH hq)
  simpa using this
 ·have:=h3 i hi
  rw[JW]at this;obtain⟨q,hq,e⟩:=BM this;exact⟨q,hq,by rw[Kn,Jz hq];exact e⟩
 ·have:=h4 q hq r hr
  rw[JV,decide_eq_true_eq]at this;rcases this with e'|e'
  ·exact e'
  ·rw[e]at e';simp at e'
 ·have:=h5 q hq
  rw[hqa,BO]at this;split at this
  ·rw[JC]at this
   rw[this c (JD.2 hc)]at hf;cases hf
  ·rename_i r _
   simp only[Kw,decide_eq_true_eq,JC,JD,JV,Ji]at this;obtain⟨⟨⟨t1,t2⟩,t4⟩,t3⟩:=this;rcases t3 c hc with(e|e)|e
   ·exact⟨r,e,t1, .inr t4,t2⟩
   ·rw[e]at hf;cases hf
   ·exact⟨c,KJ _,hc, .inl rfl,e.2⟩
 ·have:=h6 q hq
  rw[ho]at this;simp only[JC,JD]at this;have:=this r hr;rw[hoj]at this;simp only[hd,JV,Kw,decide_eq_true_eq,Ji]at this;rcases this with e|e
  ·have hm:(QE l o).contains t=true:=by simpa using ht
   rw[hm]at e;cases e
  ·exact e
 ·have:=h8 q hq
  simp only[JV,decide_eq_true_eq,Ji,Kw]at this;rcases this with e|e
  ·omega
  ·exact e
 ·rw[JV,decide_eq_true_eq]at h9
  rcases h9 with e|e
  ·omega
  ·rw[JC]at e
   have:=e q (JD.2 hq);rw[JX]at this;obtain⟨r,hr,hw⟩:=this;rw[JD]at hr;simp only[Kw,decide_eq_true_eq]at hw;exact⟨r,hw.1,by omega,hw.2⟩
structure PreY(P:Program)(wz:World)(n:FrameK)(la:List Nat)(ly:Nat->List AVal×(Nat->AVal))(l:List Oper)(π:List Nat)(m:Nat)(hZ:AHeap)(K:Slots->AHeap->Prop)(listed:Array Bool)(Ps:PMap)(a:Act)(w:World)(p:Nat)(S:Slots)(g ga:AHeap):Prop where
 size:listed.size=l.length
 closed:∀j oj,l[j]?=some oj->listed.getD j false=true->∀e∈oj.after,Region.binds .any e=true->listed.getD e.on false=true
 tsize:a.tmps.size=n
 defers:a.defers=n.dfr
 ple:p<=π.length
 ahead:∀q,p<=q->q<π.length->isY la l (π.getD q 0)=false->listed.getD (π.getD q 0) false=false
 behind:∀q,q<p->isM P l π m (π.getD q 0)=false->listed.getD (π.getD q 0) false=true
 past:m<p->∀q,q<p->listed.getD (π.getD q 0) false=true
 rel:HRel wz Ps ga w
 sub:Sub g ga
 sub0:p<=m->Sub hZ ga
 ev:qaK P wz l la ly hZ (m-p) ((Zk l π).drop p) S g K
 fact:∀q o,q<p->l[π.getD q 0]?=some o->listed.getD (π.getD q 0) false=false->∃V,(∀t,o.dst=some t->S.get t=V)/\FactR P wz n l g S o V
 early:∀q o,p<=q->q<π.length->l[π.getD q 0]?=some o->isY la l (π.getD q 0)=true->listed.getD (π.getD q 0) false=true->∃k,hZ k=none/\ga k=some ⟨(lyO ly o).1,0⟩/\∀t,o.dst=some t->VR Ps ((lyO ly o).2 k) (a.tmps.getD t undef)
 slot:∀t,(∃q o,q<π.length/\l[π.getD q 0]?=some o/\o.dst=some t/\((q<p/\listed.getD (π.getD q 0) false=false)\/(p<=q/\listed.getD (π.getD q 0) false=true)))\/VR Ps (S.get t) (a.tmps.getD t undef)
theorem qlG{l:List Oper}{i:Nat}{o:Oper}(ho:l[i]?=some o):isY la l i=qje la o:=by unfold isY;rw[ho]
theorem qiA{l:List Oper}(hall:Xg n l=true){π:List Nat}{m:Nat}(F:FloatY P la l π m){hZ:AHeap}{K:Slots->AHeap->Prop}{listed:Array Bool}{Ps:PMap}{a:Act}{w:World}:∀(d p:Nat) (S:Slots) (g ga:AHeap),π.length-p=d->PreY P wz n la ly l π m hZ K listed Ps a w p S g ga->
 ∃p' S' g' ga',PreY P wz n la ly l π m hZ K listed Ps a w p' S' g' ga'/\(p'<π.length->isM P l π m (π.getD p' 0)=false/\listed.getD (π.getD p' 0) false=false):=by
 intro d;induction d with
 |zero=>intro p S g ga hd pre;exact⟨p,S,g,ga,pre,fun h=>by omega⟩
 |succ d ih=>
  intro p S g ga hd pre;have hpl:p<π.length:=by omega
  obtain⟨o,ho⟩:∃o,l[π.getD p 0]?=some o:=⟨_,Jz (F.inr p hpl)⟩
  have hev:=pre.ev;have notlook:∀q oq,q<=p->l[π.getD q 0]?=some oq->∀t,o.dst=some t->t∉QE l oq:=fun q oq h1 h2 t h3 ht=>by
   have:=(F.data q p oq o t (by omega) hpl h2 ho h3 ht).1;omega
  have uniq:∀q oq t,q≠p->q<π.length->l[π.getD q 0]?=some oq->oq.dst=some t->o.dst≠some t:=fun q oq t h1 h2 h3 h4 e=>by
   have:=((XC F.order ho).2 _ oq t h3 h4).1 e;exact h1 (F.inj p q hpl h2 this).symm
  cases hf:isM P l π m (π.getD p 0)with
  |true=>
   have hpm:p<m:=by
    refine JO fun h=>?_;rw[(F.tail p h hpl).1]at hf;cases hf
   have hk2:Ya P o.op=2:=by
    rw[qoz hpm]at hf;unfold isF at hf;rw[ho]at hf;simpa using hf
   have hna:=F.notF _ (F.inr p hpl) hf;rw[YJ F.inr hpl ho,show m-p=(m-(p+1))+1 by omega]at hev;simp only[qaK,((qlG ho).symm.trans hna),hk2,if_true,KV,if_false]at hev;obtain⟨V,⟨_,hv⟩,hfact⟩:=qgo hall hk2 hev;have hun:=pre.ahead p (KJ _) hpl hna;refine ih (p+1) (putD S o.dst V) g ga (by omega) ⟨pre.size,pre.closed,pre.tsize,pre.defers,by omega,fun q h1 h2 h3=>pre.ahead q (by omega) h2 h3,fun q h1 h2=>?_,fun hm=>by omega,pre.rel,pre.sub,fun _=>pre.sub0 (by omega),hv,fun q oq h1 h2 h3=>?_,fun q oq h1 h2 h3 h4 h5=>pre.early q oq (by omega) h2 h3 h4 h5,fun t=>?_⟩
   ·rcases JB (EA h1)with e|e
    ·subst e;rw[hf]at h2;cases h2
    ·exact pre.behind q e h2
   ·rcases JB (EA h1)with e|e
    ·subst e
     rw[ho]at h2;obtain rfl:=Option.some.inj h2;exact⟨V,fun t ht=>by rw[XG,if_pos ht],hfact.slots fun t ht=>by rw[XG,if_neg fun e=>notlook q o (KJ _) ho t e ht]⟩
    ·obtain⟨V',v1,v2⟩:=pre.fact q oq e h2 h3
     refine⟨V',fun t ht=>?_,v2.slots fun t ht=>?_⟩
     ·rw[XG,if_neg (uniq q oq t (by omega) (by omega) h2 ht)];exact v1 t ht
     ·rw[XG,if_neg fun e'=>notlook q oq (by omega) h2 t e' ht]
   ·by_cases hod:o.dst=some t
    ·exact .inl ⟨p,o,hpl,ho,hod, .inl ⟨by omega,hun⟩⟩
    ·rcases pre.slot t with⟨q,oq,c1,c2,c3,c4⟩|c
     ·refine .inl ⟨q,oq,c1,c2,c3,?_⟩
      rcases c4 with⟨c4,c5⟩|⟨c4,c5⟩
      ·exact .inl ⟨by omega,c5⟩
      ·refine .inr ⟨?_,c5⟩
       rcases JB c4 with e|e
       ·subst e;rw[hun]at c5;cases c5
       ·exact e
     ·right
      rw[XG,if_neg hod];exact c
  |false=>
   cases hl:listed.getD (π.getD p 0) false with
   |false=>exact⟨p,S,g,ga,pre,fun _=>⟨hf,hl⟩⟩
   |true=>
    have hA:isY la l (π.getD p 0)=true:=by
     cases hA:isY la l (π.getD p 0)with
     |true=>rfl
     |false=>rw[pre.ahead p (KJ _) hpl hA]at hl;cases hl
    have hpm:p<m:=by
     refine JO fun h=>?_;rw[(F.tail p h hpl).2]at hA;cases hA
    obtain⟨k,e2,e3,e4⟩:=pre.early p o (KJ _) hpl ho hA hl;rw[YJ F.inr hpl ho,show m-p=(m-(p+1))+1 by omega]at hev;simp only[qaK,((qlG ho).symm.trans hA),if_true]at hev;refine ih (p+1) (putD S o.dst ((lyO ly o).2 k)) ga ga (by omega) ⟨pre.size,pre.closed,pre.tsize,pre.defers,by omega,fun q h1 h2 h3=>pre.ahead q (by omega) h2 h3,fun q h1 h2=>?_,fun hm=>by omega,pre.rel,Vl _,fun _=>pre.sub0 (by omega),hev.2.2 k ga e2 pre.sub e3,fun q oq h1 h2 h3=>?_,fun q oq h1 h2 h3 h4 h5=>pre.early q oq (by omega) h2 h3 h4 h5,fun t=>?_⟩
    ·rcases JB (EA h1)with e|e
     ·subst e;exact hl
     ·exact pre.behind q e h2
    ·rcases JB (EA h1)with e|e
     ·subst e;rw[hl]at h3;cases h3
     ·obtain⟨V',v1,v2⟩:=pre.fact q oq e h2 h3
      refine⟨V',fun t ht=>?_,(v2.sub pre.sub).slots fun t ht=>?_⟩
      ·rw[XG,if_neg (uniq q oq t (by omega) (by omega) h2 ht)];exact v1 t ht
      ·rw[XG,if_neg fun e'=>notlook q oq (by omega) h2 t e' ht]
    ·by_cases hod:o.dst=some t
     ·right
      rw[XG,if_pos hod];exact e4 t hod
     ·rcases pre.slot t with⟨q,oq,c1,c2,c3,c4⟩|c
      ·refine .inl ⟨q,oq,c1,c2,c3,?_⟩
       rcases c4 with⟨c4,c5⟩|⟨c4,c5⟩
       ·exact .inl ⟨by omega,c5⟩
       ·refine .inr ⟨?_,c5⟩
        rcases JB c4 with e|e
        ·subst e;rw[ho]at c2;obtain rfl:=Option.some.inj c2;exact absurd c3 hod
        ·exact e
      ·right
       rw[XG,if_neg hod];exact c
def PhaseY(P:Program)(wz:World)(n:FrameK)(la:List Nat)(ly:Nat->List AVal×(Nat->AVal))(l:List Oper)(π:List Nat)(m:Nat)(hZ:AHeap)(K:Slots->AHeap->Prop)(listed:Array Bool)(Ps:PMap)(a:Act)(w:World):Prop:=
 ∃p S g ga,PreY P wz n la ly l π m hZ K listed Ps a w p S g ga/\(p<π.length->isM P l π m (π.getD p 0)=false/\listed.getD (π.getD p 0) false=false)
theorem any_okY{l:List Oper}(hall:Xg n l=true){π:List Nat}{m:Nat}(F:FloatY P la l π m){hZ:AHeap}{K:Slots->AHeap->Prop}{fi:PMap}{Q:Exit->Act->World->Prop}
 (hq:∀Ps S g a w,fi.le Ps->HRel wz Ps g w->SRel Ps n S a->K S g->Q .normal a w):∀(fuel:Nat) (listed:Array Bool) (a:Act) (w:World) (Ps:PMap),fi.le Ps->PhaseY P wz n la ly l π m hZ K listed Ps a w->
 (listed.toList.filter (!·)).length<=fuel->wpAny P .any l.toArray Q fuel listed a w:=by
 have hB:=F.order;have fin:∀(listed:Array Bool) (a:Act) (w:World) (Ps:PMap),fi.le Ps->PhaseY P wz n la ly l π m hZ K listed Ps a w->Region.ready .any l.toArray listed=[]->Q .normal a w:=by
  rintro listed a w Ps hle ⟨p,S,g,ga,pre,stop⟩ hrd;have hal:=qaE hB pre.size hrd;have hp:p=π.length:=by
   rcases JB pre.ple with e|e
   ·exact e
   ·have:=(stop e).2
    rw[hal _ (F.inr p e)]at this;cases this
  subst hp;have hev:=pre.ev;rw[show(Zk l π).drop π.length=[] by rw[<-qab F.inr];simp,qio]at hev;refine hq Ps S g a w hle (pre.rel.forget pre.sub) ⟨pre.tsize,pre.defers,fun t=>?_⟩ hev;rcases pre.slot t with⟨q,o,c1,c2,c3,c4⟩|c
  ·rcases c4 with⟨_,c5⟩|⟨c4,_⟩
   ·rw[hal _ (F.inr q c1)]at c5;cases c5
   ·omega
  ·exact c
 intro fuel;induction fuel with
 |zero=>
  intro listed a w Ps hle inv hc;have hrd:Region.ready .any l.toArray listed=[]:=by
   cases hrd:Region.ready .any l.toArray listed with
   |nil=>rfl
   |cons i r=>
    exfalso;have hm:i∈Region.ready .any l.toArray listed:=by rw[hrd];exact Je
    obtain⟨h1,o,ho,_⟩:=mem_ready.1 hm;have hi:i<listed.size:=by
     have:l[i]?=some o:=by simpa using ho
     obtain⟨_,_,_,_,pre,_⟩:=inv;rw[pre.size];exact(JA.1 this).1
    have h2:listed.toList[i]?=some false:=by
     simp[JE,hi]at h1;simp[hi,h1]
    have:=JZ h2;have hmem:false∈listed.toList.filter (!·):=by simp[J2,this]
    have:=J3 hmem;omega
  exact⟨hrd,fin listed a w Ps hle inv hrd⟩
 |succ fuel ih=>
  intro listed a w Ps hle inv hc;refine⟨fun hrd=>fin listed a w Ps hle inv hrd,fun i hi=>?_⟩;obtain⟨p,S,g,ga,pre,stop⟩:=inv;obtain⟨h1,o,ho,hedges⟩:=mem_ready.1 hi;have hol:l[i]?=some o:=by simpa using ho
  have hilt:i<l.length:=(JA.1 hol).1;have hisz:i<listed.size:=by rw[pre.size];exact hilt
  have hif:listed.getD i false=false:=by simp[JE,hisz]at h1|-;exact h1
  have hcount:((listed.setIfInBounds i true).toList.filter (!·)).length<=fuel:=by
   have h2:listed.toList[i]?=some false:=by
    simp[JE,hisz]at h1;simp[hisz,h1]
   have:=qaB listed.toList i h2;have e:(listed.setIfInBounds i true).toList=listed.toList.set i true:=by simp
   rw[e];omega
  have hdn:∀d,o.dst=some d->d<n:=fun d hd=>qbF l i d hall (by rw[Yf,hol];exact hd);obtain⟨q,hql,hqi⟩:=F.onto i hilt;have hoq:l[π.getD q 0]?=some o:=by rw[hqi];exact hol
  have looks:q<=p\/isY la l (π.getD q 0)=true->LookOk Ps n l o S a:=fun hqp=>⟨pre.tsize,pre.defers,fun t ht=>by
   rcases pre.slot t with⟨r,oj,c1,c2,c3,c4⟩|c
   ·exfalso
    have:=F.data q r o oj t hql c1 hoq c2 c3 ht;have hw:=this.2;rw[hqi]at hw;rcases c4 with⟨_,c5⟩|⟨c4,c5⟩
    ·rw[YP hol hedges hw]at c5
     cases c5
    ·rcases hqp with hqp|hqp
     ·omega
     ·have hra:=F.dataY q r o oj t hql c1 hqp hoq c2 c3 ht
      rw[pre.ahead r c4 c1 hra]at c5;cases c5
   ·exact c⟩
  have closed':∀j oj,l[j]?=some oj->(listed.setIfInBounds i true).getD j false=true->∀e∈oj.after,Region.binds .any e=true->(listed.setIfInBounds i true).getD e.on false=true:=fun j oj hj hl e he hb=>by
   by_cases e1:e.on=i
   ·rw[e1];exact set_self hisz
   ·rw[Xy e1]
    by_cases e2:j=i
    ·subst e2
     rw[hol]at hj;obtain rfl:=Option.some.inj hj;exact hedges e he hb
    ·rw[Xy e2]at hl
     exact pre.closed j oj hj hl e he hb
  have other:∀r,r<π.length->r≠q->(listed.setIfInBounds i true).getD (π.getD r 0) false=listed.getD (π.getD r 0) false:=fun r hr hne=>Xy fun e=>hne (F.inj r q hr hql (by rw[e,hqi]));have self:(listed.setIfInBounds i true).getD (π.getD q 0) false=true:=by rw[hqi];exact set_self hisz
  have uniqd:∀r or t,r<π.length->r≠q->l[π.getD r 0]?=some or->or.dst=some t->o.dst≠some t:=fun r or t h1 h2 h3 h4 e=>by
   have:=((XC hB hoq).2 _ or t h3 h4).1 e;exact h2 (F.inj q r hql h1 this).symm
  have nobehind:isY la l (π.getD q 0)=false->p<q->False:=fun hna hpq=>by
   obtain⟨s1,s2⟩:=stop (by omega);obtain⟨r,r1,r2,r4,r3⟩:=F.wait q p hql hpq hna s1;rw[hqi]at r3;have hr:=YP hol hedges r3;rcases r4 with e|e
   ·subst e;rw[s2]at hr;cases hr
   ·rw[pre.ahead r r1 (by omega) e]at hr;cases hr
  have goal:(if Region.wanted o (yielded l.toArray a.tmps)=true then o.wp P a w (wpAny P .any l.toArray Q fuel (listed.setIfInBounds i true)) Q else wpAny P .any l.toArray Q fuel (listed.setIfInBounds i true) (a.put o.dst undef) w):=by
   cases hqa:isY la l (π.getD q 0)with
   |true=>
    have hnf:isM P l π m (π.getD q 0)=false:=by
     cases hf:isM P l π m (π.getD q 0)with
     |false=>rfl
     |true=>rw[F.notF _ (F.inr q hql) hf]at hqa;cases hqa
    have hpq:p<=q:=by
     refine Kr fun hlt=>?_;have:=pre.behind q hlt hnf;rw[hqi,hif]at this;cases this
    have hqm:q<m:=by
     refine JO fun h=>?_;rw[(F.tail q h hql).2]at hqa;cases hqa
    have hlay:qka P wz l S o (lyO ly o):=by
     have hpl:p<π.length:=by omega
     obtain⟨op,hop⟩:∃o,l[π.getD p 0]?=some o:=⟨_,Jz (F.inr p hpl)⟩
     have hev:=pre.ev;rw[YJ F.inr hpl hop,show m-p=(m-(p+1))+1 by omega]at hev;have hyo:qje la o=true:=(qlG hoq).symm.trans hqa;have hmem:p<q->o∈(Zk l π).drop (p+1):=fun hlt=>by
      have h1:=YJ F.inr hql hoq;have h2:(Zk l π).drop q=((Zk l π).drop (p+1)).drop (q-(p+1)):=by rw[BN,show p+1+(q-(p+1))=q by omega]
      rw[h2]at h1;exact List.mem_of_mem_drop (by rw[h1];exact Je)
     rcases JB hpq with e|e
     ·subst e
      rw[hoq]at hop;obtain rfl:=Option.some.inj hop;simp only[qaK,hyo,if_true]at hev;exact hev.1
     ·simp only[qaK]at hev
      by_cases h1:qje la op=true
      ·rw[if_pos h1]at hev
       exact hev.2.1 o (hmem e) hyo
      ·rw[if_neg h1]at hev
       have hk2:¬Ya P op.op=2:=fun h2=>by
        have:=(stop hpl).1;rw[qoz (by omega)]at this;unfold isF at this;rw[hop]at this;simp[h2]at this
       rw[if_neg hk2]at hev;exact hev.1 o (hmem e) hyo
    refine qgY hall (hlay ga) pre.rel (looks (.inr hqa)) fun ψ' x h' v w' e1 e2 e3 ⟨k,k1,k2,k3⟩=>?_;subst k3;have hxk:∀t,o.dst=some t->x=(lyO ly o).2 k:=fun t ht=>by
     have:=congrArg (fun s:Slots=>s.get t) k2;simp only[XG,ht,if_true]at this;exact this
    have hsub:Sub ga (ga.set k ⟨(lyO ly o).1,0⟩):=Vg k1;have pre':PreY P wz n la ly l π m hZ K (listed.setIfInBounds i true) ψ' (a.put o.dst v) w' p S g (ga.set k ⟨(lyO ly o).1,0⟩):=by
     refine⟨by simp[pre.size],closed',by rw[UG];exact pre.tsize,by rw[put_defers];exact pre.defers,pre.ple,fun r r1 r2 r3=>?_,fun r r1 r2=>?_,fun hm=>by omega,e2,BJ pre.sub hsub,fun hm=>BJ (pre.sub0 hm) hsub,pre.ev,fun r oj r1 r2 r3=>?_,fun r oj r1 r2 r3 r4 r5=>?_,fun t=>?_⟩
     ·have hne:r≠q:=fun e=>by subst e;rw[hqa]at r3;cases r3
      rw[other r r2 hne];exact pre.ahead r r1 r2 r3
     ·rw[other r (by have:=pre.ple;omega) (by omega)];exact pre.behind r r1 r2
     ·rw[other r (by have:=pre.ple;omega) (by omega)]at r3
      exact pre.fact r oj r1 r2 r3
     ·by_cases er:r=q
      ·subst er
       rw[hoq]at r3;obtain rfl:=Option.some.inj r3;refine⟨k,(pre.sub0 (by omega)).none k1,Vd _ _ _,fun t ht=>?_⟩;rw[Yr a ht (by rw[pre.tsize];exact hdn t ht),<-hxk t ht];exact e3
      ·rw[other r r2 er]at r5
       obtain⟨k',q2,q3,q4⟩:=pre.early r oj r1 r2 r3 r4 r5;refine⟨k',q2,hsub _ _ q3,fun t ht=>?_⟩;rw[Zz a (uniqd r oj t r2 er r3 ht)];exact Yj e1 _ _ (q4 t ht)
     ·by_cases hod:o.dst=some t
      ·exact .inl ⟨q,o,hql,hoq,hod, .inr ⟨hpq,self⟩⟩
      ·rcases pre.slot t with⟨r,oj,c1,c2,c3,c4⟩|c
       ·have hne:r≠q:=fun e=>by subst e;rw[hoq]at c2;obtain rfl:=Option.some.inj c2;exact hod c3
        exact .inl ⟨r,oj,c1,c2,c3,by rw[other r c1 hne];exact c4⟩
       ·right
        rw[Zz a hod];exact Yj e1 _ _ c
    obtain⟨p',S',g',ga',pre2,stop2⟩:=qiA hall F _ _ _ _ _ rfl pre';exact ih _ _ _ ψ' (J6 hle e1) ⟨p',S',g',ga',pre2,stop2⟩ hcount
   |false=>
    rcases KT q p with hqp|hqp
    ·
     obtain⟨V,v1,v2⟩:=pre.fact q o hqp hoq (by rw[hqi];exact hif);refine v2 Ps w a ga _ Q pre.sub pre.rel (looks (.inl (by omega))) fun v hv=>?_;refine ih _ _ _ Ps hle ⟨p,S,g,ga,⟨by simp[pre.size],closed',by rw[UG];exact pre.tsize,by rw[put_defers];exact pre.defers,pre.ple,fun r r1 r2 r3=>?_,fun r r1 r2=>?_,fun hm r r1=>?_,pre.rel,pre.sub,pre.sub0,pre.ev,fun r oj r1 r2 r3=>?_,fun r oj r1 r2 r3 r4 r5=>?_,fun t=>?_⟩,fun hp=>?_⟩ hcount
     ·rw[other r r2 (by omega)];exact pre.ahead r r1 r2 r3
     ·by_cases e:r=q
      ·rw[e];exact self
      ·rw[other r (by have:=pre.ple;omega) e];exact pre.behind r r1 r2
     ·by_cases e:r=q
      ·rw[e];exact self
      ·rw[other r (by have:=pre.ple;omega) e];exact pre.past hm r r1
     ·by_cases e:r=q
      ·rw[e,self]at r3;cases r3
      ·rw[other r (by have:=pre.ple;omega) e]at r3
       exact pre.fact r oj r1 r2 r3
     ·rw[other r r2 (by omega)]at r5
      obtain⟨k',q2,q3,q4⟩:=pre.early r oj r1 r2 r3 r4 r5;refine⟨k',q2,q3,fun t ht=>?_⟩;rw[Zz a (uniqd r oj t r2 (by omega) r3 ht)];exact q4 t ht
     ·by_cases hod:o.dst=some t
      ·right
       rw[v1 t hod,Yr a hod (by rw[pre.tsize];exact hdn t hod)];exact hv
      ·rcases pre.slot t with⟨r,oj,c1,c2,c3,c4⟩|c
       ·have hne:r≠q:=fun e=>by subst e;rw[hoq]at c2;obtain rfl:=Option.some.inj c2;exact hod c3
        exact .inl ⟨r,oj,c1,c2,c3,by rw[other r c1 hne];exact c4⟩
       ·right
        rw[Zz a hod];exact c
     ·rw[other p hp (by omega)];exact stop hp
    ·have hqe:q=p:=by
      rcases JB hqp with e|e
      ·exact e.symm
      ·exact(nobehind hqa e).elim
     subst hqe;have all_m:m<=q->∀r,r<q->listed.getD (π.getD r 0) false=true:=fun hm r hr=>by
      rcases JB hm with e|e
      ·subst e
       have key:∀d r,r+d=m->r<m->listed.getD (π.getD r 0) false=true:=by
        intro d;induction d using Jv with
        |ind d ihd=>
         intro r hd hr;obtain⟨r',s1,s2,s3⟩:=F.sink hql r hr;rcases JB s2 with e|e
         ·subst e
          rw[hqi]at s3;exact YP hol hedges s3
         ·have hl:=ihd (m-r') (by omega) r' (by omega) e
          obtain⟨oj,hoj⟩:∃oj,l[π.getD r' 0]?=some oj:=⟨_,Jz (F.inr r' (by omega))⟩
          exact YP hoj (pre.closed _ oj hoj hl) s3
       exact key (m-r) r (by omega) hr
      ·exact pre.past e r hr
     have hnf:isM P l π m (π.getD q 0)=false:=(stop hql).1;have hk2:q<m->¬Ya P o.op=2:=fun c h2=>by
      rw[qoz c]at hnf;unfold isF at hnf;rw[hoq]at hnf;simp[h2]at hnf
     obtain⟨gx,K',ha,relx,hnext⟩:∃(gx:AHeap) (K':Slots->AHeap->Prop),QB P wz l [o] S gx K'/\HRel wz Ps gx w/\∀s' h',K' s' h'->(q<m->Sub ga h')/\qaK P wz l la ly hZ (m-(q+1)) ((Zk l π).drop (q+1)) s' h' K:=by
      have hev:=pre.ev;rw[YJ F.inr hql hoq]at hev;by_cases c:q<m
      ·rw[show m-q=(m-(q+1))+1 by omega]at hev
       simp only[qaK,((qlG hoq).symm.trans hqa),hk2 c,if_false,KV]at hev;exact⟨ga,_,hev.2 ga pre.sub,pre.rel,fun s' h' hx=>⟨fun _=>hx.1,hx.2⟩⟩
      ·rw[show m-q=0 by omega,qkj]at hev
       refine⟨g,_,qjS hev,pre.rel.forget pre.sub,fun s' h' hx=>⟨fun hc=>absurd hc c,?_⟩⟩;rw[show m-(q+1)=0 by omega];cases hdr:(Zk l π).drop (q+1)with
       |nil=>rw[hdr]at hx;rw[qio];exact hx
       |cons o' r'=>rw[hdr]at hx;exact hx
     refine qgY hall ha relx (looks (.inl (KJ _))) fun ψ' x h' v w' e1 e2 e3 hk=>?_;obtain⟨k1,k2⟩:=hnext _ _ hk;have pre':PreY P wz n la ly l π m hZ K (listed.setIfInBounds i true) ψ' (a.put o.dst v) w' (q+1) (putD S o.dst x) h' h':=by
      refine⟨by simp[pre.size],closed',by rw[UG];exact pre.tsize,by rw[put_defers];exact pre.defers,by omega,fun r r1 r2 r3=>?_,fun r r1 r2=>?_,fun hm r r1=>?_,e2,Vl _,fun hm=>BJ (pre.sub0 (by omega)) (k1 (by omega)),k2,fun r oj r1 r2 r3=>?_,fun r oj r1 r2 r3 r4 r5=>?_,fun t=>?_⟩
      ·rw[other r r2 (by omega)];exact pre.ahead r (by omega) r2 r3
      ·by_cases e:r=q
       ·rw[e];exact self
       ·rw[other r (by omega) e];exact pre.behind r (by omega) r2
      ·by_cases e:r=q
       ·rw[e];exact self
       ·rw[other r (by omega) e];exact all_m (by omega) r (by omega)
      ·by_cases e:r=q
       ·rw[e,self]at r3;cases r3
       ·rw[other r (by omega) e]at r3
        have hrq:r<q:=by omega
        obtain⟨V,v1,v2⟩:=pre.fact r oj hrq r2 r3;have hqm:q<m:=by
         refine JO fun hm=>?_;rw[all_m hm r hrq]at r3;cases r3
        refine⟨V,fun t ht=>?_,(v2.sub (BJ pre.sub (k1 hqm))).slots fun t ht=>?_⟩
        ·rw[XG,if_neg (uniqd r oj t (by omega) e r2 ht)];exact v1 t ht
        ·rw[XG,if_neg fun e'=>by
          have:=(F.data r q oj o t (by omega) hql r2 hoq e' ht).1;omega]
      ·have hrm:r<m:=by
        refine JO fun h=>?_;rw[(F.tail r h r2).2]at r4;cases r4
       rw[other r r2 (by omega)]at r5;obtain⟨k',q2,q3,q4⟩:=pre.early r oj (by omega) r2 r3 r4 r5;refine⟨k',q2,k1 (by omega) _ _ q3,fun t ht=>?_⟩;rw[Zz a (uniqd r oj t r2 (by omega) r3 ht)];exact Yj e1 _ _ (q4 t ht)
      ·by_cases hod:o.dst=some t
       ·right
        rw[XG,if_pos hod,Yr a hod (by rw[pre.tsize];exact hdn t hod)];exact e3
       ·rcases pre.slot t with⟨r,oj,c1,c2,c3,c4⟩|c
        ·have hne:r≠q:=fun e=>by subst e;rw[hoq]at c2;obtain rfl:=Option.some.inj c2;exact hod c3
         refine .inl ⟨r,oj,c1,c2,c3,?_⟩;rw[other r c1 hne];rcases c4 with⟨c4,c5⟩|⟨c4,c5⟩
         ·exact .inl ⟨by omega,c5⟩
         ·exact .inr ⟨by omega,c5⟩
        ·right
         rw[XG,if_neg hod,Zz a hod];exact Yj e1 _ _ c
     obtain⟨p',S',g',ga',pre2,stop2⟩:=qiA hall F _ _ _ _ _ rfl pre';exact ih _ _ _ ψ' (J6 hle e1) ⟨p',S',g',ga',pre2,stop2⟩ hcount
  simp only[wpOp,ho];split
  ·rename_i hw
   rw[if_pos hw]at goal;exact .inl goal
  ·rename_i hw
   rw[if_neg hw]at goal;exact goal
theorem qph{Q:Exit->Slots->AHeap->Prop}{s:Slots}{h:AHeap}{id:Nat}{l:List Oper}(π:List Nat)(ws:List (Option Nat))(m:Nat)(la:List Nat)(ly:Nat->List AVal×(Nat->AVal))(hm:P.follows .mixedOrders=true)(hB:qlK P la l π ws m=true)(hd:Xg n l=true)
 (hc:qaK P wz l la ly h m (Zk l π) s h fun s' h'=>Q .normal s' h'):Awp P wz n (.region id l.toArray true) Q s h:=by
 refine Awp.of0 ?_;intro fi a w hr hs;have F:=qnj hB;refine wp_region_any hm ?_;have hf:∀j,(Jw l.toArray.size false).getD j false=false:=fun j=>by simp[JE]
 have pre:PreY P wz n la ly l π m h (fun s' h'=>Q .normal s' h') (Jw l.toArray.size false) fi a w.drew 0 s h h:=
  ⟨by simp,fun j oj _ hl=>(by rw[hf]at hl;cases hl),hs.size,hs.defers,Js _,fun q _ _ _=>hf _,fun q h1=>by omega,fun h1=>by omega,hr.drew,Vl _,fun _=>Vl _,by rw[Jg,KP];exact hc,fun q o h1=>by omega,fun q o _ _ _ _ h5=>(by rw[hf]at h5;cases h5),fun t=> .inr (hs.val t)⟩
 obtain⟨p',S',g',ga',pre2,stop2⟩:=qiA hd F _ _ _ _ _ rfl pre;refine any_okY (fi:=fi) hd F (K:=fun s' h'=>Q .normal s' h') (fun Ps S g a' w' hle h1 h2 h3=>⟨Ps,S,g,hle,h1,h2,h3⟩) _ _ _ _ fi fi.le_refl ⟨p',S',g',ga',pre2,stop2⟩ ?_;have:=J9 (!·) (Jw l.toArray.size false).toList;simpa using this
theorem qpf{Q:Exit->Slots->AHeap->Prop}{s:Slots}{h:AHeap}{id:Nat}{l:List Oper}{y:Code}(π:List Nat)(ws:List (Option Nat))(m:Nat)(la:List Nat)(ly:Nat->List AVal×(Nat->AVal))(L:List Nat)(hm:P.follows .mixedOrders=true)(hB:qlK P la l π ws m=true)(hd:Xg n l=true)
 (hc:∀K:Slots->AHeap->Prop,(∀s h,Awp P wz n y Q s h->K s h)->qaK P wz l la ly h m (Zk l π) s h fun s' h'=>K (s'.keep L) h'):Awp P wz n (.seq (.region id l.toArray true) y) Q s h:=
 qL (qph π ws m la ly hm hB hd (qeu (fun _ _ hk=>Va L hk) (hc (fun s h=>Awp P wz n y Q s h) (fun _ _ hk=>hk))))
end
end Go.AM
namespace Go.Proofs.YtlhhaagmakhilaaGreatDoor
open Go.AM
open Go.Proofs
open Go.Col (Str FaultC okF sp)
open Go.Tok
open Go.Cop
open Go.RowKit (Below)
set_option maxRecDepth 100000
theorem qmp{P:Program}{wz:World}{ops rest:List Oper}{s:Slots}{h:AHeap}{K:Slots->AHeap->Prop}{dst:Option Tmp}{ty:TypeId}{pos:String}{af:Array Edge}{ts:Array TypeId}{t u e:TypeId}{d:TypeDesc}{x y:Operand}{v v':AVal}{es by':Nat}{z:Value}{xs ys:List (List AVal)}
 (h0:ts[0]?=some t) (h1:ts[1]?=some u) (ht:P.underlying t=some (.slice e)) (hu:P.underlying u=some d) (hd:∀k,d≠ .int k)
 (hs:ZP P e=some es) (hb:qfB P e=some by') (hz:Uc P e=some z) (hzs:z.cells.size=es) (hes:es≠0)
 (hx:ev s x=Yd v) (hv:IsL wz h es v xs) (hy:ev s y=v') (hv':IsL wz h es v' ys)
 (hl:(xs.length+ys.length)*by'<=140737488355328) (hl':xs.length+ys.length<4611686018427387904)
 (hk:∀r h',Sub h h'->IsL wz h' es r (xs++ys)->QB P wz ops rest (putD s dst r) h' K):
 QB P wz ops (⟨dst, .call ⟨.builtin .append,[x,y].toArray,ts⟩,ty,pos,af,none⟩::rest) s h K:=by
 obtain⟨s1,s2,s3⟩:=hv'.src;have hw:∀x∈xs++ys,x.length=es:=fun x hx=>by
  rcases List.mem_append.1 hx with h|h
  ·exact hv.wide x h
  ·exact hv'.wide x h
 have hal:AM.allLive (xs++ys).flatten=true:=by rw[Ej,qai,hv.allLive,hv'.allLive];rfl
 have key:∀k,h k=none->QB P wz ops rest (putD s dst (.slice (.own k) 0 (xs.length+ys.length) (.grow es))) (h.set k ⟨xs.flatten++ys.flatten,0⟩) K:=fun k hk0=>by
  have:=hk (.slice (.own k) 0 (xs.length+ys.length) (.grow es)) (h.set k ⟨(xs++ys).flatten,0⟩) (Vg hk0) (by rw[<-Jb];exact V8 (Vd _ _ _) hw rfl hal (.grow es) rfl)
  rwa [Ej]at this
 have none:ys.length=0->QB P wz ops rest (putD s dst (Yd v)) h K:=fun e0=>by
  refine hk (Yd v) h (Vl _) ?_;rw[Ke e0,Be];exact hv.clip
 rw[qaY];simp only[eop,evs,Kc,Vj,hx,hy,qeP,h0,h1,ht,hu,hs,hb,hz,s1];refine⟨hd,⟨hes,hzs⟩,s2,?_⟩;cases hv with
 |nil=>
  simp only[Yd]at none|-
  simp only[J8,Jr,List.flatten_nil,Jd]at hl hl' key;exact⟨none,fun _=>⟨⟨hl,hl'⟩,fun k hk0 _=>by rw[s3];exact key k hk0⟩⟩
 |mk lc o n c xs hn hw hc hl2 hcap=>
  subst hn;simp only[Yd]at none|-
  refine⟨fun h1=> .inl ⟨by omega,none (by omega)⟩,fun _=>⟨⟨by rw[hc];exact hl2,hl,hl'⟩,fun k hk0 _=>?_⟩⟩;rw[hc,s3];exact key k hk0
theorem qrh{r:List RepC}(hr:∀x∈r,x.old≠[]){l:List TokC}(hi:0<l.length)(hn:∀x∈r,ZB l x.old=false):WB r l=l.getD 0 noT::WB r (l.drop 1):=by
 have h:=qcw hr (l:=l) (i:=0) hi;rw[KP]at h;rw[h,List.find?_eq_none.2 (fun x hx=>by rw[hn x hx];decide)]
theorem qsJ{r:List RepC}(hr:∀x∈r,x.old≠[]){l:List TokC}{i:Nat}(h0:0<l.length)(hi:i<r.length)(hf:ZB l (r.getD i ⟨[],[]⟩).old=true)(hn:∀j,j<i->ZB l (r.getD j ⟨[],[]⟩).old=false):WB r l=(r.getD i ⟨[],[]⟩).new++WB r (l.drop (r.getD i ⟨[],[]⟩).old.length):=by
 have h:=qcw hr (l:=l) (i:=0) h0;rw[KP]at h;have hfind:r.find? (fun x=>ZB l x.old)=some (r.getD i ⟨[],[]⟩):=by
  rw[List.find?_eq_some_iff_getElem];refine⟨hf,i,hi,by rw[Kn,Jz hi];rfl,fun j hj=>?_⟩;have:=hn j hj;rw[Kn,Jz (by omega)]at this;simpa using this
 rw[h,hfind];simp only[Jr]
theorem fits_len{l o:List TokC}(h:ZB l o=true):o.length<=l.length:=by
 unfold ZB at h;rw[Kw,decide_eq_true_eq]at h;exact h.1
theorem qrf{qs:List RepQ}{i:Nat}(hi:i<qs.length):(qs.map (·.1)).getD i ⟨[],[]⟩=(qs.getD i qhs).1:=by
 rw[Kn,List.getElem?_map,Jz hi,Kn,Jz hi];rfl
set_option maxHeartbeats 4000000 in
theorem qoP(wz:World)(n:Nat)(rs:List RepC)(hr:∀x∈rs,x.old≠[])(hrl:rs.length<=1000000)(ih:∀(h:AHeap) (v rv:AVal) (l:List TokC),l.length<n->l.length<=1000000->(WB rs l).length<=1000000000->IsL wz h 5 v (l.map QJ)->IsReps wz h rv rs->
 ACall Tryz.prog wz 17 [v,rv] h (fun r h'=>IsL wz h' 5 r ((WB rs l).map QJ)/\Sub h h'))
 (h:AHeap) (v rv:AVal) (l:List TokC) (hn:l.length=n) (hl:l.length<=1000000) (hR:(WB rs l).length<=1000000000) (hv:IsL wz h 5 v (l.map QJ)) (hrv:IsReps wz h rv rs):
 ACall Tryz.prog wz 17 [v,rv] h (fun r h'=>IsL wz h' 5 r ((WB rs l).map QJ)/\Sub h h'):=by
 have hlv:=hv.live;have nv:=Ze hv;have hrv0:=hrv;obtain⟨qs,hq0,hq1,hq2⟩:=hrv0;have hrvl:=hq1.live;have nr:=qlr hq1;have hqm:rs.length=qs.length:=by rw[hq0,Jo]
 have hcl:(AVal.bool true).live=true:=rfl;refine qP (n:=48) (rs:=[.tmp 4]) Tryz.func17 rfl rfl rfl rfl (VL rfl) ?_;simp only[Qd];refine awp_rseq [0,1] (by rfl) fun K hK=>?_;simp+decide only[qa,ev,qH,qF,putD,VM,VN,Ka,true_and,↓qd,qb,Jr];apply hK;clear hK K;refine qL ?_;refine awp_rseq [0,1,8] (by rfl) fun K hK=>?_;simp+decide only[qa,ev,qH,qF,putD,VM,VO,VN,Ka,true_and,↓qh,qc,↓Xt,QD,↓qA,ql,qC,cond_false,qp,XH,nv];apply hK;clear hK K;refine qK (b:=_) rfl (fun hb1=>?_) (fun hb1=>?_)
 ·try simp only[decide_eq_true_eq]at hb1
  refine awp_rseq [4] (by rfl) fun K hK=>?_;simp+decide only[qa,ev,qH,qF,putD,VM,VN,Ka,true_and,↓qd,qb];apply hK;clear hK K;refine qN ?_;try simp only[Qf]
  refine qW h zqC (qR (Qa)) ?_;simp+decide only[VO,if_true,Ql];have:l=[]:=Ke (by omega);subst this;exact⟨.nil,Vl _⟩
 ·try simp only[decide_eq_false_iff_not]at hb1
  have h0:0<l.length:=by omega
  obtain⟨lc,o,c,rfl⟩:=Wy hv h0;refine qV ?_;change Awp _ _ _ _ _ _ _;refine qL ?_;refine awp_rseq [0,1,5] (by rfl) fun K hK=>?_;simp+decide only[qa,ev,qH,qF,putD,VM,VN,Ka,true_and,↓qd,qb];apply hK;clear hK K;refine Qp ?_;refine XE [0,1,5] (fun i:Nat=>[(0, .slice lc o l.length c),(1,rv),(5, .int .i64 i)]) (fun i:Nat=>h) (fun i:Nat=>i<=qs.length/\∀j,j<i->ZB l (rs.getD j ⟨[],[]⟩).old=false) (fun i:Nat=>qs.length-i) 0 (by rfl) (Vl _) ⟨Js _,fun j hj=>absurd hj (Nat.not_lt_zero _)⟩ ?_;rintro i ⟨hi,hnf⟩;refine qL ?_;refine awp_rseq [0,1,5,12] (by rfl) fun K hK=>?_;simp+decide only[qa,ev,putD,VM,VO,VN,Ka,true_and,↓qh,qc,↓Xt,QD,↓qA,ql,qZ,cond_false,qp,Zc,nr];apply hK;clear hK K;refine qK (b:=_) rfl (fun hb2=>?_) (fun hb2=>?_)
  ·try simp only[decide_eq_true_eq]at hb2
   have hi':i<qs.length:=by omega
   obtain⟨lr,or,cr,hre⟩:=qiF hq1 (by omega);have hq1':=hq1;rw[hre]at hq1';obtain⟨a0,a1⟩:=qls hq1' hi';obtain⟨q,hq⟩:∃q,q=qs.getD i qhs:=⟨_,rfl⟩
   rw[<-hq]at a0 a1;have hqm':q∈qs:=by rw[hq];exact qcF qhs hi'
   have hrq:rs.getD i ⟨[],[]⟩=q.1:=by rw[hq0,hq];exact qrf hi'
   have hqr:q.1∈rs:=by rw[hq0];exact List.mem_map_of_mem hqm'
   obtain⟨ho,hw⟩:=hq2 q hqm';have hol:=ho.live;have hwl:=hw.live;have non:=Ze ho;refine qV ?_;change Awp _ _ _ _ _ _ _;refine qL ?_;refine Qp ?_;refine awp_rseq [0,1,5,21] (by rfl) fun K hK=>?_;simp+decide only[ev,putD,VM,VO,Ka,true_and,↓qh,qc,↓QN,Qb,Qh Tryz.underlying43 qcr,↓qD,qm,qhg,↓qG,qz UJ,hre,a0,hol,Vq,K6];repeat (with_reducible refine And.intro ?_ ?_;· first|trivial|omega|(intro hg;simp only[Kw,JV,Ji,VP,VQ,VS,decide_eq_true_eq,decide_eq_false_iff_not,XT]at hg;omega))
   refine qM (V:= .bool (ZB l q.1.old)) (by rfl) (by rfl) (c_fits04 wz _ _ q.2.1 l q.1.old hv ho (by omega)) ?_;simp+decide only[qa,putD,VM,VN,Ka];apply hK;clear hK K;refine qK (b:=_) rfl (fun hb3=>?_) (fun hb3=>?_)
   ·skip
    have hx:=qsJ hr h0 (by omega) (by rw[hrq];exact hb3) hnf;rw[hrq]at hx;have hol2:=fits_len hb3;have ho1:0<q.1.old.length:=List.length_pos_iff.2 (hr _ hqr);have hxl:=congrArg BP hx;rw[Jb]at hxl;have hsl:=hv.slice Tryz.underlying26 QW (some (.int .i64 (q.1.old.length:Int))) none (l:=(q.1.old.length:Int)) (r:=(l.length:Int)) rfl (by rw[Jo];rfl) (by omega) (by omega) (by rw[Jo];exact Int.le_refl _);have htail:IsL wz h 5 (qfR 5 (.slice lc o l.length c) q.1.old.length l.length) ((l.drop q.1.old.length).map QJ):=by
     have:=hv.sub (i:=q.1.old.length) (j:=l.length) hol2 (by rw[Jo];exact KJ _)
     rwa [<-EB,Jq (by rw[Jo,K5];exact KJ _)]at this
    refine qpg [0,1,2,3,4,6,7,8,9,10,11,12,13,14,5,15,16,17] [false,false,false,false,false,false,false,false,false,false,false,false,false,false,false,false,false,false] [none,none,none,none,none,none,none,none,none,none,none,none,none,none,none,some 14,some 15,some 16] 16 [4] mixed (by kernel_rfl) (by rfl) fun K hK=>?_;simp only[Zk,VI,Ec,Ky,KL];simp+decide only[qa,ev,putD,VM,VO,Ka,true_and,qrK,qkF,Yv,↓qh,qc,↓QN,Qb,Qh Tryz.underlying43 qcr,↓qD,qm,fa46_1,↓qG,qz UJ,qhg,↓Xt,QD,↓WU,Zt,evO,a0,a1,hol,hwl,non,hsl,Vq,K6];repeat (with_reducible refine And.intro ?_ ?_;· first|trivial|omega|(intro hg;simp only[Kw,JV,Ji,VP,VQ,VS,decide_eq_true_eq,decide_eq_false_iff_not,XT]at hg;omega))
    refine Xw (es:=5) (zs:=[]) (xs:=q.1.new.map QJ) (hZ:=h) (b:=none) (by rfl) (by rfl) Tryz.underlying26 Tryz.underlying26 (fun k e=>by cases e) QW qhn UO (by rfl) (by decide) (by rfl) trivial rfl (fun x hx=>by cases hx) (Vl _) (by rfl) hw (qfj _) (by simp only[J8,Jo];omega) (by simp only[J8,Jo];omega) fun tb h7 o1 o2 o3=>?_;have hs7:Sub h h7:=(BH o1).trans o3;rw[qa];refine And.intro (by first|exact Vl _|assumption|exact Vg (by assumption)) ?_;simp+decide only[putD,VM,Ka];refine QO (by rfl) (by rfl) (ih h7 (qfR 5 (.slice lc o l.length c) q.1.old.length l.length) _ (l.drop q.1.old.length) (by rw[K5];omega) (by rw[K5];omega) (by omega) (htail.mono hs7) (by rw[<-hre];exact hrv.mono hs7)) fun x7q15 h7q15 hx7q15=>?_;obtain⟨hres,hs15⟩:=hx7q15;have hb7:=QY 5 tb;rw[qa];refine And.intro (by first|exact Vl _|assumption|exact Vg (by assumption)) ?_;simp+decide only[putD,VM,if_false];refine Xw (es:=5) (zs:=q.1.new.map QJ) (xs:=(WB rs (l.drop q.1.old.length)).map QJ) (hZ:=h) (b:=tb) (by rfl) (by rfl) Tryz.underlying26 Tryz.underlying26 (fun k e=>by cases e) QW qhn UO (by rfl) (by decide) (by rfl) o1 (by rw[o2];simp) Xj (o3.trans hs15) (by rfl) hres (qfj _) (by simp only[Jo];omega) (by simp only[Jo];omega) fun tb2 h16 p1 p2 p3=>?_;have hb16:=QY 5 tb2;simp+decide only[qa,ev,putD,VM,VO,VN,Ka,true_and,↓qd,qb];apply hK;clear hK K;refine qN ?_;try simp only[Qf,Qu]
    refine QS (qR (Qa)) ?_;simp+decide only[VO,if_true,Ql];exact⟨Qv h tb2,p3,by rw[hx];exact BF p1 (by decide) (by rw[p2,Ba]) Xj (Vl _),BH p1⟩
   ·skip
    refine qV ?_;change Awp _ _ _ _ _ _ _;refine XL [0,1,5] (by rfl) ?_;simp+decide only[qa,ev,qH,qF,putD,VM,VO,VN,Ka,true_and,↓qh,qc,↓qA,ql,qC,cond_false,qp,Xc,↓qd,qb];try simp(disch:=omega)only[wrap_i64]
    try simp only[Qi]
    exact⟨i+1,by rw[hre];rfl,Vl _,⟨hi',fun j hj=>by
     rcases KT j i with z|z
     ·exact hnf j z
     ·rw[show j=i by omega,hrq];simpa using hb3⟩,by omega⟩
  ·try simp only[decide_eq_false_iff_not]at hb2
   have hall:∀x∈rs,ZB l x.old=false:=by
    intro x hx;obtain⟨j,hj,rfl⟩:=BM hx;have:=hnf j (by omega)
    rwa [Kn,Jz hj]at this
   have hx:=qrh hr h0 hall;have hxl:=congrArg BP hx;rw[KX]at hxl;have hsl1:=hv.slice Tryz.underlying26 QW (some (.int .i64 1)) none (l:=1) (r:=(l.length:Int)) rfl (by rw[Jo];rfl) (by omega) (by omega) (by rw[Jo];exact Int.le_refl _);have htail:IsL wz h 5 (qfR 5 (.slice lc o l.length c) 1 l.length) ((l.drop 1).map QJ):=by
    have:=hv.sub (i:=1) (j:=l.length) (by omega) (by rw[Jo];exact KJ _)
    rwa [<-EB,Jq (by rw[Jo,K5];exact KJ _)]at this
   obtain⟨t,ht⟩:∃t,t=l.getD 0 ZC:=⟨_,rfl⟩
   obtain⟨e0,e1,e2,e3,e4⟩:=qar hv h0;rw[<-ht]at e0 e1 e2 e3 e4;rw[qnh l noT ZC h0,<-ht]at hx;rw[K7,K6]at e0 e1 e2 e3 e4;have e2':rd wz h lc (o+1+1)= .int .i64 t.line:=e2;have e3':rd wz h lc (o+1+1+1)= .int .i64 t.col:=e3;have e4':rd wz h lc (o+1+1+1+1)= .bool t.left:=e4;refine XJ ?_;change Awp _ _ _ _ _ _ _;refine qpf [0,1,2,4,5,6,7,3,8,9] [none,none,none,none,none,none,none,none,some 6,some 8] 8 [42] (fun _=>(QJ t,fun k=> .slice (.own k) 0 1 (.exact 1))) [4] mixed (by kernel_rfl) (by rfl) fun K hK=>?_;simp only[Zk,VI,Ec,Ky,KL];refine qbp (by rfl) (by kernel_rfl) ?_;try simp+decide only[qa,ev,putD,VM,VO,Ka,true_and,Yv,↓qh,qc]
   refine qbp (by rfl) (by kernel_rfl) ?_;try simp+decide only[qa,ev,qH,qF,putD,VM,VO,Ka,true_and,Yv,↓QN,Qb,Qh Tryz.underlying26 QW,K7,K6,Int.toNat_zero]
   repeat (with_reducible refine And.intro ?_ ?_;· first|trivial|omega|(intro hg;simp only[Kw,JV,Ji,VP,VQ,VS,decide_eq_true_eq,decide_eq_false_iff_not,XT]at hg;omega))
   refine qbp (by rfl) (by kernel_rfl) ?_;try simp+decide only[qa,ev,putD,VM,VO,Ka,true_and,Yv,↓qG,Qb,qg XY QW,qf,qB,qi,qE,allLive,JS,e0,e1,e2',e3',e4']
   refine qbp (by rfl) (by kernel_rfl) ?_;try simp+decide only[qa,ev,putD,VM,VO,Ka,true_and,Yv,↓qh,qc]
   refine qbp (by rfl) (by kernel_rfl) ?_;try simp+decide only[qa,ev,qH,qF,putD,VM,VO,Ka,true_and,Yv,↓WU,Zt,evO,hsl1]
   refine qbp (by rfl) (by kernel_rfl) ?_;try simp+decide only[qa,ev,putD,VM,VO,Ka,true_and,Yv,↓qh,qc]
   refine qpZ (by rfl) (qot (by unfold qka lyO;intro g;refine Qn (cs:=QJ t) (by kernel_rfl) fun k hk=>?_;rw[qa];exact⟨k,hk,rfl,rfl⟩) (qeI (by rfl) (qeI (by rfl) qja))) fun g8q7 hg8q7=>?_;have hs_g8q7:Sub h g8q7:=BJ zqC hg8q7;have hr_g8q7:=hs_g8q7;refine QO (by rfl) (by rfl) (ih g8q7 _ _ (l.drop 1) (by rw[K5];omega) (by rw[K5];omega) (by omega) (htail.mono (by assumption)) (hrv.mono (by assumption))) fun x8q7 h8q7 hx8q7=>?_;obtain⟨hres,hs8⟩:=hx8q7;have hs_h8q7:Sub h h8q7:=BJ zqC hs8;have hr_h8q7:Sub g8q7 h8q7:=BJ zqC hs8;rw[qa];refine And.intro (by first|exact Vl _|assumption|exact Vg (by assumption)) ?_;try simp+decide only[putD,VM,if_false]
   refine qsw (by rfl) (by unfold qka lyO;intro g;refine Qn (cs:=QJ t) (by kernel_rfl) fun k hk=>?_;rw[qa];exact⟨k,hk,rfl,rfl⟩) (qeI (by rfl) (qeI (by rfl) qja)) fun k8q3 g8q3 hz8q3 hg8q3 ez8q3=>?_;have eb_8q3:g8q3 k8q3=some ⟨QJ t,0⟩:=ez8q3;clear ez8q3;simp only[lyO];have hf_8q3:h k8q3=none:=Bg zqC hz8q3;have hs_g8q3:Sub h g8q3:=BJ zqC hg8q3;have hr_g8q3:Sub h8q7 g8q3:=BJ zqC hg8q3;try simp+decide only[putD,VM,Ka,qkj]
   refine qmp (es:=5) (v:= .slice (.own k8q3) 0 1 (.exact 1)) (xs:=[t].map QJ) (ys:=(WB rs (l.drop 1)).map QJ) (by rfl) (by rfl) Tryz.underlying26 Tryz.underlying26 (fun k e=>by cases e) QW qhn UO (by rfl) (by decide) (by rfl) (V8 (xs:=[t].map QJ) eb_8q3 (Xj (l:=[t])) (by rfl) (Ug _) (.exact 1) (KJ _)) (by rfl) (hres.mono (by assumption)) (by simp only[Jo,KX,J8];omega) (by simp only[Jo,KX,J8];omega) fun rr h8 p1 p2=>?_;have hrl:=p2.live;try simp+decide only[qa,ev,putD,VM,VO,VN,Ka,true_and,↓qd,qb]
   apply hK;clear hK K;refine qN ?_;refine QS (qR (Qa)) ?_;simp+decide only[VO,if_true,Ql];exact⟨h8,Vl _,by rw[hx];exact p2,hs_g8q3.trans p1⟩
theorem qnz(wz:World)(rs:List RepC)(hr:∀x∈rs,x.old≠[])(hrl:rs.length<=1000000):∀(n:Nat) (h:AHeap) (v rv:AVal) (l:List TokC),l.length=n->l.length<=1000000->(WB rs l).length<=1000000000->IsL wz h 5 v (l.map QJ)->IsReps wz h rv rs->
 ACall Tryz.prog wz 17 [v,rv] h (fun r h'=>IsL wz h' 5 r ((WB rs l).map QJ)/\Sub h h'):=fun n=>
 Jv n fun n ih h v rv l hn hl hR hv hrv=>qoP wz n rs hr hrl (fun h v rv l' h1 h2 h3 h4 h5=>ih _ h1 h v rv l' rfl h2 h3 h4 h5) h v rv l hn hl hR hv hrv
end Go.Proofs.YtlhhaagmakhilaaGreatDoor
namespace Go.Proofs.YtlhhaagmakhilaaGreatDoor
open Go.AM
open Go.Proofs
open Go.Col (Str FaultC okF sp)
open Go.Tok
open Go.Cop
open Go.RowKit (Below)
set_option maxRecDepth 100000
end Go.Proofs.YtlhhaagmakhilaaGreatDoor
namespace Go.Proofs.YtlhhaagmakhilaaGreatDoor
open Go.AM
open Go.Proofs
open Go.Col (Str FaultC okF sp)
open Go.Tok
open Go.Cop
open Go.RowKit (Below)
set_option maxRecDepth 100000
end Go.Proofs.YtlhhaagmakhilaaGreatDoor
namespace Go.Proofs.YtlhhaagmakhilaaGreatDoor
open Go.AM
open Go.Proofs
open Go.Col (Str FaultC okF sp)
open Go.Tok
open Go.Cop
open Go.RowKit (Below)
set_option maxRecDepth 100000
end Go.Proofs.YtlhhaagmakhilaaGreatDoor
namespace Go.Proofs.YtlhhaagmakhilaaGreatDoor
open Go.AM
open Go.Proofs
open Go.Col (Str FaultC okF sp)
open Go.Tok
open Go.Cop
open Go.RowKit (Below)
set_option maxRecDepth 100000
end Go.Proofs.YtlhhaagmakhilaaGreatDoor
namespace Go.Proofs.YtlhhaagmakhilaaGreatDoor
open Go.AM
open Go.Proofs
open Go.Col (Str FaultC okF sp)
open Go.Tok
open Go.Cop
open Go.RowKit (Below)
set_option maxRecDepth 100000
end Go.Proofs.YtlhhaagmakhilaaGreatDoor
namespace Go.Proofs.YtlhhaagmakhilaaGreatDoor
open Go.AM
open Go.Proofs
open Go.Col (Str FaultC okF sp)
open Go.Tok
open Go.Cop
open Go.RowKit (Below)
set_option maxRecDepth 100000
end Go.Proofs.YtlhhaagmakhilaaGreatDoor
namespace Go.Proofs.YtlhhaagmakhilaaGreatDoor
open Go.AM
open Go.Proofs
open Go.Col (Str FaultC okF sp)
open Go.Tok
open Go.Cop
open Go.RowKit (Below)
set_option maxRecDepth 100000
end Go.Proofs.YtlhhaagmakhilaaGreatDoor
namespace Go.Proofs.YtlhhaagmakhilaaGreatDoor
open Go.AM
open Go.Proofs
open Go.Col (Str FaultC okF sp)
open Go.Tok
open Go.Cop
open Go.RowKit (Below)
set_option maxRecDepth 100000
end Go.Proofs.YtlhhaagmakhilaaGreatDoor
namespace Go.Proofs.YtlhhaagmakhilaaGreatDoor
open Go.AM
open Go.Proofs
open Go.Col (Str FaultC okF sp)
open Go.Tok
open Go.Cop
open Go.RowKit (Below)
set_option maxRecDepth 100000
end Go.Proofs.YtlhhaagmakhilaaGreatDoor
namespace Go.Proofs.YtlhhaagmakhilaaGreatDoor
open Go.AM
open Go.Proofs
open Go.Col (Str FaultC okF sp)
open Go.Tok
open Go.Cop
open Go.RowKit (Below)
set_option maxRecDepth 100000
end Go.Proofs.YtlhhaagmakhilaaGreatDoor
namespace Go.Proofs.YtlhhaagmakhilaaGreatDoor
open Go.AM
open Go.Proofs
open Go.Col (Str FaultC okF sp)
open Go.Tok
open Go.Cop
open Go.RowKit (Below)
set_option maxRecDepth 100000
end Go.Proofs.YtlhhaagmakhilaaGreatDoor
namespace Go.Proofs.YtlhhaagmakhilaaGreatDoor
open Go.AM
open Go.Proofs
open Go.Col (Str FaultC okF sp)
open Go.Tok
open Go.Cop
open Go.RowKit (Below)
set_option maxRecDepth 100000
theorem capL_cap{wz:World}{h:AHeap}{es:Nat}{v:AVal}{xs:List (List AVal)}(hv:IsL wz h es v xs)(hc:Yd v=v){P:Program}{t e:TypeId}(ht:P.underlying t=some (.slice e)):qkf P t v=⟨True, .int .i64 xs.length⟩:=by
 cases hv with
 |nil=>exact pCap_nil ht
 |mk l o n c xs hn hw hcs hl hcap=>
  have:c= .exact n:=by
   simp only[Yd,AVal.slice.injEq,true_and]at hc;exact hc.symm
  subst this;rw[qon ht,hn]
end Go.Proofs.YtlhhaagmakhilaaGreatDoor
