/-
  Texts of this proof, joined: CqM, CqN, CqO, CqP, CqQ, CqR, TkU, CsA, CsB, BmB, CsC, CtA, CtB, BmG, CtC, CtD, CtE, CtL, CtF.
  Conditions: none.
-/
import Derived.Test.YtlhhaagmakhilaaGreatDoorUd
import Derived.Test.YtlhhaagmakhilaaGreatDoorUb
set_option linter.unusedSimpArgs false
set_option linter.unnecessarySimpa false
set_option linter.unusedVariables false
open List renaming length_append->Jb,length_singleton->JR,length_map->Jo,getD_cons_zero->VX,getD_cons_succ->Km,set_cons_zero->VW,map_cons->Kc,map_nil->Vj,set_cons_succ->Ki,length_cons->KX,length_nil->J8,mem_map->JG,contains_iff_mem->JW,map_append->Ba,take_succ_cons->Kh,take_zero->V6,map_eq_nil_iff->VU,any_eq_true->JX,length_drop->K5,drop_succ_cons->VB,drop_zero->KP,cons_append->Kg,mem_cons->KW,eq_nil_of_length_eq_zero->Ke,take_add_one->VJ,getElem?_eq_getElem->Jz,getD->Kn,getElem_mem->VH,length_range->Er,length_replicate->Es,length_take->K4,length_set->Et,length_reverse->V4,not_mem_nil->Bj,all_eq_true->JC,append_nil->Be,take_of_length_le->Jq,getElem?_append_right->VA,getElem?_drop->Ko,ext_getElem?->KY,getElem?_set->K3,getElem?_append_left->Ew,getElem?_take->KZ,getElem?_mapIdx->Ec,flatten_cons->Vx,length->BP,range->KO,mem_range->JD,getElem_of_mem->BM,drop_drop->BN,getElem?_eq_some_iff->JA,mem_of_getElem?->JZ,filterMap_cons->VI,filterMap_nil->Ee,getElem?_cons_zero->Ky,getElem?_cons_succ->KL,take_nil->Ez,drop_nil->EA,mem_append->JI,mem_singleton->BD,getElem?_map->Eb,length_mapIdx->EB,getElem_set_self->EC,getElem_set_ne->ED,pairwise_iff_getElem->EE,map_set->EF
open Go.Proofs.YtlhhaagmakhilaaGreatDoor.ACall renaming down->Eo
open Nat renaming le_of_ble_eq_true->VL,zero_add->Jr,zero_le->Js,lt_or_ge->KT,le_refl->KJ,le_trans->V5,add_zero->K6,mul_one->BI,min_eq_left->Eu,sub_self->Ev,mul_div_cancel->Vn,lt_of_not_le->JO,eq_or_lt_of_le->JB,le_of_not_lt->Kr
open Go.AM.AHeap renaming set_none->V7,ne_some->Bh,set_set->Vh,set_same->Vd,set_ne->Vb,del->Vk,set->Bd
open Go.AM.Sub renaming none->Bg,refl->Vl,set_both->V9,trans_set->V3,set->Vg,buf->BH,trans->BJ
open Go.AM.Slots renaming put->VM,keep->VN,get->VO
open Go.AM.AVal renaming cells->VV,okIn->Bb
open Bool renaming and_true->JS,true_and->Vf,or_eq_true->JV,or_eq_false_iff->VQ,and_eq_true->Kw,not_eq_true'->Ji,and_eq_false_iff->VP,not_eq_false'->VS,false_and->VZ
open Go.AM.Awp renaming forget->BG
open Int renaming toNat_natCast->Vq,tmod->Ex,tmod_eq_emod_of_nonneg->Ey
open Go.Proofs.YtlhhaagmakhilaaGreatDoor.Sub renaming bufBoth->Ep
open Go.AM.IsL renaming buf->BF,own->V8
open Option renaming isSome_some->JJ,map_some->KH
open Array renaming getD->JE,replicate->Jw
open Go.AM.PMap renaming le_trans->J6
open UInt8 renaming toNat->Ea,ofNat->KC,toNat_inj->BL
namespace Go.Proofs.YtlhhaagmakhilaaGreatDoor
open Go.AM
open Go.Proofs
open Go.Col (Str FaultC okF)
open Go.Tok
open Go.Cop
open Go.RowKit (Below)
set_option maxRecDepth 100000
theorem qfh(ns:List Str)(s:Str):(Cop.addE ns s).length<=ns.length+1:=by
 unfold Cop.addE;split
 ·omega
 ·rw[Jb,JR];omega
def RecOk(wz:World)(kx km:Nat)(mv:AVal)(mems:List MemC)(op:List Str)(rec:List TokC->List Str->Xs->Xr):Prop:=
 op.length<=8->∀(h B:AHeap) (v:AVal) (l:List TokC) (st:Xs),ExpR B kx km mv op st h->IsMems wz B mv mems->IsL wz B 5 v (l.map QM)->l.length<=100000->st.names.length<=st.copies->st.copies<=4096->
  ACall Tryz.prog wz 32 [.ptr (.own kx) 0,v] h (ListR wz B kx km mv op (rec l op st))
set_option maxHeartbeats 4000000 in
theorem c_member(wz:World)(h B:AHeap)(kx km:Nat)(mv:AVal)(mems:List MemC)(op:List Str)(st:Xs)(s:Stm)(rv:AVal)(rec:List TokC->List Str->Xs->Xr)(hx:ExpR B kx km mv op st h)(hms:IsMems wz B mv mems)(hml:mems.length<=1000000)(hmt:∀m∈mems,m.toks.length<=100000)
 (hrp:IsReps wz B rv s.reps) (hrn:∀x∈s.reps,x.new.length<=1000000) (hrl:s.reps.length<=1000000) (hro:∀x∈s.reps,x.old≠[]) (hst:st.names.length<=st.copies) (hst2:st.copies<=4096) (hop8:op.length<=8)
 (hrec:op.length<8->RecOk wz kx km mv mems (op++[s.name.text]) rec):
 ACall Tryz.prog wz 47 [.ptr (.own kx) 0, .agg (qkP s.name rv)] h (ListR wz B kx km mv op (qaA true mems op rec s st)):=by
 obtain⟨hfew,c,es,nb,he,hes,hsh⟩:=hx;obtain⟨qs,hqs,hq2,hq3⟩:=hms;have hmvs:=hq2.scal;have hmvl:=ZU hmvs;have hmvc:=hq2.cells;have hrvs:rv.scal=true:=by obtain⟨zs,-,z2,-⟩:=hrp;exact z2.scal
 have hrvl:=ZU hrvs;have hql:∀q∈qs,q.2.live=true:=fun q hq=>(hq3 q hq).live;have hqn:qs.length=mems.length:=by rw[hqs,Jo]
 refine Eo hsh ?_;obtain⟨nm,hnm⟩:∃nm,nm=s.name.text:=⟨_,rfl⟩
 have hsc:qkP s.name rv=[.int .u8 s.name.kind.toNat, .str nm, .int .i64 s.name.line, .int .i64 s.name.col, .bool s.name.left,rv]:=by rw[hnm];rfl
 obtain⟨X,hX⟩:∃X,X=qaA true mems op rec s st:=⟨_,rfl⟩
 rw[<-hX];unfold qaA at hX;rw[<-hnm]at hX hrec;have hes':es.length=op.length:=by rw[<-hes,Jo]
 obtain⟨H,hH⟩:∃H,H=Ya B kx km mv c es nb st.copies:=⟨_,rfl⟩
 have hs_H:Sub B H:=by rw[hH];exact he.above
 have eb_x:H kx=some ⟨[mv, .map km,QH 1 nb, .int .i64 st.copies],0⟩:=by rw[hH];exact he.x
 have eb_m:H km=some (XO c (es.map opC)):=by rw[hH];exact he.m
 have hbl:=QW 1 nb;have ne_x_m:kx≠km:=he.ne.symm;rw[<-hH];unfold qkP;rw[<-hnm];refine acall_put (k:=119) (rs:=[.tmp 4, .cell 5 35]) Tryz.func47 rfl rfl rfl rfl (VL rfl) ?_;simp only[Qe];refine awp_rseq [0,3,5] (by rfl) fun K hK=>?_;refine WN (v:= .agg [.int .u8 s.name.kind.toNat, .str nm, .int .i64 s.name.line, .int .i64 s.name.col, .bool s.name.left,rv]) (cs:=[.int .u8 s.name.kind.toNat, .str nm, .int .i64 s.name.line, .int .i64 s.name.col, .bool s.name.left,rv]) (by rfl) (by simp+decide only[lv_agg]) (by rfl) fun k0q0 hk0q0=>?_;have hn_0q0:H k0q0=none:=by first|assumption|(simp only[V7]at hk0q0;simp only[hk0q0])
 have hf_0q0:B k0q0=none:=Bg hs_H hn_0q0;have ne_0q0_x:k0q0≠kx:=Bh hn_0q0 eb_x;have ne_0q0_m:k0q0≠km:=Bh hn_0q0 eb_m;simp+decide only[ev,qI,qG,putD,VM,if_false,true_and,↓qd,qb,Jr];refine Qi qap (cs:=[.int .i64 0, .int .i64 0, .int .i64 0]) (by rfl) fun k0q2 hk0q2=>?_;have ne_0q2_0q0:k0q2≠k0q0:=by simp only[V7]at hk0q2;simp only[hk0q2,ne_eq,not_false_eq_true]
 have hn_0q2:H k0q2=none:=by first|assumption|(simp only[V7]at hk0q2;simp only[hk0q2])
 have hf_0q2:B k0q2=none:=Bg hs_H hn_0q2;have ne_0q2_x:k0q2≠kx:=Bh hn_0q2 eb_x;have ne_0q2_m:k0q2≠km:=Bh hn_0q2 eb_m;simp+decide only[qa,putD,VM,VN,Ka];apply hK;clear hK K;refine awp_rseq [0,3,5,6] (by rfl) fun K hK=>?_;simp+decide only[ev,putD,VM,VO,Ka,true_and,↓qB,qm,qmE,Ur,↓qF,qY,qz ag9,QZ,ne_eq,not_false_eq_true,ne_0q2_0q0.symm,QN,VX,Km,Jr,qE];refine Qi ze9 (cs:=[.str []]) (by rfl) fun k1q3 hk1q3=>?_;have ne_1q3_0q0:k1q3≠k0q0:=by simp only[V7]at hk1q3;simp only[hk1q3,ne_eq,not_false_eq_true]
 have ne_1q3_0q2:k1q3≠k0q2:=by simp only[V7]at hk1q3;simp only[hk1q3,ne_eq,not_false_eq_true]
 have hn_1q3:H k1q3=none:=by first|assumption|(simp only[V7]at hk1q3;simp only[hk1q3])
 have hf_1q3:B k1q3=none:=Bg hs_H hn_1q3;have ne_1q3_x:k1q3≠kx:=Bh hn_1q3 eb_x;have ne_1q3_m:k1q3≠km:=Bh hn_1q3 eb_m;refine qp (by rfl) (by rfl) zqA sz9 (by rfl) (by rfl) zqD (Js _) (by first|rfl|(simp+decide only[ev,putD,VM,VO,Ka,VV,Qr,JS,Vf,hmvs,hrvs,XA,XB,Xh])) ?_;simp only[Vh,VV];simp+decide only[qa,ev,putD,VM,VO,VN,Ka,setAt,VW];apply hK;clear hK K;refine awp_rseq [0,3,5,6,7] (by rfl) fun K hK=>?_;simp+decide only[qa,ev,putD,VM,VO,VN,Ka,true_and,↓qfe,qdN,evs,Kc,Vj,↓qd,qb];apply hK;clear hK K;refine awp_rseq [0,3,5,6,7,8] (by rfl) fun K hK=>?_;simp+decide only[ev,putD,VM,VO,Ka,true_and,↓qg,qc,↓Ql,qV,Qt,↓qB,qm,fa76_0,↓qF,qY,qz ag28,↓qfe,qdN,evs,Kc,Vj,QZ,ne_eq,not_false_eq_true,ne_0q0_x.symm,ne_0q2_x.symm,ne_1q3_x.symm,QC wz eb_x,VX,Jr,hmvl];refine qM (V:= .int .i64 (qaU (fun q:MemQ=>decide (q.1.name=nm)) qs)) (by rfl) (by rfl) (c_indexM wz _ mv qs _ [.ptr (.own k1q3) 0] (fun q=>decide (q.1.name=nm)) (hq2.mono zqB) hql (by omega) (by rfl) (fun q hq=>c_mem2 wz _ q (hql q hq) (hq3 q hq).cells k1q3 nm zqA)) ?_;simp+decide only[qa,ev,putD,VM,VO,VN,Ka,true_and,↓qd,qb];apply hK;clear hK K;refine awp_rseq [0,3,5,6,7,8] (by rfl) fun K hK=>?_;simp+decide only[ev,qI,qG,putD,VM,VO,Ka,true_and,↓qg,qc,↓Ql,qV,Qt,↓qB,qm,fa76_3,↓qF,qY,qz ag3,↓qw,ql,qy,cond_false,qo,QS,QZ,ne_eq,not_false_eq_true,ne_0q0_x.symm,ne_0q2_x.symm,ne_1q3_x.symm,QC wz eb_x,VX,Km,Jr,qi];try simp(disch:=omega)only[wrap_i64]
 refine qp (by rfl) (by rfl) zqA sz3 (by rfl) (by rfl) zqD (Js _) (by first|rfl|(simp+decide only[ev,putD,VM,VO,Ka,VV,Qr,JS,Vf,hmvs,hrvs,XA,XB,Xh])) ?_;simp only[VV];simp+decide only[qa,ev,putD,VO,VN,Ka,setAt,VW,Ki];apply hK;clear hK K;refine qJ ?_;refine Qj ?_;obtain⟨H5,hH5⟩:∃H5,H5=(((H.set k0q0 ⟨[.int .u8 s.name.kind.toNat, .str nm, .int .i64 s.name.line, .int .i64 s.name.col, .bool s.name.left,rv],0⟩).set k0q2 ⟨[.int .i64 0, .int .i64 0, .int .i64 0],0⟩).set k1q3 ⟨[.str nm],0⟩).set kx ⟨[mv, .map km,QH 1 nb, .int .i64 ((st.copies+1:Nat):Int)],0⟩:=⟨_,rfl⟩
 refine BG (h':=H5) (by rw[hH5];exact Vl _) ?_;have hs_H5:Sub B H5:=by rw[hH5];exact ZK zqB he.bx _
 have eb_x:H5 kx=some ⟨[mv, .map km,QH 1 nb, .int .i64 ((st.copies+1:Nat):Int)],0⟩:=by rw[hH5];exact Vd _ _ _
 have eb_m:H5 km=some (XO c (es.map opC)):=by rw[hH5];exact zqA
 have eb_0q0:H5 k0q0=some ⟨[.int .u8 s.name.kind.toNat, .str nm, .int .i64 s.name.line, .int .i64 s.name.col, .bool s.name.left,rv],0⟩:=by rw[hH5];exact zqA
 have eb_0q2:H5 k0q2=some ⟨[.int .i64 0, .int .i64 0, .int .i64 0],0⟩:=by rw[hH5];exact zqA
 have eb_1q3:H5 k1q3=some ⟨[.str nm],0⟩:=by rw[hH5];exact zqA
 have hE5:Sub (Ya B kx km mv c es nb (st.copies+1)) H5:=by
  rw[hH5,<-he.set_x (st.copies+1),<-hH];exact V9 (V3 (V3 (Vg hn_0q0) hn_0q2) hn_1q3) _ _
 have hz5:Ya B kx km mv c es nb (st.copies+1) k0q2=none:=by
  rw[<-he.set_x (cp:=st.copies) (st.copies+1),<-hH];exact(Vb _ _ ne_0q2_x).trans hn_0q2
 have hlk:=look_op (s:=nm) eb_m;rw[hes]at hlk;have hlo:=len_op eb_m;rw[hes']at hlo;refine awp_rseq [0,3,5,6,7,8,30] (by rfl) fun K hK=>?_;simp+decide only[qa,ev,qI,qG,putD,VM,VO,VN,Ka,true_and,↓qg,qc,↓qw,ql,qy,cond_false,qo,XD,↓qd,qb];apply hK;clear hK K;refine qH (b:=_) rfl (fun hb1=>?_) (fun hb1=>?_)
 ·try simp only[decide_eq_true_eq]at hb1
  have hnone:mems.find? (fun m=>decide (m.name=nm))=none:=by
   rcases qlH hqs nm with z|⟨i,zi,z1,z2⟩
   ·exact z.2
   ·omega
  rw[hnone]at hX;simp only at hX;refine awp_rseq [4,5] (by rfl) fun K hK=>?_;simp+decide only[ev,putD,VM,VO,Ka,true_and,↓qg,qc];refine qM (V:= .tuple [.nilSlice,Qu ⟨7,s.name.line,s.name.col⟩]) (by rfl) (by rfl) (qki wz _ k0q0 s.name rv hrvl 7 (by rw[hsc];exact zqA)) ?_;simp+decide only[ev,putD,VM,VO,Ka,true_and,↓QV,QJ,QU,KX,J8,VX,Km,↓qd,qb,VX,Km,Jr,Nat.reduceAdd,Qu];refine qp (by rfl) (by rfl) zqA QI (by rfl) (by rfl) zqD (Js _) (by first|rfl|(simp+decide only[ev,putD,VM,VO,Ka,VV,Qr,JS,Vf,hmvs,hrvs,XA,XB,Xh])) ?_;simp only[VV];simp+decide only[qa,ev,putD,VO,VN,Ka,setAt,VW,Ki,Jr,Nat.reduceAdd];apply hK;clear hK K;refine qL ?_;try simp only[Qg,Qn]
  refine QF (?_) ?_
  ·simp+decide only[QD,qA,qj,VO,Ka,and_true,qA,qj,qh Xo QI,Qa,qf,VX,Km,Jr,Nat.reduceAdd,qi,allLive,JS,qf,VX,Km,Jr,Nat.reduceAdd,qi,allLive,JS]
  simp+decide only[VO,Ka,Xg,qA,qj,qh Xo QI,Qa,qf,VX,Km,Jr,Nat.reduceAdd,qi,allLive,JS,qf,VX,Km,Jr,Nat.reduceAdd,qi,allLive,JS];exact⟨_,Vl _,none,⟨st.names,st.copies+1⟩, .nilSlice,⟨7,s.name.line,s.name.col⟩,trivial,⟨hfew,c,es,nb,he,hes,V3 hE5 hz5⟩,rfl, .inl ⟨fun e=>absurd (congrArg FaultC.e e) (by simp[okF]),hX,rfl⟩⟩
 ·try simp only[decide_eq_false_iff_not]at hb1
  obtain⟨i,zi,z1,z2⟩:∃i,i<qs.length/\qaU (fun q:MemQ=>decide (q.1.name=nm)) qs=i/\mems.find? (fun m=>decide (m.name=nm))=some (qs.getD i qgo).1:=by
   rcases qlH hqs nm with z|z
   ·omega
   ·exact z
  rw[z1];rw[z2]at hX;simp only at hX;obtain⟨q,hqe⟩:∃q,q=qs.getD i qgo:=⟨_,rfl⟩
  have hqm:q∈qs:=by rw[hqe];exact Uk qgo zi
  rw[<-hqe]at hX;have hqt:q.1.toks.length<=100000:=hmt _ (by rw[hqs];exact JG.2 ⟨q,hqm,rfl⟩);refine Zw [0,3,5,6,7,8,37] mixed (by kernel_rfl) (by rfl) (by rfl) fun K hK=>?_;simp+decide only[qa,ev,putD,VM,VO,VN,Ka,true_and,↓qg,qc,↓Ql,qV,Qt,↓qB,qm,qmF,↓qF,qY,qz ag74,qz ag9,↓ap_lookup,qpl,↓qd,qb,QC wz eb_x,QC wz eb_1q3,qmu,VX,Km,Jr,qE,hlk];apply hK;clear hK K;refine qH (b:=_) rfl (fun hb2=>?_) (fun hb2=>?_)
  ·skip
   rw[if_pos hb2]at hX;refine awp_rseq [4,5] (by rfl) fun K hK=>?_;simp+decide only[ev,putD,VM,VO,Ka,true_and,↓qg,qc];refine qM (V:= .tuple [.nilSlice,Qu ⟨10,s.name.line,s.name.col⟩]) (by rfl) (by rfl) (qki wz _ k0q0 s.name rv hrvl 10 (by rw[hsc];exact zqA)) ?_;simp+decide only[ev,putD,VM,VO,Ka,true_and,↓QV,QJ,QU,KX,J8,VX,Km,↓qd,qb,VX,Km,Jr,Nat.reduceAdd,Qu];refine qp (by rfl) (by rfl) zqA QI (by rfl) (by rfl) zqD (Js _) (by first|rfl|(simp+decide only[ev,putD,VM,VO,Ka,VV,Qr,JS,Vf,hmvs,hrvs,XA,XB,Xh])) ?_;simp only[VV];simp+decide only[qa,ev,putD,VO,VN,Ka,setAt,VW,Ki,Jr,Nat.reduceAdd];apply hK;clear hK K;refine qL ?_;try simp only[Qg,Qn]
   refine QF (?_) ?_
   ·simp+decide only[QD,qA,qj,VO,Ka,and_true,qA,qj,qh Xo QI,Qa,qf,VX,Km,Jr,Nat.reduceAdd,qi,allLive,JS,qf,VX,Km,Jr,Nat.reduceAdd,qi,allLive,JS]
   simp+decide only[VO,Ka,Xg,qA,qj,qh Xo QI,Qa,qf,VX,Km,Jr,Nat.reduceAdd,qi,allLive,JS,qf,VX,Km,Jr,Nat.reduceAdd,qi,allLive,JS];exact⟨_,Vl _,none,⟨st.names,st.copies+1⟩, .nilSlice,⟨10,s.name.line,s.name.col⟩,trivial,⟨hfew,c,es,nb,he,hes,V3 hE5 hz5⟩,rfl, .inl ⟨fun e=>absurd (congrArg FaultC.e e) (by simp[okF]),hX,rfl⟩⟩
  ·skip
   rw[if_neg (by rw[hb2];decide)]at hX;refine awp_rseq [0,3,5,6,7,8,48] (by rfl) fun K hK=>?_;simp+decide only[qa,ev,qI,qG,putD,VM,VO,VN,Ka,true_and,↓qg,qc,↓Ql,qV,Qt,↓qB,qm,qmF,↓qF,qY,qz ag74,↓Xc,Qv,↓qw,ql,qy,cond_false,qo,Ub,↓Xe,agP,Qw,qO,qK,Qh,implies_true,↓Yi,qbr,qbs,↓Xl,fa76_3,Zn,Zo,↓Zg,XN,YT,qcK,qz ag3,↓Xd,Zi,Zj,qah,↓Xa,Qy,Qk,Zm,ZC,↓qd,qb,QC wz eb_x,qmu,VX,Km,Jr,qi,hlo];apply hK;clear hK K;refine qH (b:=_) rfl (fun hb3=>?_) (fun hb3=>?_)
   ·try simp only[decide_eq_true_eq,JV]at hb3
    rw[if_pos (by
     rcases hb3 with z|z
     ·left;omega
     ·right;exact⟨trivial,by omega⟩)]at hX
    refine awp_rseq [4,5] (by rfl) fun K hK=>?_;simp+decide only[ev,putD,VM,VO,Ka,true_and,↓qg,qc];refine qM (V:= .tuple [.nilSlice,Qu ⟨3,s.name.line,s.name.col⟩]) (by rfl) (by rfl) (qki wz _ k0q0 s.name rv hrvl 3 (by rw[hsc];exact zqA)) ?_;simp+decide only[ev,putD,VM,VO,Ka,true_and,↓QV,QJ,QU,KX,J8,VX,Km,↓qd,qb,VX,Km,Jr,Nat.reduceAdd,Qu];refine qp (by rfl) (by rfl) zqA QI (by rfl) (by rfl) zqD (Js _) (by first|rfl|(simp+decide only[ev,putD,VM,VO,Ka,VV,Qr,JS,Vf,hmvs,hrvs,XA,XB,Xh])) ?_;simp only[VV];simp+decide only[qa,ev,putD,VO,VN,Ka,setAt,VW,Ki,Jr,Nat.reduceAdd];apply hK;clear hK K;refine qL ?_;try simp only[Qg,Qn]
    refine QF (?_) ?_
    ·simp+decide only[QD,qA,qj,VO,Ka,and_true,qA,qj,qh Xo QI,Qa,qf,VX,Km,Jr,Nat.reduceAdd,qi,allLive,JS,qf,VX,Km,Jr,Nat.reduceAdd,qi,allLive,JS]
    simp+decide only[VO,Ka,Xg,qA,qj,qh Xo QI,Qa,qf,VX,Km,Jr,Nat.reduceAdd,qi,allLive,JS,qf,VX,Km,Jr,Nat.reduceAdd,qi,allLive,JS];exact⟨_,Vl _,none,⟨st.names,st.copies+1⟩, .nilSlice,⟨3,s.name.line,s.name.col⟩,trivial,⟨hfew,c,es,nb,he,hes,V3 hE5 hz5⟩,rfl, .inl ⟨fun e=>absurd (congrArg FaultC.e e) (by simp[okF]),hX,rfl⟩⟩
   ·try simp only[decide_eq_false_iff_not,VQ]at hb3
    rw[if_neg (by
     rintro(z|⟨-,z⟩)
     ·omega
     ·omega)]at hX
    have hlt8:op.length<8:=by omega
    have hcp:st.copies+1<=4096:=by omega
    have hnot:nm∉es.map (·.2):=by rw[hes];intro z;rw[JW.2 z]at hb2;cases hb2
    refine qN ?_;change Awp _ _ _ _ _ _ _;obtain⟨B1,hB1⟩:∃B1,B1=((B.set k0q0 ⟨[.int .u8 s.name.kind.toNat, .str nm, .int .i64 s.name.line, .int .i64 s.name.col, .bool s.name.left,rv],0⟩).set k0q2 ⟨[.int .i64 0, .int .i64 0, .int .i64 0],0⟩).set k1q3 ⟨[.str nm],0⟩:=⟨_,rfl⟩
    obtain⟨y1,y2⟩:=he.lay (mv:=mv) (c:=c) (es:=es) (cp:=st.copies) (j:=k0q0) (by rw[<-hH];exact hn_0q0) ⟨[.int .u8 s.name.kind.toNat, .str nm, .int .i64 s.name.line, .int .i64 s.name.col, .bool s.name.left,rv],0⟩;obtain⟨y3,y4⟩:=y2.lay (mv:=mv) (c:=c) (es:=es) (cp:=st.copies) (j:=k0q2) (by rw[<-y1,<-hH];exact(Vb _ _ ne_0q2_0q0).trans hn_0q2) ⟨[.int .i64 0, .int .i64 0, .int .i64 0],0⟩;obtain⟨y5,y6⟩:=y4.lay (mv:=mv) (c:=c) (es:=es) (cp:=st.copies) (j:=k1q3) (by rw[<-y3,<-y1,<-hH];exact(Vb _ _ ne_1q3_0q2).trans ((Vb _ _ ne_1q3_0q0).trans hn_1q3)) ⟨[.str nm],0⟩;rw[<-hB1]at y5 y6;have h5:H5=Ya B1 kx km mv c es nb (st.copies+1):=by rw[hH5,hH,y1,y3,y5,y6.set_x]
    have hsB1:Sub B B1:=by rw[hB1];exact zqB
    have b1_0:B1 k0q0=some ⟨[.int .u8 s.name.kind.toNat, .str nm, .int .i64 s.name.line, .int .i64 s.name.col, .bool s.name.left,rv],0⟩:=by rw[hB1];exact zqA
    have b1_2:B1 k0q2=some ⟨[.int .i64 0, .int .i64 0, .int .i64 0],0⟩:=by rw[hB1];exact zqA
    have b1_n:B1 k1q3=some ⟨[.str nm],0⟩:=by rw[hB1];exact zqA
    have hcu:ACall Tryz.prog wz 44 [.ptr (.own kx) 0, .str nm] H5 (fun r h'=>r= .tuple []/\∃nb',UseOk (B1.set km (XO c (es.map opC))) kx nb' (Cop.addE st.names nm)/\h'=qat (B1.set km (XO c (es.map opC))) kx mv (.map km) nb' ((st.copies+1:Nat):Int)):=by
     rw[h5];exact c_use wz _ kx mv (.map km) nb _ st.names nm (y6.use _) (by omega) hmvs rfl
    refine awp_rseq [0,3,5,6,7,8] (by rfl) fun K hK=>?_;simp+decide only[ev,putD,VM,VO,Ka,true_and,↓qg,qc,↓qF,qY,qz ag9,QC wz eb_1q3,VX,qE];refine QR (by rfl) (by rfl) (hcu) fun x11q2 h11q2 hx11q2=>?_;obtain⟨-,nb2,hu2,hh11⟩:=hx11q2;have he2:ExOk B1 kx km nb2 (Cop.addE st.names nm):=⟨y6.bm,y6.bx,y6.ne,fun M=>hu2.swap y6.ne M⟩
    have hh:h11q2=Ya B1 kx km mv c es nb2 (st.copies+1):=hh11;have hs_h11q2:Sub B h11q2:=by rw[hh];exact hsB1.trans he2.above
    have eb_x:h11q2 kx=some ⟨[mv, .map km,QH 1 nb2, .int .i64 ((st.copies+1:Nat):Int)],0⟩:=by rw[hh];exact he2.x
    have eb_m:h11q2 km=some (XO c (es.map opC)):=by rw[hh];exact he2.m
    have eb_0q0:h11q2 k0q0=some ⟨[.int .u8 s.name.kind.toNat, .str nm, .int .i64 s.name.line, .int .i64 s.name.col, .bool s.name.left,rv],0⟩:=by rw[hh];exact he2.above _ _ b1_0
    have eb_0q2:h11q2 k0q2=some ⟨[.int .i64 0, .int .i64 0, .int .i64 0],0⟩:=by rw[hh];exact he2.above _ _ b1_2
    have eb_1q3:h11q2 k1q3=some ⟨[.str nm],0⟩:=by rw[hh];exact he2.above _ _ b1_n
    have hbl:=QW 1 nb2;simp+decide only[qa,putD,VM,VN,Ka];apply hK;clear hK K;refine Zr 5 [0,3,5,6,7,8] mixed (by kernel_rfl) (by rfl) (by rfl) fun K hK=>?_;simp+decide only[ev,putD,VM,VO,Ka,true_and,↓qg,qc,↓Ql,qV,Qt,↓qB,qm,qmF,↓qF,qY,qz ag74,qz ag9,QC wz eb_x,QC wz eb_1q3,qmu,VX,Km,Jr,qE];refine qoS Tryz.underlying74 (by rfl) eb_m (by rfl) (qjN _ es 0 hnot) ?_;simp+decide only[qa,ev,qI,qG,putD,VO,VN,Ka];apply hK;clear hK K;obtain⟨H13,hH13⟩:∃H13,H13=Ya B1 kx km mv (c+1) (es++[(c,nm)]) nb2 (st.copies+1):=⟨_,rfl⟩
    refine BG (h':=H13) (by rw[hH13,<-he2.set_m (c:=c) (es:=es),<-hh,Ba];exact Vl _) ?_;have hs_H13:Sub B H13:=by rw[hH13];exact hsB1.trans he2.above
    have eb_x:H13 kx=some ⟨[mv, .map km,QH 1 nb2, .int .i64 ((st.copies+1:Nat):Int)],0⟩:=by rw[hH13];exact he2.x
    have eb_m:H13 km=some (XO (c+1) ((es++[(c,nm)]).map opC)):=by rw[hH13];exact he2.m
    have eb_0q0:H13 k0q0=some ⟨[.int .u8 s.name.kind.toNat, .str nm, .int .i64 s.name.line, .int .i64 s.name.col, .bool s.name.left,rv],0⟩:=by rw[hH13];exact he2.above _ _ b1_0
    have eb_0q2:H13 k0q2=some ⟨[.int .i64 0, .int .i64 0, .int .i64 0],0⟩:=by rw[hH13];exact he2.above _ _ b1_2
    have eb_1q3:H13 k1q3=some ⟨[.str nm],0⟩:=by rw[hH13];exact he2.above _ _ b1_n
    obtain⟨lcm,om,cm,rfl⟩:=qjM hq2 (by omega);obtain⟨-,d1⟩:=qpt (hq2.mono hs_H13) zi;rw[<-hqe]at d1;have hqv:=hql q hqm;have hal:=qfh st.names nm;refine qiP [0,3,5,7,8] (vm:= .map km) (vi:= .str nm) 5 (by rfl) (by rfl) rfl mixed (by kernel_rfl) (by rfl) fun K hK=>?_;simp only[Kh,V6];simp+decide only[qa,ev,putD,VM,VO,VN,Ka,true_and,↓qg,qc,↓Ql,qV,Qt,↓qB,qm,qmF,↓qF,qY,qz ag74,qz ag9,QC wz eb_x,QC wz eb_1q3,qmu,VX,Km,Jr,qE];skip;apply hK;clear hK K;intro dq;refine awp_rseq [3,5,7,9,10] (by rfl) fun K hK=>?_;simp+decide only[ev,putD,VM,VO,Ka,true_and,↓qg,qc,↓Ql,qV,Qt,↓qB,qm,fa76_0,↓qF,qY,qz ag28,↓Qp,qU Tryz.underlying28 qmd,qka,qz UU,QC wz eb_x,VX,Jr,hmvl,d1,hqv,Vq];repeat (with_reducible refine And.intro ?_ ?_;· first|trivial|omega|(intro hg;simp only[Kw,JV,Ji,VP,VQ,VS,decide_eq_true_eq,decide_eq_false_iff_not,XK]at hg;omega))
    refine QR (by rfl) (by rfl) (hrec hlt8 (by rw[Jb,JR];omega) _ B1 q.2 q.1.toks ⟨Cop.addE st.names nm,st.copies+1⟩ ⟨by(simp only;omega),c+1,es++[(c,nm)],nb2,he2,by rw[Ba,hes];rfl,by rw[<-hH13];exact zqB⟩ ⟨qs,hqs,hq2.mono hsB1,fun q hq=>(hq3 q hq).mono hsB1⟩ ((hq3 q hqm).mono hsB1) hqt (by simp only;omega) hcp) fun x14q9 h14q9 hx14q9=>?_;obtain⟨tb0,st2,bv,bf,htb0,hxr,rfl,hcase⟩:=hx14q9;obtain⟨B2,hB2⟩:∃B2,B2=QG B1 tb0:=⟨_,rfl⟩
    rw[<-hB2]at hxr;obtain⟨hfew2,c3,es3,nb3,he3,hop3,hs3⟩:=hxr;have hsB2:Sub B1 B2:=by rw[hB2];exact BH htb0
    obtain⟨es4,b4,rfl,hes4⟩:∃es4 b4,es3=es4++[(b4,nm)]/\es4.map (·.2)=op:=by
     obtain⟨l1,l2,q1,q2,q3⟩:=List.map_eq_append_iff.1 hop3;cases l2 with
     |nil=>simp at q3
     |cons a l3=>
      obtain⟨a1,a2⟩:=a;simp only[Kc,List.cons.injEq,VU]at q3;obtain⟨rfl,rfl⟩:=q3;exact⟨l1,a1,q1,q2⟩
    have hnot4:nm∉es4.map (·.2):=by rw[hes4,<-hes];exact hnot
    have hsBB2:Sub B B2:=hsB1.trans hsB2;have hs2h:Sub B2 h14q9:=he3.above.trans hs3;have hs_h14q9:Sub B h14q9:=hsBB2.trans hs2h;have eb_x:h14q9 kx=some ⟨[.slice lcm om qs.length cm, .map km,QH 1 nb3, .int .i64 st2.copies],0⟩:=hs3 _ _ he3.x;have eb_m:h14q9 km=some (XO c3 ((es4++[(b4,nm)]).map opC)):=hs3 _ _ he3.m;have eb_0q0:h14q9 k0q0=some ⟨[.int .u8 s.name.kind.toNat, .str nm, .int .i64 s.name.line, .int .i64 s.name.col, .bool s.name.left,rv],0⟩:=hs2h _ _ (hsB2 _ _ b1_0);have eb_0q2:h14q9 k0q2=some ⟨[.int .i64 0, .int .i64 0, .int .i64 0],0⟩:=hs2h _ _ (hsB2 _ _ b1_2);have eb_1q3:h14q9 k1q3=some ⟨[.str nm],0⟩:=hs2h _ _ (hsB2 _ _ b1_n);have heB3:ExOk B kx km nb3 st2.names:=he3.down hsBB2;have hE14:Sub (Ya B kx km (.slice lcm om qs.length cm) c3 (es4++[(b4,nm)]) nb3 st2.copies) h14q9:=(qdp hsBB2).trans hs3;have z0q2:Ya B kx km (.slice lcm om qs.length cm) c3 (es4++[(b4,nm)]) nb3 st2.copies k0q2=none:=he3.off (hsB2 _ _ b1_2) hf_0q2;have hbvl:bv.live=true:=by
     rcases hcase with⟨-,-,w3⟩|⟨-,out,-,w3,-⟩
     ·rw[w3];rfl
     ·exact w3.live
    simp+decide only[ev,putD,VM,VO,Ka,true_and,↓qg,qc,↓QV,QJ,QU,KX,J8,VX,Km,VX,Km,Jr,Nat.reduceAdd,Qu];refine Qi qap (cs:=[.int .i64 0, .int .i64 0, .int .i64 0]) (by rfl) fun k14q13 hk14q13=>?_;have hn_14q13:h14q9 k14q13=none:=by first|assumption|(simp only[V7]at hk14q13;simp only[hk14q13])
    have hf_14q13:B k14q13=none:=Bg hs_h14q9 hn_14q13;have ne_14q13_x:k14q13≠kx:=Bh hn_14q13 eb_x;have ne_14q13_m:k14q13≠km:=Bh hn_14q13 eb_m;have ne_14q13_0q0:k14q13≠k0q0:=Bh hn_14q13 eb_0q0;have ne_14q13_0q2:k14q13≠k0q2:=Bh hn_14q13 eb_0q2;have ne_14q13_1q3:k14q13≠k1q3:=Bh hn_14q13 eb_1q3;simp+decide only[ev,putD,VM,VO,Ka,true_and,↓qd,qb];refine qp (by rfl) (by rfl) zqA QI (by rfl) (by rfl) zqD (Js _) (by first|rfl|(simp+decide only[ev,putD,VM,VO,Ka,VV,Qr,JS,Vf,hmvs,hrvs,XA,XB,Xh])) ?_;simp only[Vh,VV];simp+decide only[qa,ev,putD,VO,VN,Ka,setAt,VW,Ki,Jr,Nat.reduceAdd];apply hK;clear hK K;refine qJ ?_;refine awp_rseq [3,5,7,9,10,94] (by rfl) fun K hK=>?_;simp+decide only[qa,ev,qI,qG,putD,VM,VO,VN,Ka,true_and,↓qF,qY,qh Xo QI,↓Qo,↓qZ,ZI,evP,Vj,↓qw,ql,qP,cond_false,ZV,qiM,QN,qf,VX,Km,Jr,Nat.reduceAdd,qi,allLive,JS,YY];apply hK;clear hK K;refine qH (b:=_) rfl (fun hb4=>?_) (fun hb4=>?_)
    ·try simp only[decide_eq_false_iff_not,Ji]at hb4
     obtain⟨w1,w2,w3⟩:bf≠okF/\rec q.1.toks (op++[nm]) ⟨Cop.addE st.names nm,st.copies+1⟩= .bad bf/\bv= .nilSlice:=by
      rcases hcase with z|⟨z,-⟩
      ·exact z
      ·exact absurd z hb4
     rw[w2]at hX;simp only at hX;refine Zr 2 [4,5] mixed (by kernel_rfl) (by rfl) (by rfl) fun K hK=>?_;simp+decide only[ev,qI,qG,putD,VM,VO,Ka,true_and,↓qF,qY,qh Xo QI,↓qd,qb,QN,qf,VX,Km,Jr,Nat.reduceAdd,qi,allLive,JS];refine qp (by rfl) (by rfl) zqA QI (by rfl) (by rfl) zqD (Js _) (by first|rfl|(simp+decide only[ev,putD,VM,VO,Ka,VV,Qr,JS,Vf,hmvs,hrvs,XA,XB,Xh])) ?_;simp only[VV];simp+decide only[qa,ev,putD,VO,VN,Ka,setAt,VW,Ki,Jr,Nat.reduceAdd];apply hK;clear hK K;refine qL ?_;try simp only[Qg]
     refine qgJ (by rfl) Tryz.underlying74 zqA (by rfl) (qch _ b4 es4 0 hnot4) ?_;refine QF (?_) ?_
     ·simp+decide only[QD,qA,qj,VO,Ka,and_true,qA,qj,qh Xo QI,Qa,qf,VX,Km,Jr,Nat.reduceAdd,qi,allLive,JS,QZ,ne_eq,not_false_eq_true,ne_0q2_m,qf,VX,Km,Jr,Nat.reduceAdd,qi,allLive,JS]
     simp+decide only[VO,Ka,Xg,qA,qj,qh Xo QI,Qa,qf,VX,Km,Jr,Nat.reduceAdd,qi,allLive,JS,QZ,ne_eq,not_false_eq_true,ne_0q2_m,qf,VX,Km,Jr,Nat.reduceAdd,qi,allLive,JS];rw[qea];refine⟨_,Vl _,none,st2, .nilSlice,bf,trivial,⟨hfew2,c3,es4,nb3,heB3,hes4,?_⟩,rfl, .inl ⟨w1,hX,rfl⟩⟩;change Sub (Ya B _ _ _ _ _ _ _) _;rw[<-heB3.set_m (c:=c3) (es:=es4++[(b4,nm)])];exact V9 (V3 (V3 hE14 (hE14.none hn_14q13)) z0q2) _ _
    ·try simp only[decide_eq_true_eq,VS]at hb4
     obtain⟨w1,out,w2,w3,w4,w5,w6⟩:bf=okF/\∃out,rec q.1.toks (op++[nm]) ⟨Cop.addE st.names nm,st.copies+1⟩= .ok out st2/\IsL wz (QG (fun _=>none) tb0) 5 bv (out.map QM)/\out.length<=200000/\st2.names.length<=st2.copies/\st2.copies<=4096:=by
      rcases hcase with⟨z,-⟩|z
      ·exact absurd (by simpa using hb4) z
      ·exact z
     have w3:IsL wz B2 5 bv (out.map QM):=w3.mono (by rw[hB2];exact Ep (qcY _));rw[w2]at hX;simp only[qdE,Vf,decide_eq_true_eq]at hX;have nbv:=XY w3;refine qN ?_;change Awp _ _ _ _ _ _ _;refine qJ ?_;refine awp_rseq [3,5,7,9,98] (by rfl) fun K hK=>?_;simp+decide only[qa,ev,qI,qG,putD,VM,VO,VN,Ka,true_and,↓qg,qc,↓Xc,Qv,↓qw,ql,qy,cond_false,qo,qah,nbv];apply hK;clear hK K;refine qH (b:=_) rfl (fun hb5=>?_) (fun hb5=>?_)
     ·try simp only[decide_eq_true_eq]at hb5
      rw[if_pos (by omega)]at hX;refine awp_rseq [4,5] (by rfl) fun K hK=>?_;simp+decide only[ev,putD,VM,VO,Ka,true_and,↓qg,qc];refine qM (V:= .tuple [.nilSlice,Qu ⟨3,s.name.line,s.name.col⟩]) (by rfl) (by rfl) (qki wz _ k0q0 s.name rv hrvl 3 (by rw[hsc];exact zqA)) ?_;simp+decide only[ev,putD,VM,VO,Ka,true_and,↓QV,QJ,QU,KX,J8,VX,Km,↓qd,qb,VX,Km,Jr,Nat.reduceAdd,Qu];refine qp (by rfl) (by rfl) zqA QI (by rfl) (by rfl) zqD (Js _) (by first|rfl|(simp+decide only[ev,putD,VM,VO,Ka,VV,Qr,JS,Vf,hmvs,hrvs,XA,XB,Xh])) ?_;simp only[VV];simp+decide only[qa,ev,putD,VO,VN,Ka,setAt,VW,Ki,Jr,Nat.reduceAdd];apply hK;clear hK K;refine qL ?_;try simp only[Qg]
      refine qgJ (by rfl) Tryz.underlying74 zqA (by rfl) (qch _ b4 es4 0 hnot4) ?_;refine QF (?_) ?_
      ·simp+decide only[QD,qA,qj,VO,Ka,and_true,qA,qj,qh Xo QI,Qa,qf,VX,Km,Jr,Nat.reduceAdd,qi,allLive,JS,QZ,ne_eq,not_false_eq_true,ne_0q2_m,qf,VX,Km,Jr,Nat.reduceAdd,qi,allLive,JS]
      simp+decide only[VO,Ka,Xg,qA,qj,qh Xo QI,Qa,qf,VX,Km,Jr,Nat.reduceAdd,qi,allLive,JS,QZ,ne_eq,not_false_eq_true,ne_0q2_m,qf,VX,Km,Jr,Nat.reduceAdd,qi,allLive,JS];rw[qea];refine⟨_,Vl _,none,st2, .nilSlice,⟨3,s.name.line,s.name.col⟩,trivial,⟨hfew2,c3,es4,nb3,heB3,hes4,?_⟩,rfl, .inl ⟨fun e=>absurd (congrArg FaultC.e e) (by simp[okF]),hX,rfl⟩⟩;change Sub (Ya B _ _ _ _ _ _ _) _;rw[<-heB3.set_m (c:=c3) (es:=es4++[(b4,nm)])];exact V9 (V3 (V3 hE14 (hE14.none hn_14q13)) z0q2) _ _
     ·try simp only[decide_eq_false_iff_not]at hb5
      rw[if_neg (by omega)]at hX;have z14:B2 k14q13=none:=hs2h.none hn_14q13;have hrE:qdc out s.reps=if 65536<(qcv s.reps out).length then([],3)else(qcv s.reps out,0):=by
       unfold qdc;rw[if_neg];rw[JX];rintro⟨x,hx,e⟩;exact hro x hx (by simpa using e)
      obtain⟨E,hE⟩:∃E,E=qdc out s.reps:=⟨_,rfl⟩
      refine qN ?_;change Awp _ _ _ _ _ _ _;refine awp_rseq [5,7,11,12] (by rfl) fun K hK=>?_;simp+decide only[ev,putD,VM,VO,Ka,true_and,↓qg,qc,↓qB,qm,qpG,↓qF,qY,qz ag43,QZ,ne_eq,not_false_eq_true,ne_14q13_0q0.symm,QC wz eb_0q0,VX,Km,Jr,hrvl];refine QR (by rfl) (by rfl) (qkY wz _ bv rv out s.reps (w3.mono zqB) (hrp.mono zqB) (by omega) hrl hrn) fun x19q3 h19q3 hx19q3=>?_;rw[<-hE]at hx19q3 hrE;obtain⟨ov,rfl,hor⟩:=hx19q3;have hor':=hor;obtain⟨tb,hov,o1,o2,o3⟩:=hor';have hovl:ov.live=true:=by rw[hov];cases tb<;>rfl
      have hs19:=(hor.toks (wz:=wz)).2.2;have hs_h19q3:Sub B h19q3:=BJ zqC hs19;have hr_h19q3:Sub h14q9 h19q3:=BJ zqC hs19;have eb_14q13:=hs19 k14q13 _ zqA;have eb_x:=hs19 kx _ zqA;have eb_m:=hs19 km _ zqA;have eb_0q0:=hs19 k0q0 _ zqA;have eb_0q2:=hs19 k0q2 _ zqA;have eb_1q3:=hs19 k1q3 _ zqA;simp+decide only[qa,ev,putD,VM,VO,VN,Ka,true_and,↓qg,qc,↓QV,QJ,QU,KX,J8,VX,Km,↓qd,qb,VX,Km,Jr,Nat.reduceAdd];apply hK;clear hK K;refine qJ ?_;refine awp_rseq [5,7,11,12,111] (by rfl) fun K hK=>?_;simp+decide only[qa,ev,qI,qG,putD,VM,VO,VN,Ka,true_and,↓qg,qc,↓qw,ql,qy,cond_false,qo,Ua];apply hK;clear hK K;refine qH (b:=_) rfl (fun hb6=>?_) (fun hb6=>?_)
      ·try simp only[decide_eq_false_iff_not,Ji]at hb6
       have hE3:65536<(qcv s.reps out).length:=by
        rcases KT 65536 (qcv s.reps out).length with z|z
        ·exact z
        ·exfalso
         rw[if_neg (by omega)]at hrE;rw[hrE]at hb6;exact hb6 rfl
       rw[if_pos hE3]at hrE hX;have hE2:E.2=3:=by rw[hrE]
       refine awp_rseq [4,5] (by rfl) fun K hK=>?_;simp+decide only[ev,putD,VM,VO,Ka,true_and,↓qg,qc];refine qM (V:= .tuple [.nilSlice,Qu ⟨E.2,s.name.line,s.name.col⟩]) (by rfl) (by rfl) (qki wz _ k0q0 s.name rv hrvl E.2 (by rw[hsc];exact zqA)) ?_;simp+decide only[ev,putD,VM,VO,Ka,true_and,↓QV,QJ,QU,KX,J8,VX,Km,↓qd,qb,VX,Km,Jr,Nat.reduceAdd,Qu];refine qp (by rfl) (by rfl) zqA QI (by rfl) (by rfl) zqD (Js _) (by first|rfl|(simp+decide only[ev,putD,VM,VO,Ka,VV,Qr,JS,Vf,hmvs,hrvs,XA,XB,Xh])) ?_;simp only[VV];simp+decide only[qa,ev,putD,VO,VN,Ka,setAt,VW,Ki,Jr,Nat.reduceAdd];apply hK;clear hK K;refine qL ?_;try simp only[Qg]
       refine qgJ (by rfl) Tryz.underlying74 zqA (by rfl) (qch _ b4 es4 0 hnot4) ?_;refine QF (?_) ?_
       ·simp+decide only[QD,qA,qj,VO,Ka,and_true,qA,qj,qh Xo QI,Qa,qf,VX,Km,Jr,Nat.reduceAdd,qi,allLive,JS,QZ,ne_eq,not_false_eq_true,ne_0q2_m,qf,VX,Km,Jr,Nat.reduceAdd,qi,allLive,JS]
       simp+decide only[VO,Ka,Xg,qA,qj,qh Xo QI,Qa,qf,VX,Km,Jr,Nat.reduceAdd,qi,allLive,JS,QZ,ne_eq,not_false_eq_true,ne_0q2_m,qf,VX,Km,Jr,Nat.reduceAdd,qi,allLive,JS];rw[qea,hE2];have hE19:=hE14.trans ((Vg hn_14q13).trans hs19);refine⟨_,Vl _,none,st2, .nilSlice,⟨3,s.name.line,s.name.col⟩,trivial,⟨hfew2,c3,es4,nb3,heB3,hes4,?_⟩,rfl, .inl ⟨fun e=>absurd (congrArg FaultC.e e) (by simp[okF]),hX,rfl⟩⟩;change Sub (Ya B _ _ _ _ _ _ _) _;rw[<-heB3.set_m (c:=c3) (es:=es4++[(b4,nm)])];exact V9 (V3 hE19 z0q2) _ _
      ·try simp only[decide_eq_true_eq,VS]at hb6
       have hE3:¬65536<(qcv s.reps out).length:=fun z=>by
        rw[if_pos z]at hrE;rw[hrE]at hb6;exact absurd hb6 (by decide)
       rw[if_neg hE3]at hrE hX;have hE1:E.1=qcv s.reps out:=by rw[hrE]
       refine qN ?_;change Awp _ _ _ _ _ _ _;refine awp_rseq [4,5] (by rfl) fun K hK=>?_;simp+decide only[ev,qI,qG,putD,VM,VO,Ka,true_and,↓qg,qc,↓Qo,↓qZ,ZI,evP,Vj,↓qd,qb];refine qp (by rfl) (by rfl) zqA QI (by rfl) (by rfl) zqD (Js _) (by first|rfl|(simp+decide only[ev,putD,VM,VO,Ka,VV,Qr,JS,Vf,hmvs,hrvs,XA,XB,Xh])) ?_;simp only[VV];simp+decide only[qa,ev,putD,VO,VN,Ka,setAt,VW,Ki,Jr,Nat.reduceAdd];apply hK;clear hK K;refine qL ?_;refine qgJ (by rfl) Tryz.underlying74 zqA (by rfl) (qch _ b4 es4 0 hnot4) ?_;refine QF (?_) ?_
       ·simp+decide only[QD,qA,qj,VO,Ka,and_true,qA,qj,qh Xo QI,Qa,qf,VX,Km,Jr,Nat.reduceAdd,qi,allLive,JS,QZ,ne_eq,not_false_eq_true,ne_0q2_m,qf,VX,Km,Jr,Nat.reduceAdd,qi,allLive,JS]
       simp+decide only[VO,Ka,Xg,qA,qj,qh Xo QI,Qa,qf,VX,Km,Jr,Nat.reduceAdd,qi,allLive,JS,QZ,ne_eq,not_false_eq_true,ne_0q2_m,qf,VX,Km,Jr,Nat.reduceAdd,qi,allLive,JS];rw[qea];have hE14':Sub (Ya B kx km (.slice lcm om qs.length cm) c3 (es4++[(b4,nm)]) nb3 st2.copies) (h14q9.set k14q13 ⟨[.int .i64 bf.e, .int .i64 bf.line, .int .i64 bf.col],0⟩):=V3 hE14 (hE14.none hn_14q13);obtain⟨e1,e2⟩:=heB3.buf hE14' o1;have hE19:Sub (Ya (QG B tb) kx km (.slice lcm om qs.length cm) c3 (es4++[(b4,nm)]) nb3 st2.copies) h19q3:=by rw[e1,o3];exact Ep hE14'
       have z7:Ya (QG B tb) kx km (.slice lcm om qs.length cm) c3 (es4++[(b4,nm)]) nb3 st2.copies k0q2=none:=by rw[e1];exact qoF z0q2 ((Vb _ _ ne_14q13_0q2.symm).trans (hs2h _ _ (hsB2 _ _ b1_2))) o1
       have hob:bufOk B 5 tb:=o1.sub (zqB:Sub B (h14q9.set k14q13 ⟨[.int .i64 bf.e, .int .i64 bf.line, .int .i64 bf.col],0⟩));refine⟨_,Vl _,tb,st2,ov,okF,hob,⟨hfew2,c3,es4,nb3,e2,hes4,?_⟩,rfl, .inr ⟨rfl,qcv s.reps out,hX,?_,by omega,w5,w6⟩⟩
       ·rw[<-e2.set_m (c:=c3) (es:=es4++[(b4,nm)])]
        exact V9 (V3 hE19 z7) _ _
       ·rw[hov,<-hE1]
        exact(BF (hob.sub (qcY _)) (by decide) o2 Xn (Vl _)).clip
end Go.Proofs.YtlhhaagmakhilaaGreatDoor
namespace Go.Proofs.YtlhhaagmakhilaaGreatDoor
open Go.AM
open Go.Proofs
open Go.Col (Str FaultC okF)
open Go.Tok
open Go.Cop
open Go.RowKit (Below)
set_option maxRecDepth 100000
def qbn(h:AHeap):Option Buf->AHeap
 |none=>h
 |some b=>h.del b.blk
def Us(j:Nat):Option Buf->Prop
 |none=>True
 |some b=>j≠b.blk
theorem UO{h:AHeap}{tb:Option Buf}{j:Nat}{c:Blk}(hj:h j=some c)(hn:Us j tb):qbn h tb j=some c:=by
 cases tb with
 |none=>exact hj
 |some b=>simp only[qbn,Vk,show j≠b.blk from hn,if_false];exact hj
theorem Wn{G:AHeap}{es j:Nat}{tb:Option Buf}{c:Blk}(hb:bufOk G es tb)(hj:G j=some c):Us j tb:=by
 cases tb with
 |none=>trivial
 |some b=>exact qiF hb hj
theorem qsL{h G:AHeap}{j:Nat}{tb:Option Buf}(hs:Sub (QG G tb) h)(hj:h j=none):Us j tb:=by
 cases tb with
 |none=>trivial
 |some b=>
  intro e;have:=hs b.blk _ (Vd _ _ _);rw[<-e,hj]at this;cases this
theorem qdi{A h:AHeap}{es:Nat}{tb:Option Buf}(hs:Sub A h)(hb:bufOk A es tb):Sub A (qbn h tb):=fun j c hj=>UO (hs j c hj) (Wn hb hj)
theorem qrI(h:AHeap)(tb:Option Buf):Sub (qbn h tb) h:=by
 cases tb with
 |none=>exact Vl _
 |some b=>
  intro j c hj;by_cases e:j=b.blk
  ·subst e;simp[qbn,Vk]at hj
  ·simpa[qbn,Vk,e]using hj
def qaC(h:AHeap)(kx km:Nat)(nb:Option Buf):AHeap:=qbn ((h.del kx).del km) nb
theorem qfJ{h:AHeap}{kx km:Nat}{nb:Option Buf}{j:Nat}{c:Blk}(hj:h j=some c)(hx:j≠kx)(hm:j≠km)(hn:Us j nb):qaC h kx km nb j=some c:=UO (by simp only[Vk,hx,hm,if_false];exact hj) hn
section
variable {B h:AHeap} {kx km:Nat} {mv:AVal} {c cp:Nat} {es:List (Nat×Str)} {nb:Option Buf} {ns:List Str}
theorem base_ok(he:ExOk B kx km nb ns):ExOk (qaC h kx km nb) kx km nb ns:=by
 have hk:∀j,(j=kx\/j=km)->qaC h kx km nb j=none:=fun j hj=>by
  have:((h.del kx).del km) j=none:=by
   rcases hj with rfl|rfl
   ·by_cases e:j=km<;>simp[Vk,e]
   ·simp[Vk]
  cases hb:qaC h kx km nb j with
  |none=>rfl
  |some d=>
   have:=qrI _ _ j d hb;rw[‹((h.del kx).del km) j=none›]at this;cases this
 refine⟨hk km (.inr rfl),hk kx (.inl rfl),he.ne,fun M=>⟨(Vb _ _ he.ne.symm).trans (hk kx (.inl rfl)),fun X=>?_,(he.use M).eq⟩⟩;have h1:=(he.use M).ok X;cases nb with
 |none=>trivial
 |some b=>
  refine⟨?_,h1.2⟩;have h2:((B.set km M).set kx X) b.blk=none:=h1.1;have e1:b.blk≠kx:=fun e=>by rw[e,Vd]at h2;cases h2
  rw[Vb _ _ e1]at h2;have e2:b.blk≠km:=fun e=>by rw[e,Vd]at h2;cases h2
  refine(Vb _ _ e1).trans ((Vb _ _ e2).trans ?_);simp[qaC,qbn,Vk]
theorem qeM(he:ExOk B kx km nb ns){j:Nat}{d:Blk}(hj:B j=some d):j≠kx/\j≠km/\Us j nb:=by
 refine⟨(fun e=>by rw[e,he.bx]at hj;cases hj),(fun e=>by rw[e,he.bm]at hj;cases hj),?_⟩;have hne:j≠km:=fun e=>by rw[e,he.bm]at hj;cases hj
 have hnx:j≠kx:=fun e=>by rw[e,he.bx]at hj;cases hj
 exact Wn ((he.use ⟨[],0⟩).ok ⟨[],0⟩) ((Vb _ _ hnx).trans ((Vb _ _ hne).trans hj))
theorem qeL(he:ExOk B kx km nb ns)(hs:Sub (Ya B kx km mv c es nb cp) h){j:Nat}(hj:h j=none):j≠kx/\j≠km/\Us j nb:=by
 refine⟨fun e=>?_,fun e=>?_,qsL hs hj⟩
 ·have:=hs _ _ (he.x (mv:=mv) (c:=c) (es:=es) (cp:=cp))
  rw[<-e,hj]at this;cases this
 ·have:=hs _ _ (he.m (mv:=mv) (c:=c) (es:=es) (cp:=cp))
  rw[<-e,hj]at this;cases this
theorem qks(he:ExOk B kx km nb ns){B':AHeap}(hb:∀j d,B' j=some d->j≠kx/\j≠km/\Us j nb)(hs:Sub B' h):Sub B' (qaC h kx km nb):=fun j d hj=>by
 obtain⟨h1,h2,h3⟩:=hb j d hj;exact qfJ (hs j d hj) h1 h2 h3
theorem base_sub(he:ExOk B kx km nb ns)(hs:Sub (Ya B kx km mv c es nb cp) h):Sub (Ya (qaC h kx km nb) kx km mv c es nb cp) h:=by
 have hx:=hs _ _ (he.x (mv:=mv) (c:=c) (es:=es) (cp:=cp));have hm:=hs _ _ (he.m (mv:=mv) (c:=c) (es:=es) (cp:=cp));have hn:∀b,nb=some b->h b.blk=some ⟨b.cells,0⟩:=fun b e=>by
  subst e;exact hs _ _ (Vd _ _ _)
 have hle:Sub (qaC h kx km nb) h:=(qrI _ _).trans fun j d hj=>by
  by_cases e1:j=km
  ·subst e1;simp[Vk]at hj
  ·by_cases e2:j=kx
   ·subst e2;simp[Vk]at hj
   ·simpa[Vk,e1,e2]using hj
 have hG:Sub (((qaC h kx km nb).set km (XO c (es.map opC))).set kx ⟨[mv, .map km,QH 1 nb, .int .i64 cp],0⟩) h:=fun j d hj=>by
  by_cases e2:j=kx
  ·subst e2
   rw[Vd]at hj;rw[<-hj];exact hx
  ·rw[Vb _ _ e2]at hj
   by_cases e1:j=km
   ·subst e1
    rw[Vd]at hj;rw[<-hj];exact hm
   ·rw[Vb _ _ e1]at hj
    exact hle j d hj
 unfold Ya qat;cases nb with
 |none=>exact hG
 |some b=>
  intro j d hj;by_cases e:j=b.blk
  ·subst e
   rw[show QG (((qaC h kx km (some b)).set km (XO c (es.map opC))).set kx ⟨[mv, .map km,QH 1 (some b), .int .i64 cp],0⟩) (some b)=(((qaC h kx km (some b)).set km (XO c (es.map opC))).set kx ⟨[mv, .map km,QH 1 (some b), .int .i64 cp],0⟩).set b.blk ⟨b.cells,0⟩from rfl,Vd]at hj;rw[<-hj];exact hn b rfl
  ·rw[show QG (((qaC h kx km (some b)).set km (XO c (es.map opC))).set kx ⟨[mv, .map km,QH 1 (some b), .int .i64 cp],0⟩) (some b)=(((qaC h kx km (some b)).set km (XO c (es.map opC))).set kx ⟨[mv, .map km,QH 1 (some b), .int .i64 cp],0⟩).set b.blk ⟨b.cells,0⟩from rfl,Vb _ _ e]at hj
   exact hG j d hj
end
section
variable {lim:Bool} {mem:List MemC} {op:List Str} {rec:List TokC->List Str->Xs->Xr} {l:List TokC}
theorem qit:∀(f g i:Nat) (out:List TokC) (st:Xs),i<=l.length->l.length<f+i->l.length<g+i->qaB lim mem op rec l f i out st=qaB lim mem op rec l g i out st
 |0,g,i,out,st,hi,h1,_=>by omega
 |f+1,0,i,out,st,hi,_,h2=>by omega
 |f+1,g+1,i,out,st,hi,h1,h2=>by
  rw[qaB,qaB];simp only;split
  ·rfl
  ·rename_i hc
   have hcl:=qbM hi;obtain⟨s1,s2,s3,s4⟩:=We (l:=l) (i:=Xy l i+1) (by omega);split
   ·rfl
   ·rename_i hok
    have h3:=s3 (by simpa using hok);cases qaA lim mem op rec (QL l (Xy l i+1)) st with
    |bad f'=>rfl
    |ok inner st'=>
     simp only;split
     ·rfl
     ·exact qit f g _ _ _ s2 (by omega) (by omega)
def qnV(lim:Bool)(mem:List MemC)(op:List Str)(rec:List TokC->List Str->Xs->Xr)(l:List TokC)(i:Nat)(out:List TokC)(st:Xs):Xr:=qaB lim mem op rec l (l.length+1-i) i out st
theorem qpv{i:Nat}(hi:i<=l.length)(out:List TokC)(st:Xs):qnV lim mem op rec l i out st=
 if l.length<=Xy l i then .ok (out++l.drop i) st
 else if (QL l (Xy l i+1)).ok=false then .bad (Ut l (Xy l i) (QL l (Xy l i+1)).at_)
 else match qaA lim mem op rec (QL l (Xy l i+1)) st with
  | .bad f=> .bad f
  | .ok inner st'=>if qdE lim (out++qal l i (Xy l i)++inner)=true then .bad ⟨3,(QL l (Xy l i+1)).name.line,(QL l (Xy l i+1)).name.col⟩else qnV lim mem op rec l (QL l (Xy l i+1)).at_ (out++qal l i (Xy l i)++inner) st':=by
 unfold qnV;rw[show l.length+1-i=(l.length-i)+1 by omega,qaB];simp only;split
 ·rfl
 ·rename_i hc
  have hcl:=qbM hi;obtain⟨s1,s2,s3,s4⟩:=We (l:=l) (i:=Xy l i+1) (by omega);split
  ·rfl
  ·rename_i hok
   have h3:=s3 (by simpa using hok);cases qaA lim mem op rec (QL l (Xy l i+1)) st with
   |bad f'=>rfl
   |ok inner st'=>
    simp only;split
    ·rfl
    ·exact qit _ _ _ _ _ s2 (by omega) (by omega)
end
end Go.Proofs.YtlhhaagmakhilaaGreatDoor
namespace Go.Proofs.YtlhhaagmakhilaaGreatDoor
open Go.AM
open Go.Proofs
open Go.Col (Str FaultC okF)
open Go.Tok
open Go.Cop
open Go.RowKit (Below)
set_option maxRecDepth 100000
theorem qgn{H H':AHeap}{es:Nat}{b:Option Buf}(hb:bufOk H es b)(hn:∀j,H j=none->H' j=none):bufOk H' es b:=by
 cases b with
 |none=>trivial
 |some b=>exact⟨hn _ hb.1,hb.2⟩
theorem qkm{H H':AHeap}{es:Nat}{b:Option Buf}(hb:bufOk H es b)(hn:∀b',b=some b'->H' b'.blk=none):bufOk H' es b:=by
 cases b with
 |none=>trivial
 |some b=>exact⟨hn _ rfl,hb.2⟩
theorem Wu{B B':AHeap}(hn:∀j,B j=none->B' j=none)(k:Nat)(c:Blk):∀j,B.set k c j=none->B'.set k c j=none:=fun j hj=>by
 by_cases e:j=k
 ·subst e;rw[Vd]at hj;cases hj
 ·rw[Vb _ _ e]at hj|-
  exact hn j hj
theorem ExOk.same{B B':AHeap}{kx km:Nat}{nb:Option Buf}{ns:List Str}(he:ExOk B kx km nb ns)(hn:∀j,B j=none->B' j=none):ExOk B' kx km nb ns:=
 ⟨hn _ he.bm,hn _ he.bx,he.ne,fun M=>⟨Wu hn km M _ (he.use M).bx,fun X=>qgn ((he.use M).ok X) (Wu (Wu hn km M) kx X),(he.use M).eq⟩⟩
theorem expH_same{B B':AHeap}{kx km:Nat}{mv:AVal}{c cp:Nat}{es:List (Nat×Str)}{nb:Option Buf}(hn:∀j,B j=none->B' j=none):∀j,Ya B kx km mv c es nb cp j=none->Ya B' kx km mv c es nb cp j=none:=by
 have h1:=Wu (Wu hn km (XO c (es.map opC))) kx ⟨[mv, .map km,QH 1 nb, .int .i64 cp],0⟩;unfold Ya qat;cases nb with
 |none=>exact h1
 |some b=>exact Wu h1 b.blk ⟨b.cells,0⟩
theorem qfp{A:AHeap}{k:Nat}(X Y:Blk):∀j,A.set k X j=none->A.set k Y j=none:=fun j hj=>by
 by_cases e:j=k
 ·subst e;rw[Vd]at hj;cases hj
 ·rw[Vb _ _ e]at hj|-
  exact hj
theorem qaL{A B:AHeap}{k:Nat}{c:Blk}(hs:Sub A B)(hk:B k=some c):Sub (A.set k c) B:=fun j d hj=>by
 by_cases e:j=k
 ·subst e;rw[Vd]at hj;rw[<-hj];exact hk
 ·rw[Vb _ _ e]at hj;exact hs j d hj
def hasB(h:AHeap)(tb:Option Buf):Prop:=∀b,tb=some b->h b.blk=some ⟨b.cells,0⟩
theorem hasB.mono{h h':AHeap}{tb:Option Buf}(hh:hasB h tb)(hs:Sub h h'):hasB h' tb:=fun b e=>hs _ _ (hh b e)
theorem qdn(H:AHeap)(tb:Option Buf):hasB (QG H tb) tb:=fun b e=>by subst e;exact Vd _ _ _
theorem hasB.set{h:AHeap}{tb:Option Buf}{j:Nat}(hh:hasB h tb)(hn:Us j tb)(c:Blk):hasB (h.set j c) tb:=fun b e=>by
 subst e;rw[Vb _ _ (Ne.symm hn)];exact hh b rfl
theorem qls{h:AHeap}{tb:Option Buf}{j:Nat}(hh:hasB h tb)(hj:h j=none):Us j tb:=by
 cases tb with
 |none=>trivial
 |some b=>
  intro e;have:=hh b rfl;rw[<-e,hj]at this;cases this
theorem qnS{G h:AHeap}{es:Nat}{tb:Option Buf}(hb:bufOk G es tb)(hh:hasB h tb):bufOk (qbn h tb) es tb/\Sub (QG (qbn h tb) tb) h:=by
 cases tb with
 |none=>exact⟨trivial,Vl _⟩
 |some b=>
  refine⟨⟨by simp[qbn,Vk],hb.2⟩,fun j c hj=>?_⟩;have h1:=hh b rfl;by_cases e:j=b.blk
  ·subst e
   rw[show QG (qbn h (some b)) (some b)=(qbn h (some b)).set b.blk ⟨b.cells,0⟩from rfl,Vd]at hj;rw[<-hj];exact h1
  ·rw[show QG (qbn h (some b)) (some b)=(qbn h (some b)).set b.blk ⟨b.cells,0⟩from rfl,Vb _ _ e]at hj
   simpa[qbn,Vk,e]using hj
theorem qrc{B H E:AHeap}{es:Nat}{tb:Option Buf}(hb:bufOk B es tb)(hE:NewE B H E)(hh:hasB H tb):bufOk E es tb:=by
 cases tb with
 |none=>trivial
 |some b=>exact⟨hE.none (hh b rfl) hb.1,hb.2⟩
theorem ExOk.newE{B H E:AHeap}{kx km:Nat}{mv:AVal}{c cp:Nat}{es:List (Nat×Str)}{nb:Option Buf}{ns:List Str}(he:ExOk B kx km nb ns)(hE:NewE B H E)(hs:Sub (Ya B kx km mv c es nb cp) H):ExOk E kx km nb ns:=by
 have e1:E km=none:=hE.none (hs _ _ he.m) he.bm;have e2:E kx=none:=hE.none (hs _ _ he.x) he.bx;refine⟨e1,e2,he.ne,fun M=>⟨(Vb _ _ he.ne.symm).trans e2,fun X=>?_,(he.use M).eq⟩⟩;refine qkm ((he.use M).ok X) fun b hb=>?_;subst hb;have h2:((B.set km M).set kx X) b.blk=none:=((he.use M).ok X).1;have q1:b.blk≠kx:=fun e=>by rw[e,Vd]at h2;cases h2
 rw[Vb _ _ q1]at h2;have q2:b.blk≠km:=fun e=>by rw[e,Vd]at h2;cases h2
 rw[Vb _ _ q2]at h2;exact(Vb _ _ q1).trans ((Vb _ _ q2).trans (hE.none (hs b.blk _ (Vd _ _ _)) h2))
structure LsG where
 i:Nat
 c:Nat
 es:List (Nat×Str)
 nb:Option Buf
 st:Xs
 tb:Option Buf
 out:List TokC
structure LsOk(B:AHeap)(kx km k0 k1:Nat)(mv:AVal)(op:List Str)(l:List TokC)(R:Nat->List TokC->Xs->Xr)(X:Xr)(s:LsG):Prop where
 i:s.i<=l.length
 ex:∀Y,ExOk ((B.set k0 ⟨[.int .i64 0, .int .i64 0, .int .i64 0],0⟩).set k1 Y) kx km s.nb s.st.names
 op:s.es.map (·.2)=op
 ok:∀Y,bufOk (Ya ((B.set k0 ⟨[.int .i64 0, .int .i64 0, .int .i64 0],0⟩).set k1 Y) kx km mv s.c s.es s.nb s.st.copies) 5 s.tb
 eq:Yn s.tb=(s.out.map QM).flatten
 len:s.out.length<=65536
 nm:s.st.names.length<=s.st.copies
 cp:s.st.copies<=4096
 go:R s.i s.out s.st=X
end Go.Proofs.YtlhhaagmakhilaaGreatDoor
namespace Go.Proofs.YtlhhaagmakhilaaGreatDoor
open Go.AM
open Go.Proofs
open Go.Col (Str FaultC okF)
open Go.Tok
open Go.Cop
open Go.RowKit (Below)
set_option maxRecDepth 100000
set_option maxHeartbeats 4000000 in
theorem qrZ(wz:World)(h B:AHeap)(kx km:Nat)(mv:AVal)(mems:List MemC)(op:List Str)(st:Xs)(v:AVal)(l:List TokC)(rec:List TokC->List Str->Xs->Xr)(hx:ExpR B kx km mv op st h)(hms:IsMems wz B mv mems)(hml:mems.length<=1000000)(hmt:∀m∈mems,m.toks.length<=100000)
 (hv:IsL wz B 5 v (l.map QM)) (hl:l.length<=100000) (hst:st.names.length<=st.copies) (hst2:st.copies<=4096) (hop8:op.length<=8)
 (hrec:op.length<8->∀nm,RecOk wz kx km mv mems (op++[nm]) rec):
 ACall Tryz.prog wz 32 [.ptr (.own kx) 0,v] h (ListR wz B kx km mv op (qaB true mems op rec l (l.length+1) 0 [] st)):=by
 obtain⟨hfew,c,es,nb,he,hes,hsh⟩:=hx;have hmvs:mv.scal=true:=by obtain⟨qs,-,q2,-⟩:=hms;exact q2.scal
 have hmvl:=ZU hmvs;have hlv:=hv.live;have hvs:=hv.scal;have hSv:Sc v=True:=eq_true (qpC hv);have nv:=XY hv;refine Eo hsh ?_;obtain⟨X,hX⟩:∃X,X=qaB true mems op rec l (l.length+1) 0 [] st:=⟨_,rfl⟩
 have hX0:qnV true mems op rec l 0 [] st=X:=hX.symm;rw[<-hX];obtain⟨H,hH⟩:∃H,H=Ya B kx km mv c es nb st.copies:=⟨_,rfl⟩
 have hs_H:Sub B H:=by rw[hH];exact he.above
 have eb_x:H kx=some ⟨[mv, .map km,QH 1 nb, .int .i64 st.copies],0⟩:=by rw[hH];exact he.x
 have eb_m:H km=some (XO c (es.map opC)):=by rw[hH];exact he.m
 have ne_x_m:kx≠km:=he.ne.symm;have hrvs:(AVal.bool true).scal=true:=rfl;have hrvl:(AVal.bool true).live=true:=rfl;have hbvl:(AVal.bool true).live=true:=rfl;have hbl:=QW 5 none;have hbn:=QW 1 nb;rw[<-hH];refine qW (n:=52) (rs:=[.tmp 4, .cell 5 35]) Tryz.func32 rfl rfl rfl rfl (VL rfl) ?_;simp only[Qe];refine awp_rseq [0,1,5] (by rfl) fun K hK=>?_;simp+decide only[ev,qI,qG,putD,VM,if_false,true_and,↓qd,qb,Jr];refine Qi qap (cs:=[.int .i64 0, .int .i64 0, .int .i64 0]) (by rfl) fun k0q1 hk0q1=>?_;have hn_0q1:H k0q1=none:=by first|assumption|(simp only[V7]at hk0q1;simp only[hk0q1])
 have hf_0q1:B k0q1=none:=Bg hs_H hn_0q1;have ne_0q1_x:k0q1≠kx:=Bh hn_0q1 eb_x;have ne_0q1_m:k0q1≠km:=Bh hn_0q1 eb_m;simp+decide only[qa,putD,VM,VN,Ka];apply hK;clear hK K;refine awp_rseq [0,5,6] (by rfl) fun K hK=>?_;simp+decide only[ev,qI,qG,putD,VM,VO,Ka,true_and,↓qg,qc,↓Qo,↓qZ,qsc,evP,Kc,Vj,hSv];refine Qi ze89 (cs:=[.nilSlice, .int .i64 0]) (by rfl) fun k1q2 hk1q2=>?_;have ne_1q2_0q1:k1q2≠k0q1:=by simp only[V7]at hk1q2;simp only[hk1q2,ne_eq,not_false_eq_true]
 have hn_1q2:H k1q2=none:=by first|assumption|(simp only[V7]at hk1q2;simp only[hk1q2])
 have hf_1q2:B k1q2=none:=Bg hs_H hn_1q2;have ne_1q2_x:k1q2≠kx:=Bh hn_1q2 eb_x;have ne_1q2_m:k1q2≠km:=Bh hn_1q2 eb_m;refine qp (by rfl) (by rfl) zqA sz89 (by rfl) (by rfl) zqD (Js _) (by first|rfl|(simp+decide only[ev,putD,VM,VO,Ka,VV,Qr,JS,hvs,XA])) ?_;simp only[Vh,VV];simp+decide only[qa,ev,putD,VM,VO,VN,Ka,setAt,VW,Ki,Jr];apply hK;clear hK K;obtain⟨y1,y2⟩:=he.lay (mv:=mv) (c:=c) (es:=es) (cp:=st.copies) (j:=k0q1) (by rw[<-hH];exact hn_0q1) ⟨[.int .i64 0, .int .i64 0, .int .i64 0],0⟩;obtain⟨y3,y4⟩:=y2.lay (mv:=mv) (c:=c) (es:=es) (cp:=st.copies) (j:=k1q2) (by rw[<-y1,<-hH];exact(Vb _ _ ne_1q2_0q1).trans hn_1q2) ⟨[v, .int .i64 0],0⟩;refine awp_rseq [0,5,6,7] (by rfl) fun K hK=>?_;simp+decide only[qa,ev,qI,qG,putD,VM,VN,Ka,true_and,↓qd,qb];apply hK;clear hK K;refine Qj ?_;refine Xj [0,5,6,7] (fun s:LsG=>[(0, .ptr (.own kx) 0),(5, .ptr (.own k0q1) 0),(6, .ptr (.own k1q2) 0),(7,QH 5 s.tb)]) (fun s:LsG=>QG (Ya ((B.set k0q1 ⟨[.int .i64 0, .int .i64 0, .int .i64 0],0⟩).set k1q2 ⟨[v, .int .i64 s.i],0⟩) kx km mv s.c s.es s.nb s.st.copies) s.tb) (fun s:LsG=>LsOk B kx km k0q1 k1q2 mv op l (qnV true mems op rec l) X s) (fun s:LsG=>l.length-s.i) ⟨0,c,es,nb,st,none,[]⟩ (by rfl) (by(show Sub (Ya _ _ _ _ _ _ _ _) _);rw[show((((0:Nat):Int)))=(0:Int)from rfl,<-y3,<-y1,<-hH];exact Vl _) ⟨Js _,fun Y=>y4.same (qfp _ _),hes,fun Y=>trivial,rfl,Js _,hst,hst2,hX0⟩ ?_;rintro⟨i,c,es,nb,st,tb,out⟩ ⟨g1,g2,g3,g4,g5,g6,g7,g8,g9⟩;simp only at g1 g2 g3 g4 g5 g6 g7 g8 g9|-
 have g2i:=g2 ⟨[v, .int .i64 i],0⟩;have g4i:=g4 ⟨[v, .int .i64 i],0⟩;obtain⟨G,hG⟩:∃G,G=(B.set k0q1 ⟨[.int .i64 0, .int .i64 0, .int .i64 0],0⟩).set k1q2 ⟨[v, .int .i64 i],0⟩:=⟨_,rfl⟩
 rw[<-hG]at g2i g4i|-
 have hBG:Sub B G:=by rw[hG];exact zqB
 have gb_0:G k0q1=some ⟨[.int .i64 0, .int .i64 0, .int .i64 0],0⟩:=by rw[hG];exact zqA
 have gb_1:G k1q2=some ⟨[v, .int .i64 i],0⟩:=by rw[hG];exact Vd _ _ _
 obtain⟨H1,hH1⟩:∃H1,H1=QG (Ya G kx km mv c es nb st.copies) tb:=⟨_,rfl⟩
 have hbuf:Sub (Ya G kx km mv c es nb st.copies) H1:=by rw[hH1];exact BH g4i
 have hs_H1:Sub B H1:=(hBG.trans g2i.above).trans hbuf;have eb_x:H1 kx=some ⟨[mv, .map km,QH 1 nb, .int .i64 st.copies],0⟩:=hbuf _ _ g2i.x;have eb_m:H1 km=some (XO c (es.map opC)):=hbuf _ _ g2i.m;have eb_0q1:H1 k0q1=some ⟨[.int .i64 0, .int .i64 0, .int .i64 0],0⟩:=hbuf _ _ (g2i.above _ _ gb_0);have eb_1q2:H1 k1q2=some ⟨[v, .int .i64 i],0⟩:=hbuf _ _ (g2i.above _ _ gb_1);have has1:hasB H1 tb:=by rw[hH1];exact qdn _ _
 have heB:ExOk B kx km nb st.names:=g2i.down hBG;have hokB:bufOk (Ya B kx km mv c es nb st.copies) 5 tb:=g4i.sub (qdp hBG);have hokB0:bufOk B 5 tb:=hokB.sub heB.above;have hEB1:Sub (Ya B kx km mv c es nb st.copies) H1:=(qdp hBG).trans hbuf;have zB0:Ya B kx km mv c es nb st.copies k0q1=none:=g2i.off gb_0 hf_0q1;have zB1:Ya B kx km mv c es nb st.copies k1q2=none:=g2i.off gb_1 hf_1q2;have hbl:=QW 5 tb;have hbn:=QW 1 nb;have hstp:=qpv (lim:=true) (mem:=mems) (op:=op) (rec:=rec) g1 out st;rw[g9]at hstp;rw[<-hH1];refine Qj ?_;refine awp_rseq [0,5,6,7,8,9,10,11] (by rfl) fun K hK=>?_;refine QR (by rfl) (by rfl) (qrY wz H1 B k1q2 v l i eb_1q2 hs_H1 hf_1q2 hv (by omega) g1) fun x3q0 h3q0 hx3q0=>?_;obtain⟨hsub3,j,eb_1q2,hj,hcase⟩:=hx3q0;have hcl:=qbM g1;have hstm:Xy l i<l.length->_:=fun hc=>We (l:=l) (i:=Xy l i+1) (by omega);have hrps:=qjo l (Xy l i+1);obtain⟨ci,hci⟩:∃ci,ci=Xy l i:=⟨_,rfl⟩
 rw[<-hci]at hcase hcl hstm hrps hstp;obtain⟨sm,hsm⟩:∃sm,sm=QL l (ci+1):=⟨_,rfl⟩
 rw[<-hsm]at hcase hstm hrps hstp;obtain⟨bv,t,rv,more,f,E,rfl,hbvl,hrvs,hE3,hE3s,hcase⟩:∃bv t rv more f E,x3q0=qgP bv t rv more f/\bv.live=true/\rv.scal=true/\NewE B H1 E/\Sub E h3q0/\
  ((f≠okF/\X= .bad f)\/(f=okF/\more=false/\X= .ok (out++l.drop i) st/\IsL wz B 5 bv ((l.drop i).map QM))\/
   (f=okF/\more=true/\ci<l.length/\sm.ok=true/\t=sm.name/\j=sm.at_/\IsL wz B 5 bv ((qal l i ci).map QM)/\IsReps wz E rv sm.reps)):=by
  have hle:Sub B (H1.del k1q2):=qbv hs_H1 hf_1q2;rcases hcase with⟨z1,bv,rfl,z2⟩|⟨z1,z2,rfl⟩|⟨z1,z2,z3,bv,rv,E,rfl,z4,z5,z6,z7⟩
  ·rw[if_pos z1]at hstp
   exact⟨bv,_,_,_,_,B,rfl,z2.live,rfl,NewE.refl _ _,hle.trans hsub3, .inr (.inl ⟨rfl,rfl,hstp,z2⟩)⟩
  ·rw[if_neg (by omega),if_pos z2]at hstp
   exact⟨.nilSlice,_,_,_,_,B,rfl,rfl,rfl,NewE.refl _ _,hle.trans hsub3, .inl ⟨qgg _ _ _,hstp⟩⟩
  ·exact⟨bv,_,rv,_,_,E,rfl,z4.live,(by obtain⟨qs,-,q2,-⟩:=z7;exact q2.scal),z5,z6, .inr (.inr ⟨rfl,rfl,z1,z2,rfl,z3,z4,z7⟩)⟩
 have hrvl:=ZU hrvs;have hd:∀k d,H1 k=some d->k≠k1q2->h3q0 k=some d:=fun k d hk hn=>hsub3 k d (by simp only[Vk,hn,if_false];exact hk);have eb_x:h3q0 kx=some ⟨[mv, .map km,QH 1 nb, .int .i64 st.copies],0⟩:=hd _ _ eb_x ne_1q2_x.symm;have eb_m:h3q0 km=some (XO c (es.map opC)):=hd _ _ eb_m ne_1q2_m.symm;have eb_0q1:h3q0 k0q1=some ⟨[.int .i64 0, .int .i64 0, .int .i64 0],0⟩:=hd _ _ eb_0q1 ne_1q2_0q1.symm;have hs_h3q0:Sub B h3q0:=(qbv hs_H1 hf_1q2).trans hsub3;have hEB3:Sub (Ya B kx km mv c es nb st.copies) h3q0:=(qbv hEB1 zB1).trans hsub3;have has3:hasB h3q0 tb:=fun b e=>hd _ _ (has1 b e) (by subst e;exact Ne.symm (qiF g4i (g2i.above _ _ gb_1)));unfold qgP qkP;simp+decide only[ev,putD,VM,VO,Ka,true_and,↓qg,qc,↓QV,QJ,QU,KX,J8,VX,Km,VX,Km,Jr,Nat.reduceAdd,Qu];refine Qi qsi (cs:=[.int .u8 0, .str [], .int .i64 0, .int .i64 0, .bool false, .nilSlice]) (by rfl) fun k3q6 hk3q6=>?_;have hn_3q6:h3q0 k3q6=none:=by first|assumption|(simp only[V7]at hk3q6;simp only[hk3q6])
 have hf_3q6:B k3q6=none:=Bg hs_h3q0 hn_3q6;have ne_3q6_x:k3q6≠kx:=Bh hn_3q6 eb_x;have ne_3q6_m:k3q6≠km:=Bh hn_3q6 eb_m;have ne_3q6_0q1:k3q6≠k0q1:=Bh hn_3q6 eb_0q1;have ne_3q6_1q2:k3q6≠k1q2:=Bh hn_3q6 eb_1q2;refine Qi qap (cs:=[.int .i64 0, .int .i64 0, .int .i64 0]) (by rfl) fun k3q7 hk3q7=>?_;have ne_3q7_3q6:k3q7≠k3q6:=by simp only[V7]at hk3q7;simp only[hk3q7,ne_eq,not_false_eq_true]
 have hn_3q7:h3q0 k3q7=none:=by first|assumption|(simp only[V7]at hk3q7;simp only[hk3q7])
 have hf_3q7:B k3q7=none:=Bg hs_h3q0 hn_3q7;have ne_3q7_x:k3q7≠kx:=Bh hn_3q7 eb_x;have ne_3q7_m:k3q7≠km:=Bh hn_3q7 eb_m;have ne_3q7_0q1:k3q7≠k0q1:=Bh hn_3q7 eb_0q1;have ne_3q7_1q2:k3q7≠k1q2:=Bh hn_3q7 eb_1q2;simp+decide only[ev,putD,VM,VO,Ka,true_and,↓qd,qb];refine qp (by rfl) (by rfl) zqA qae (by rfl) (by rfl) zqD (Js _) (by first|rfl|(simp+decide only[ev,VO,Ka,VV,Qr,JS,hrvs,XA,XB,Xh])) ?_;simp only[VV];simp+decide only[ev,putD,VM,VO,Ka,true_and,↓qd,qb,setAt,VW,Ki,Jr,Nat.reduceAdd];refine qp (by rfl) (by rfl) zqA QI (by rfl) (by rfl) zqD (Js _) (by first|rfl|(simp+decide only[ev,putD,VM,VO,Ka,VV,Qr,JS,Vf,hvs,hrvs,XA,XB,Xh])) ?_;simp only[VV];simp+decide only[qa,ev,putD,VO,VN,Ka,setAt,VW,Ki,Jr,Nat.reduceAdd];apply hK;clear hK K;refine qJ ?_;refine awp_rseq [0,5,6,7,8,9,10,11,23] (by rfl) fun K hK=>?_;simp+decide only[qa,ev,qI,qG,putD,VM,VO,VN,Ka,true_and,↓qF,qY,qh Xo QI,↓Qo,↓qZ,ZI,evP,Vj,↓qw,ql,qP,cond_false,ZV,qiM,QN,qf,VX,Km,Jr,Nat.reduceAdd,qi,allLive,JS,YY];apply hK;clear hK K;refine qH (b:=_) rfl (fun hb1=>?_) (fun hb1=>?_)
 ·try simp only[decide_eq_false_iff_not,Ji]at hb1
  have hXb:X= .bad f:=by
   rcases hcase with⟨-,z⟩|⟨z,-⟩|⟨z,-⟩
   ·exact z
   ·exact absurd z hb1
   ·exact absurd z hb1
  refine Zr 2 [4,5] mixed (by kernel_rfl) (by rfl) (by rfl) fun K hK=>?_;simp+decide only[ev,qI,qG,putD,VM,VO,Ka,true_and,↓qF,qY,qh Xo QI,↓qd,qb,QN,qf,VX,Km,Jr,Nat.reduceAdd,qi,allLive,JS];refine qp (by rfl) (by rfl) zqA QI (by rfl) (by rfl) zqD (Js _) (by first|rfl|(simp+decide only[ev,putD,VM,VO,Ka,VV,Qr,JS,Vf,hvs,hrvs,XA,XB,Xh])) ?_;simp only[VV];simp+decide only[qa,ev,putD,VO,VN,Ka,setAt,VW,Ki,Jr,Nat.reduceAdd];apply hK;clear hK K;refine qL ?_;try simp only[Qg,Qn]
  refine QF (?_) ?_
  ·simp+decide only[QD,qA,qj,VO,Ka,and_true,qA,qj,qh Xo QI,Qa,qf,VX,Km,Jr,Nat.reduceAdd,qi,allLive,JS,qf,VX,Km,Jr,Nat.reduceAdd,qi,allLive,JS]
  simp+decide only[VO,Ka,Xg,qA,qj,qh Xo QI,Qa,qf,VX,Km,Jr,Nat.reduceAdd,qi,allLive,JS,qf,VX,Km,Jr,Nat.reduceAdd,qi,allLive,JS];have z36:=hEB3.none hn_3q6;have z37:=hEB3.none hn_3q7;exact⟨_,Vl _,none,st, .nilSlice,f,trivial,⟨by omega,c,es,nb,heB,g3,zqB⟩,rfl, .inl ⟨hb1,hXb,rfl⟩⟩
 ·try simp only[decide_eq_true_eq,VS]at hb1
  obtain⟨hf0,bl,hbl5,hbll,hcase⟩:f=okF/\∃bl,IsL wz B 5 bv (bl.map QM)/\bl.length<=l.length/\((more=false/\X= .ok (out++bl) st)\/(more=true/\ci<l.length/\sm.ok=true/\t=sm.name/\j=sm.at_/\bl=qal l i ci/\IsReps wz E rv sm.reps)):=by
   rcases hcase with⟨z,-⟩|⟨z1,z2,z3,z4⟩|⟨z1,z2,z3,z4,z5,z6,z7,z8⟩
   ·exact absurd (by simpa using hb1) z
   ·exact⟨z1,_,z4,by rw[K5];omega, .inl ⟨z2,z3⟩⟩
   ·exact⟨z1,_,z7,qoo _ _ _, .inr ⟨z2,z3,z4,z5,z6,rfl,z8⟩⟩
  refine qN ?_;change Awp _ _ _ _ _ _ _;obtain⟨C6,hC6⟩:∃C6,C6=(h3q0.set k3q6 ⟨[.int .u8 t.kind.toNat, .str t.text, .int .i64 t.line, .int .i64 t.col, .bool t.left,rv],0⟩).set k3q7 ⟨[.int .i64 f.e, .int .i64 f.line, .int .i64 f.col],0⟩:=⟨_,rfl⟩
  refine BG (h':=C6) (by rw[hC6];exact V9 (V9 (V3 (Vg hn_3q6) hn_3q7) _ _) _ _) ?_;have h36:Sub h3q0 C6:=by rw[hC6];exact V3 (Vg hn_3q6) hn_3q7
  have hs_C6:Sub B C6:=hs_h3q0.trans h36;have eb_x:C6 kx=some ⟨[mv, .map km,QH 1 nb, .int .i64 st.copies],0⟩:=h36 _ _ eb_x;have eb_m:C6 km=some (XO c (es.map opC)):=h36 _ _ eb_m;have eb_0q1:C6 k0q1=some ⟨[.int .i64 0, .int .i64 0, .int .i64 0],0⟩:=h36 _ _ eb_0q1;have eb_1q2:C6 k1q2=some ⟨[v, .int .i64 j],0⟩:=h36 _ _ eb_1q2;have eb_3q6:C6 k3q6=some ⟨[.int .u8 t.kind.toNat, .str t.text, .int .i64 t.line, .int .i64 t.col, .bool t.left,rv],0⟩:=by rw[hC6];exact zqA
  have eb_3q7:C6 k3q7=some ⟨[.int .i64 f.e, .int .i64 f.line, .int .i64 f.col],0⟩:=by rw[hC6];exact Vd _ _ _
  have has6:=has3.mono h36;obtain⟨of1,of2⟩:=qnS g4i has6;have nb_x:Us kx tb:=Wn g4i g2i.x;have nb_m:Us km tb:=Wn g4i g2i.m;have nb_0:Us k0q1 tb:=Wn g4i (g2i.above _ _ gb_0);have nb_1:Us k1q2 tb:=Wn g4i (g2i.above _ _ gb_1);have nb_6:Us k3q6 tb:=qls has3 hn_3q6;have nb_7:Us k3q7 tb:=qls has3 hn_3q7;have of_x:=UO eb_x nb_x;have of_m:=UO eb_m nb_m;have of_0:=UO eb_0q1 nb_0;have of_1:=UO eb_1q2 nb_1;have of_6:=UO eb_3q6 nb_6;have of_7:=UO eb_3q7 nb_7;have of_B:Sub B (qbn C6 tb):=qdi hs_C6 hokB0;have of_E:Sub E (qbn C6 tb):=qdi (hE3s.trans h36) (qrc hokB0 hE3 has1);have of_X:Sub (Ya B kx km mv c es nb st.copies) (qbn C6 tb):=qdi (hEB3.trans h36) hokB;refine awp_rseq [0,5,6,7,9,10,11] (by rfl) fun K hK=>?_;simp+decide only[ev,putD,VM,VO,Ka,true_and,↓qg,qc];refine XH (es:=5) (zs:=out.map QM) (xs:=bl.map QM) (hZ:=qbn C6 tb) (b:=tb) (by rfl) (by rfl) Tryz.underlying26 Tryz.underlying26 (fun k e=>by cases e) Xb qkZ qaD (by rfl) (by decide) (by rfl) of1 g5 Xn of2 (by rfl) (hbl5.mono hs_C6) (by rw[YZ];intro z hz;obtain⟨t,_,rfl⟩:=JG.1 hz;rfl) (by simp;omega) (by simp;omega) fun tb2 h6 o1 o2 o3=>?_;have sub6:Sub (qbn C6 tb) h6:=(BH o1).trans o3;have hs_h6:Sub B h6:=of_B.trans sub6;have eb_x:=sub6 _ _ of_x;have eb_m:=sub6 _ _ of_m;have eb_0q1:=sub6 _ _ of_0;have eb_1q2:=sub6 _ _ of_1;have eb_3q6:=sub6 _ _ of_6;have eb_3q7:=sub6 _ _ of_7;have hbl:=QW 5 tb2;simp+decide only[qa,ev,putD,VM,VO,VN,Ka,true_and,↓qd,qb];apply hK;clear hK K;refine qJ ?_;refine awp_rseq [0,5,6,7,9,11,29] (by rfl) fun K hK=>?_;simp+decide only[qa,ev,putD,VM,VO,VN,Ka,true_and,↓qg,qc,↓Yj,XW,Yc];apply hK;clear hK K;refine qH (b:=_) rfl (fun hb2=>?_) (fun hb2=>?_)
  ·try simp only[Ji]at hb2
   have hXo:X= .ok (out++bl) st:=by
    rcases hcase with⟨-,z⟩|⟨z,-⟩
    ·exact z
    ·rw[z]at hb2;cases hb2
   refine awp_rseq [4,5] (by rfl) fun K hK=>?_;simp+decide only[ev,qI,qG,putD,VM,VO,Ka,true_and,↓qg,qc,↓Qo,↓qZ,ZI,evP,Vj,↓qd,qb];refine qp (by rfl) (by rfl) zqA QI (by rfl) (by rfl) zqD (Js _) (by first|rfl|(simp+decide only[ev,putD,VM,VO,Ka,VV,Qr,JS,Vf,hvs,hrvs,XA,XB,Xh])) ?_;simp only[VV];simp+decide only[qa,ev,putD,VO,VN,Ka,setAt,VW,Ki,Jr,Nat.reduceAdd];apply hK;clear hK K;refine qL ?_;try simp only[Qg,Qn]
   refine QF (?_) ?_
   ·simp+decide only[QD,qA,qj,VO,Ka,and_true,qA,qj,qh Xo QI,Qa,qf,VX,Km,Jr,Nat.reduceAdd,qi,allLive,JS,qf,VX,Km,Jr,Nat.reduceAdd,qi,allLive,JS]
   simp+decide only[VO,Ka,Xg,qA,qj,qh Xo QI,Qa,qf,VX,Km,Jr,Nat.reduceAdd,qi,allLive,JS,qf,VX,Km,Jr,Nat.reduceAdd,qi,allLive,JS];obtain⟨e1,e2⟩:=heB.buf of_X o1;have hob:bufOk B 5 tb2:=o1.sub of_B;refine⟨_,Vl _,tb2,st,QH 5 tb2,okF,hob,⟨by omega,c,es,nb,e2,g3,V3 (by rw[e1];exact(Ep of_X).trans o3) (by rw[e1];exact qoF zB0 of_0 o1)⟩,rfl, .inr ⟨rfl,out++bl,hXo,?_,by rw[Jb];omega,g7,g8⟩⟩;exact BF (hob.sub (qcY _)) (by decide) (by rw[o2,Ba,List.flatten_append]) Xn (Vl _)
  ·try simp only[VS]at hb2
   obtain⟨m2,m3,rfl,m5,m6,hrp⟩:ci<l.length/\sm.ok=true/\t=sm.name/\j=sm.at_/\bl=qal l i ci/\IsReps wz E rv sm.reps:=by
    rcases hcase with⟨z,-⟩|⟨-,z⟩
    ·rw[z]at hb2;cases hb2
    ·exact z
   have hm0:=hstm m2;rw[if_neg (by omega),if_neg (by rw[m3];decide)]at hstp;obtain⟨Bc,hBc⟩:∃Bc,Bc=qaC h6 kx km nb:=⟨_,rfl⟩
   have heBc:ExOk Bc kx km nb st.names:=by rw[hBc];exact base_ok heB
   have hsBc:Sub (Ya Bc kx km mv c es nb st.copies) h6:=by rw[hBc];exact base_sub heB (of_X.trans sub6)
   have bc_B:Sub B Bc:=by rw[hBc];exact qks heB (fun j d hj=>qeM heB hj) hs_h6
   have bc_E:Sub E Bc:=by rw[hBc];exact qks heB (fun j d hj=>qeM (heB.newE hE3 hEB1) hj) (of_E.trans sub6)
   have bc_0:Bc k0q1=some ⟨[.int .i64 0, .int .i64 0, .int .i64 0],0⟩:=by
    obtain⟨a1,a2,a3⟩:=qeM g2i gb_0;rw[hBc];exact qfJ eb_0q1 a1 a2 a3
   have bc_1:Bc k1q2=some ⟨[v, .int .i64 j],0⟩:=by
    obtain⟨a1,a2,a3⟩:=qeM g2i gb_1;rw[hBc];exact qfJ eb_1q2 a1 a2 a3
   have bc_6:Bc k3q6=some ⟨[.int .u8 sm.name.kind.toNat, .str sm.name.text, .int .i64 sm.name.line, .int .i64 sm.name.col, .bool sm.name.left,rv],0⟩:=by
    obtain⟨a1,a2,a3⟩:=qeL heB hEB3 hn_3q6;rw[hBc];exact qfJ eb_3q6 a1 a2 a3
   have bc_7:Bc k3q7=some ⟨[.int .i64 f.e, .int .i64 f.line, .int .i64 f.col],0⟩:=by
    obtain⟨a1,a2,a3⟩:=qeL heB hEB3 hn_3q7;rw[hBc];exact qfJ eb_3q7 a1 a2 a3
   have bc_tb:hasB Bc tb2:=fun b e=>by
    subst e;obtain⟨a1,a2,a3⟩:=qeL heB of_X o1.1;rw[hBc];exact qfJ (o3 _ _ (Vd _ _ _)) a1 a2 a3
   have nb2_x:Us kx tb2:=Wn o1 of_x;have nb2_m:Us km tb2:=Wn o1 of_m;have nb2_0:Us k0q1 tb2:=Wn o1 of_0;have nb2_1:Us k1q2 tb2:=Wn o1 of_1;have nb2_6:Us k3q6 tb2:=Wn o1 of_6;have nb2_7:Us k3q7 tb2:=Wn o1 of_7;refine qN ?_;change Awp _ _ _ _ _ _ _;refine awp_rseq [0,5,6,7,9,11,12] (by rfl) fun K hK=>?_;simp+decide only[ev,putD,VM,VO,Ka,true_and,↓qg,qc,↓qF,qY,qh qeh qae,QC wz eb_3q6,qf,VX,Km,Jr,Nat.reduceAdd,qC,qi,qE,allLive,JS,hrvl];refine QR (by rfl) (by rfl) (c_member wz h6 Bc kx km mv mems op st sm rv rec ⟨by omega,c,es,nb,heBc,g3,hsBc⟩ (hms.mono bc_B) hml hmt (hrp.mono bc_E) (fun x hx=>by have:=hrps.1 x hx;omega) (by have:=hrps.2;omega) hm0.2.2.2 g7 g8 hop8 (fun h8=>hrec h8 sm.name.text)) fun x9q2 h9q2 hx9q2=>?_;obtain⟨tb0,st2,bv2,bf,htb0,hxr,rfl,hcase2⟩:=hx9q2;obtain⟨B2,hB2⟩:∃B2,B2=QG Bc tb0:=⟨_,rfl⟩
   rw[<-hB2]at hxr;obtain⟨hfew2,c2,es2,nb2,he2,hop2,hs2⟩:=hxr;have hsB2:Sub Bc B2:=by rw[hB2];exact BH htb0
   have bB2:Sub B B2:=bc_B.trans hsB2;have hs2h:Sub B2 h9q2:=he2.above.trans hs2;have hs_h9q2:Sub B h9q2:=bB2.trans hs2h;have eb_x:h9q2 kx=some ⟨[mv, .map km,QH 1 nb2, .int .i64 st2.copies],0⟩:=hs2 _ _ he2.x;have eb_m:h9q2 km=some (XO c2 (es2.map opC)):=hs2 _ _ he2.m;have eb_0q1:=hs2h _ _ (hsB2 _ _ bc_0);have eb_1q2:=hs2h _ _ (hsB2 _ _ bc_1);have eb_3q6:=hs2h _ _ (hsB2 _ _ bc_6);have eb_3q7:=hs2h _ _ (hsB2 _ _ bc_7);have heB2:ExOk B kx km nb2 st2.names:=he2.down bB2;have hEB9:Sub (Ya B kx km mv c2 es2 nb2 st2.copies) h9q2:=(qdp bB2).trans hs2;have y0:Ya B kx km mv c2 es2 nb2 st2.copies k0q1=none:=he2.off (hsB2 _ _ bc_0) hf_0q1;have y7:Ya B kx km mv c2 es2 nb2 st2.copies k3q7=none:=he2.off (hsB2 _ _ bc_7) hf_3q7;have has9:hasB h9q2 tb2:=bc_tb.mono (hsB2.trans hs2h);have hbv2l:bv2.live=true:=by
    rcases hcase2 with⟨-,-,w3⟩|⟨-,inn,-,w3,-⟩
    ·rw[w3];rfl
    ·exact w3.live
   simp+decide only[ev,putD,VM,VO,Ka,true_and,↓qg,qc,↓QV,QJ,QU,KX,J8,VX,Km,↓qd,qb,VX,Km,Jr,Nat.reduceAdd,Qu];refine qp (by rfl) (by rfl) zqA QI (by rfl) (by rfl) zqD (Js _) (by first|rfl|(simp+decide only[ev,putD,VM,VO,Ka,VV,Qr,JS,Vf,hvs,hrvs,XA,XB,Xh])) ?_;simp only[VV];simp+decide only[qa,ev,putD,VO,VN,Ka,setAt,VW,Ki,Jr,Nat.reduceAdd];apply hK;clear hK K;refine qJ ?_;refine awp_rseq [0,5,6,7,9,11,12,40] (by rfl) fun K hK=>?_;simp+decide only[qa,ev,qI,qG,putD,VM,VO,VN,Ka,true_and,↓qF,qY,qh Xo QI,↓Qo,↓qZ,ZI,evP,Vj,↓qw,ql,qP,cond_false,ZV,qiM,QN,qf,VX,Km,Jr,Nat.reduceAdd,qi,allLive,JS,YY];apply hK;clear hK K;refine qH (b:=_) rfl (fun hb3=>?_) (fun hb3=>?_)
   ·try simp only[decide_eq_false_iff_not,Ji]at hb3
    obtain⟨w1,w2,w3⟩:bf≠okF/\qaA true mems op rec sm st= .bad bf/\bv2= .nilSlice:=by
     rcases hcase2 with z|⟨z,-⟩
     ·exact z
     ·exact absurd z hb3
    rw[w2]at hstp;simp only at hstp;refine Zr 2 [4,5] mixed (by kernel_rfl) (by rfl) (by rfl) fun K hK=>?_;simp+decide only[ev,qI,qG,putD,VM,VO,Ka,true_and,↓qF,qY,qh Xo QI,↓qd,qb,QN,qf,VX,Km,Jr,Nat.reduceAdd,qi,allLive,JS];refine qp (by rfl) (by rfl) zqA QI (by rfl) (by rfl) zqD (Js _) (by first|rfl|(simp+decide only[ev,putD,VM,VO,Ka,VV,Qr,JS,Vf,hvs,hrvs,XA,XB,Xh])) ?_;simp only[VV];simp+decide only[qa,ev,putD,VO,VN,Ka,setAt,VW,Ki,Jr,Nat.reduceAdd];apply hK;clear hK K;refine qL ?_;try simp only[Qg,Qn]
    refine QF (?_) ?_
    ·simp+decide only[QD,qA,qj,VO,Ka,and_true,qA,qj,qh Xo QI,Qa,qf,VX,Km,Jr,Nat.reduceAdd,qi,allLive,JS,qf,VX,Km,Jr,Nat.reduceAdd,qi,allLive,JS]
    simp+decide only[VO,Ka,Xg,qA,qj,qh Xo QI,Qa,qf,VX,Km,Jr,Nat.reduceAdd,qi,allLive,JS,qf,VX,Km,Jr,Nat.reduceAdd,qi,allLive,JS];exact⟨_,Vl _,none,st2, .nilSlice,bf,trivial,⟨hfew2,c2,es2,nb2,heB2,hop2,V3 (V3 hEB9 y7) y0⟩,rfl, .inl ⟨w1,hstp,rfl⟩⟩
   ·try simp only[decide_eq_true_eq,VS]at hb3
    obtain⟨w1,inn,w2,w3,w4,w5,w6⟩:bf=okF/\∃inn,qaA true mems op rec sm st= .ok inn st2/\IsL wz (QG (fun _=>none) tb0) 5 bv2 (inn.map QM)/\inn.length<=200000/\st2.names.length<=st2.copies/\st2.copies<=4096:=by
     rcases hcase2 with⟨z,-⟩|z
     ·exact absurd (by simpa using hb3) z
     ·exact z
    rw[w2]at hstp;simp only at hstp;refine qN ?_;change Awp _ _ _ _ _ _ _;obtain⟨C12,hC12⟩:∃C12,C12=h9q2.set k3q7 ⟨[.int .i64 bf.e, .int .i64 bf.line, .int .i64 bf.col],0⟩:=⟨_,rfl⟩
    refine BG (h':=C12) (by rw[hC12];exact Vl _) ?_;have hs_C12:Sub B C12:=by rw[hC12];exact zqB
    have eb_x:C12 kx=some ⟨[mv, .map km,QH 1 nb2, .int .i64 st2.copies],0⟩:=by rw[hC12];exact zqA
    have eb_m:C12 km=some (XO c2 (es2.map opC)):=by rw[hC12];exact zqA
    have eb_0q1:C12 k0q1=some ⟨[.int .i64 0, .int .i64 0, .int .i64 0],0⟩:=by rw[hC12];exact zqA
    have eb_1q2:C12 k1q2=some ⟨[v, .int .i64 j],0⟩:=by rw[hC12];exact zqA
    have eb_3q6:C12 k3q6=some ⟨[.int .u8 sm.name.kind.toNat, .str sm.name.text, .int .i64 sm.name.line, .int .i64 sm.name.col, .bool sm.name.left,rv],0⟩:=by rw[hC12];exact(Vb _ _ ne_3q7_3q6.symm).trans eb_3q6
    have has12:hasB C12 tb2:=by rw[hC12];exact has9.set nb2_7 _
    obtain⟨p1,p2⟩:=qnS o1 has12;have pf_x:=UO eb_x nb2_x;have pf_m:=UO eb_m nb2_m;have pf_0:=UO eb_0q1 nb2_0;have pf_1:=UO eb_1q2 nb2_1;have pf_6:=UO eb_3q6 nb2_6;have w3':IsL wz C12 5 bv2 (inn.map QM):=w3.mono (fun j d hj=>by
     cases tb0 with
     |none=>cases hj
     |some b=>
      have hjb:j=b.blk:=by
       rcases Nat.decEq j b.blk with e|e
       ·rw[show QG (fun _=>none) (some b)=Bd (fun _=>none) b.blk ⟨b.cells,0⟩from rfl,Vb _ _ e]at hj
        cases hj
       ·exact e
      have h7:j≠k3q7:=fun e=>by
       have:=htb0.1;rw[<-hjb,e,bc_7]at this;cases this
      rw[hC12,Vb _ _ h7];refine hs2h _ _ ?_;rw[hB2];exact Ep (qcY _) _ _ hj)
    refine awp_rseq [0,5,6,7,9] (by rfl) fun K hK=>?_;simp+decide only[ev,putD,VM,VO,Ka,true_and,↓qg,qc];refine XH (es:=5) (zs:=(out++bl).map QM) (xs:=inn.map QM) (hZ:=qbn C12 tb2) (b:=tb2) (by rfl) (by rfl) Tryz.underlying26 Tryz.underlying26 (fun k e=>by cases e) Xb qkZ qaD (by rfl) (by decide) (by rfl) p1 (by rw[o2,Ba]) Xn p2 (by rfl) w3' (by rw[YZ];intro z hz;obtain⟨t,_,rfl⟩:=JG.1 hz;rfl) (by simp;omega) (by simp;omega) fun tb3 h12 o4 o5 o6=>?_;have sub12:Sub (qbn C12 tb2) h12:=(BH o4).trans o6;have hs_h12:Sub B h12:=(qdi hs_C12 (o1.sub of_B)).trans sub12;have eb_x:=sub12 _ _ pf_x;have eb_m:=sub12 _ _ pf_m;have eb_0q1:=sub12 _ _ pf_0;have eb_1q2:=sub12 _ _ pf_1;have eb_3q6:=sub12 _ _ pf_6;have hbl:=QW 5 tb3;have nbl3:=XY (l:=out++bl++inn) (BF (wz:=wz) o4 (by decide) (by rw[o5,Ba (l₁:=out++bl)]) Xn (Vl _));simp+decide only[qa,ev,putD,VM,VO,VN,Ka,true_and,↓qd,qb];apply hK;clear hK K;refine awp_rseq [0,5,6,7,9,47] (by rfl) fun K hK=>?_;simp+decide only[qa,ev,qI,qG,putD,VM,VO,VN,Ka,true_and,↓qg,qc,↓Xc,Qv,↓qw,ql,qy,cond_false,qo,qah,nbl3];apply hK;clear hK K;refine qH (b:=_) rfl (fun hb4=>?_) (fun hb4=>?_)
    ·try simp only[decide_eq_true_eq]at hb4
     rw[<-m6,if_pos (by unfold qdE;rw[Vf,decide_eq_true_eq];omega)]at hstp;refine Zr 5 [4,5] mixed (by kernel_rfl) (by rfl) (by rfl) fun K hK=>?_;simp+decide only[ev,qI,qG,putD,VM,VO,Ka,true_and,↓qB,qm,qmE,qeZ,↓qF,qY,qh qfg qbe,↓Qo,↓qZ,WL,evP,Kc,Vj,↓qd,qb,QC wz eb_3q6,qf,VX,Km,Jr,Nat.reduceAdd,qi,allLive,JS];refine qp (by rfl) (by rfl) zqA QI (by rfl) (by rfl) zqD (Js _) (by first|rfl|(simp+decide only[ev,putD,VM,VO,Ka,VV,Qr,JS,Vf,hvs,hrvs,XA,XB,Xh])) ?_;simp only[VV];simp+decide only[qa,ev,putD,VO,VN,Ka,setAt,VW,Ki,Jr,Nat.reduceAdd];apply hK;clear hK K;refine qL ?_;try simp only[Qg,Qn]
     refine QF (?_) ?_
     ·simp+decide only[QD,qA,qj,VO,Ka,and_true,qA,qj,qh Xo QI,Qa,qf,VX,Km,Jr,Nat.reduceAdd,qi,allLive,JS,qf,VX,Km,Jr,Nat.reduceAdd,qi,allLive,JS]
     simp+decide only[VO,Ka,Xg,qA,qj,qh Xo QI,Qa,qf,VX,Km,Jr,Nat.reduceAdd,qi,allLive,JS,qf,VX,Km,Jr,Nat.reduceAdd,qi,allLive,JS];have hEB12:Sub (Ya B kx km mv c2 es2 nb2 st2.copies) (qbn C12 tb2):=qdi (by rw[hC12];exact V3 hEB9 y7) (qkm o1 fun b e=>he2.off (hsB2 _ _ (bc_tb b e)) (by subst e;exact of_B.none o1.1));exact⟨_,Vl _,none,st2, .nilSlice,⟨3,sm.name.line,sm.name.col⟩,trivial,⟨hfew2,c2,es2,nb2,heB2,hop2,V3 (hEB12.trans sub12) y0⟩,rfl, .inl ⟨fun e=>absurd (congrArg FaultC.e e) (by simp[okF]),hstp,rfl⟩⟩
    ·try simp only[decide_eq_false_iff_not]at hb4
     rw[<-m6,if_neg (by unfold qdE;rw[Vf,decide_eq_true_eq];omega),<-m5]at hstp;refine qN ?_;try simp only[Qf,ZP]
     have hG2:Sub ((B.set k0q1 ⟨[.int .i64 0, .int .i64 0, .int .i64 0],0⟩).set k1q2 ⟨[v, .int .i64 j],0⟩) B2:=qaL (qaL bB2 (hsB2 _ _ bc_0)) (hsB2 _ _ bc_1);have hGC:Sub (Ya ((B.set k0q1 ⟨[.int .i64 0, .int .i64 0, .int .i64 0],0⟩).set k1q2 ⟨[v, .int .i64 j],0⟩) kx km mv c2 es2 nb2 st2.copies) (qbn C12 tb2):=by
      refine qdi (by rw[hC12];exact V3 ((qdp hG2).trans hs2) (he2.off (hsB2 _ _ bc_7) ((Vb _ _ ne_3q7_1q2).trans ((Vb _ _ ne_3q7_0q1).trans hf_3q7)))) (qkm o1 fun b e=>he2.off (hsB2 _ _ (bc_tb b e)) ?_);subst e;exact(Vb _ _ (Ne.symm nb2_1)).trans ((Vb _ _ (Ne.symm nb2_0)).trans (of_B.none o1.1))
     exact⟨⟨j,c2,es2,nb2,st2,tb3,out++bl++inn⟩,rfl,(Ep hGC).trans o6,⟨hj,fun Y=>(he2.down hG2).same (qfp _ _),hop2,fun Y=>qgn (o4.sub hGC) (expH_same (qfp _ _)),by rw[o5,Ba (l₁:=out++bl)],by simp only;omega,w5,w6,hstp.symm⟩,by simp only;omega⟩
end Go.Proofs.YtlhhaagmakhilaaGreatDoor
namespace Go.Proofs.YtlhhaagmakhilaaGreatDoor
open Go.AM
open Go.Proofs
open Go.Col (Str FaultC okF)
open Go.Tok
open Go.Cop
open Go.RowKit (Below)
set_option maxRecDepth 100000
theorem c_list(wz:World)(kx km:Nat)(mv:AVal)(mems:List MemC)(hml:mems.length<=1000000)(hmt:∀m∈mems,m.toks.length<=100000):∀(d:Nat) (op:List Str),8<=d+op.length->RecOk wz kx km mv mems op (qiu true mems d)
 |0,op,hd=>fun h8 h B v l st hx hms hv hl h1 h2=>qrZ wz h B kx km mv mems op st v l (fun _ _ st=> .ok [] st) hx hms hml hmt hv hl h1 h2 h8 (fun hlt=>by omega)
 |d+1,op,hd=>fun h8 h B v l st hx hms hv hl h1 h2=>qrZ wz h B kx km mv mems op st v l (qiu true mems d) hx hms hml hmt hv hl h1 h2 h8 (fun hlt nm=>c_list wz kx km mv mems hml hmt d (op++[nm]) (by rw[Jb,JR];omega))
theorem okCapG{wz:World}{h:AHeap}{es:Nat}{v:AVal}{xs:List (List AVal)}(hes:0<es)(hb:IsL wz h es v xs):(Ym v).okIn (fun k=>(h k).isSome):=by
 cases hb with
 |nil=>simp only[Ym,Bb]
 |mk l o n c xs hn hw hc hl hcap=>
  cases l with
  |base b=>simp only[Ym,Bb]
  |own k=>
   simp only[Ym,Bb];intro h0;cases hk:h k with
   |some b=>rfl
   |none=>
    obtain⟨m,rfl⟩:∃m,n=m+1:=⟨n-1,by omega⟩
    obtain⟨e,rfl⟩:∃e,es=e+1:=⟨es-1,by omega⟩
    rw[show(m+1)*(e+1)=(m*(e+1)+e)+1 by rw[Nat.succ_mul];omega,qf]at hc;rw[<-hc]at hl;simp[allLive,rd,hk,AVal.live]at hl
theorem qcZ{H:AHeap}{tb:Option Buf}(hh:hasB H tb):Sub (QG (fun _=>none) tb) H:=fun j d hj=>by
 cases tb with
 |none=>cases hj
 |some b=>
  rcases Nat.decEq j b.blk with e|e
  ·rw[show QG (fun _=>none) (some b)=Bd (fun _=>none) b.blk ⟨b.cells,0⟩from rfl,Vb _ _ e]at hj
   cases hj
  ·subst e
   rw[show QG (fun _=>none) (some b)=Bd (fun _=>none) b.blk ⟨b.cells,0⟩from rfl,Vd]at hj;rw[<-hj];exact hh b rfl
theorem qaz{wz:World}{h:AHeap}{v:AVal}{l:List Str}(hv:IsL wz h 1 v (l.map qaj)):∀H:AHeap,Yr Tryz.prog H 30 v=⟨True, .int .i64 l.length⟩:=by
 have:=hv.len Tryz.underlying30
 rwa [Jo]at this
theorem qsa(wz:World)(h:AHeap)(v:AVal)(l:List Str)(hv:IsL wz h 1 v (l.map qaj)):ACall Tryz.prog wz 34 [v] h (fun r h'=>r=Ym v/\h'=h):=by
 have hlen:=qaz hv;have h3:=hv.slice3 Tryz.underlying30 sz9 .i64 .i64 none rfl;rw[Jo]at h3;have hlv:=hv.live;refine qW (n:=9) (rs:=[.tmp 2]) Tryz.func34 rfl rfl rfl rfl (VL rfl) ?_;simp only[Qe];refine awp_rseq [0] (by rfl) fun K hK=>?_;simp+decide only[qa,ev,qI,qG,putD,VM,VN,Ka,true_and,↓qd,qb];apply hK;clear hK K;refine awp_rseq [2] (by rfl) fun K hK=>?_;simp+decide only[qa,ev,putD,VM,VO,VN,Ka,true_and,↓qg,qc,↓Xc,Qv,↓Wp,ZA,evO,↓qd,qb,hlen,h3];apply hK;clear hK K;refine qL ?_;refine Qb _ (Vl _) (qR (Qc)) ?_;simp+decide only[VO,if_true,and_true,Qs];all_goals first|rfl|exact⟨rfl,rfl⟩|(simp+decide only[Ka, *];done)|(trace_state;fail)
def ExpandR(wz:World)(h:AHeap)(x:Xr)(r:AVal)(h':AHeap):Prop:=
 ∃(ov nv:AVal) (f:FaultC),r= .tuple [ov,nv,Qu f]/\Sub h h'/\Ym ov=ov/\Ym nv=nv/\((f≠okF/\x= .bad f/\ov= .nilSlice/\nv= .nilSlice)\/(f=okF/\∃out st,x= .ok out st/\IsL wz h' 5 ov (out.map QM)/\IsL wz h' 1 nv (st.names.map qaj)/\out.length<=200000/\st.names.length<=4096))
set_option maxHeartbeats 2000000 in
theorem qhy(wz:World)(h:AHeap)(lv mv:AVal)(l:List TokC)(mems:List MemC)(hlv:IsL wz h 5 lv (l.map QM))(hms:IsMems wz h mv mems)(hl:l.length<=100000)(hml:mems.length<=1000000)(hmt:∀m∈mems,m.toks.length<=100000):
 ACall Tryz.prog wz 13 [lv,mv] h (ExpandR wz h (qac true l mems)):=by
 have hll:=hlv.live;obtain⟨qs,hqs,hq2,hq3⟩:=hms;have hmvs:=hq2.scal;have hmvl:=ZU hmvs;have hSm:Sc mv=True:=eq_true (qpC hq2);have hSk:∀k,Sc (.map k)=True:=fun k=>eq_true trivial;have hbvl:(AVal.bool true).live=true:=rfl;have hbnl:(AVal.bool true).live=true:=rfl;have hccl:∀v:AVal,v.live=true->(Ym v).live=true:=fun v hv=>by cases v<;>exact hv
 have hc1:(AVal.bool true).live=true:=rfl;have hc2:(AVal.bool true).live=true:=rfl;obtain⟨X,hX⟩:∃X,X=qac true l mems:=⟨_,rfl⟩
 rw[<-hX];refine qW (n:=28) (rs:=[.tmp 4, .tmp 5, .cell 6 35]) Tryz.func13 rfl rfl rfl rfl (VL rfl) ?_;simp only[Qe];refine awp_rseq [0,1,6] (by rfl) fun K hK=>?_;simp+decide only[ev,qI,qG,putD,VM,if_false,true_and,↓qd,qb,Jr];refine Qi qap (cs:=[.int .i64 0, .int .i64 0, .int .i64 0]) (by rfl) fun k0q2 hk0q2=>?_;try have hf_0q2:h k0q2=none:=by first|assumption|(simp only[V7]at hk0q2;simp only[hk0q2])
 simp+decide only[qa,putD,VM,VN,Ka];apply hK;clear hK K;refine awp_rseq [0,6,7] (by rfl) fun K hK=>?_;simp+decide only[ev,putD,VM,VO,Ka,true_and,↓qg,qc];refine qni fun k1q1 hk1q1=>?_;have ne_1q1_0q2:k1q1≠k0q2:=by simp only[V7]at hk1q1;simp only[hk1q1,ne_eq,not_false_eq_true]
 try have hf_1q1:h k1q1=none:=by first|assumption|(simp only[V7]at hk1q1;simp only[hk1q1])
 simp+decide only[ev,qI,qG,putD,VM,VO,Ka,true_and,↓Qo,↓qZ,bld76_0_1,evP,Kc,Vj,hSm,hSk];refine Qi ze76 (cs:=[.nilSlice, .nilMap, .nilSlice, .int .i64 0]) (by rfl) fun k1q3 hk1q3=>?_;have ne_1q3_0q2:k1q3≠k0q2:=by simp only[V7]at hk1q3;simp only[hk1q3,ne_eq,not_false_eq_true]
 have ne_1q3_1q1:k1q3≠k1q1:=by simp only[V7]at hk1q3;simp only[hk1q3,ne_eq,not_false_eq_true]
 try have hf_1q3:h k1q3=none:=by first|assumption|(simp only[V7]at hk1q3;simp only[hk1q3])
 refine qp (by rfl) (by rfl) zqA sz76 (by rfl) (by rfl) zqD (Js _) (by first|rfl|(simp+decide only[ev,putD,VM,VO,Ka,VV,Qr,JS,Vf,hmvs,XA,qmh])) ?_;simp only[Vh,VV];simp+decide only[qa,ev,putD,VM,VO,VN,Ka,setAt,VW,Ki,Jr,Nat.reduceAdd];apply hK;clear hK K;obtain⟨B,hB⟩:∃B,B=h.set k0q2 ⟨[.int .i64 0, .int .i64 0, .int .i64 0],0⟩:=⟨_,rfl⟩
 have hs_hB:Sub h B:=by rw[hB];exact Vg hf_0q2
 have b_m:B k1q1=none:=by rw[hB];exact(Vb _ _ ne_1q1_0q2).trans hf_1q1
 have b_x:B k1q3=none:=by rw[hB];exact(Vb _ _ ne_1q3_0q2).trans hf_1q3
 have b_0:B k0q2=some ⟨[.int .i64 0, .int .i64 0, .int .i64 0],0⟩:=by rw[hB];exact Vd _ _ _
 have heB:ExOk B k1q3 k1q1 none []:=⟨b_m,b_x,ne_1q3_1q1.symm,fun M=>⟨(Vb _ _ ne_1q3_1q1).trans b_x,fun _=>trivial,rfl⟩⟩
 rw[<-hB];have hlist:=c_list wz k1q3 k1q1 mv mems hml hmt 8 [] (by simp) (by simp);refine awp_rseq [6,7,8,9] (by rfl) fun K hK=>?_;simp+decide only[ev,putD,VM,VO,Ka,true_and,↓qg,qc];refine QR (by rfl) (by rfl) (hlist _ B lv l ⟨[],0⟩ ⟨Js _,0,[],none,heB,rfl,Vl _⟩ ⟨qs,hqs,hq2.mono hs_hB,fun q hq=>(hq3 q hq).mono hs_hB⟩ (hlv.mono hs_hB) hl (KJ _) (by decide)) fun x2q1 h2q1 hx2q1=>?_;obtain⟨tb,st,bv,bf,htb,⟨hfew,c2,es2,nb,he2,hop2,hs2⟩,rfl,hcase⟩:=hx2q1;rw[show qiu true mems 8 l [] ⟨[],0⟩=X from hX.symm]at hcase;have hs2h:Sub (QG B tb) h2q1:=he2.above.trans hs2;have hs_h2q1:Sub h h2q1:=(hs_hB.trans (BH htb)).trans hs2h;have eb_1q3:h2q1 k1q3=some ⟨[mv, .map k1q1,QH 1 nb, .int .i64 st.copies],0⟩:=hs2 _ _ he2.x;have eb_0q2:h2q1 k0q2=some ⟨[.int .i64 0, .int .i64 0, .int .i64 0],0⟩:=hs2h _ _ (ZE htb b_0);have hbvl:bv.live=true:=by
  rcases hcase with⟨-,-,w3⟩|⟨-,inn,-,w3,-⟩
  ·rw[w3];rfl
  ·exact w3.live
 have hbnl:=QW 1 nb;have hc1:=hccl bv hbvl;have hc2:=hccl _ hbnl;simp+decide only[ev,putD,VM,VO,Ka,true_and,↓qg,qc,↓QV,QJ,QU,KX,J8,VX,Km,VX,Km,Jr,Nat.reduceAdd,Qu];refine Qi qap (cs:=[.int .i64 0, .int .i64 0, .int .i64 0]) (by rfl) fun k2q5 hk2q5=>?_;have hn_2q5:h2q1 k2q5=none:=by first|assumption|(simp only[V7]at hk2q5;simp only[hk2q5])
 have hf_2q5:h k2q5=none:=Bg hs_h2q1 hn_2q5;have ne_2q5_1q3:k2q5≠k1q3:=Bh hn_2q5 eb_1q3;have ne_2q5_0q2:k2q5≠k0q2:=Bh hn_2q5 eb_0q2;simp+decide only[ev,putD,VM,VO,Ka,true_and,↓qd,qb];refine qp (by rfl) (by rfl) zqA QI (by rfl) (by rfl) zqD (Js _) (by first|rfl|(simp+decide only[ev,putD,VM,VO,Ka,VV,Qr,JS,Vf,hmvs,XA,XB,Xh,qmh])) ?_;simp only[Vh,VV];simp+decide only[qa,ev,putD,VO,VN,Ka,setAt,VW,Ki,Jr,Nat.reduceAdd];apply hK;clear hK K;refine qJ ?_;refine awp_rseq [6,7,8,9,20] (by rfl) fun K hK=>?_;simp+decide only[qa,ev,qI,qG,putD,VM,VO,VN,Ka,true_and,↓qF,qY,qh Xo QI,↓Qo,↓qZ,ZI,evP,Vj,↓qw,ql,qP,cond_false,ZV,qiM,QN,qf,VX,Km,Jr,Nat.reduceAdd,qi,allLive,JS,YY];apply hK;clear hK K;refine qH (b:=_) rfl (fun hb1=>?_) (fun hb1=>?_)
 ·try simp only[decide_eq_false_iff_not,Ji]at hb1
  have hXb:X= .bad bf:=by
   rcases hcase with⟨-,z,-⟩|⟨z,-⟩
   ·exact z
   ·exact absurd z hb1
  refine Zr 3 [4,5,6] mixed (by kernel_rfl) (by rfl) (by rfl) fun K hK=>?_;simp+decide only[ev,qI,qG,putD,VM,VO,Ka,true_and,↓qF,qY,qh Xo QI,↓qd,qb,QN,qf,VX,Km,Jr,Nat.reduceAdd,qi,allLive,JS];refine qp (by rfl) (by rfl) zqA QI (by rfl) (by rfl) zqD (Js _) (by first|rfl|(simp+decide only[ev,putD,VM,VO,Ka,VV,Qr,JS,Vf,hmvs,XA,XB,Xh,qmh])) ?_;simp only[VV];simp+decide only[qa,ev,putD,VO,VN,Ka,setAt,VW,Ki,Jr,Nat.reduceAdd];apply hK;clear hK K;refine qL ?_;try simp only[Qg]
  refine QF (?_) ?_
  ·simp+decide only[QD,qA,qj,VO,Ka,and_true,qA,qj,qh Xo QI,Qa,qf,VX,Km,Jr,Nat.reduceAdd,qi,allLive,JS,qf,VX,Km,Jr,Nat.reduceAdd,qi,allLive,JS]
  simp+decide only[VO,Ka,QP,qA,qj,qh Xo QI,Qa,qf,VX,Km,Jr,Nat.reduceAdd,qi,allLive,JS,qf,VX,Km,Jr,Nat.reduceAdd,qi,allLive,JS];exact⟨_,Vl _, .nilSlice, .nilSlice,bf,rfl,zqB,rfl,rfl, .inl ⟨hb1,hXb,rfl,rfl⟩⟩
 ·try simp only[decide_eq_true_eq,VS]at hb1
  obtain⟨hf0,inn,w2,w3,w4,w5,w6⟩:bf=okF/\∃inn,X= .ok inn st/\IsL wz (QG (fun _=>none) tb) 5 bv (inn.map QM)/\inn.length<=200000/\st.names.length<=st.copies/\st.copies<=4096:=by
   rcases hcase with⟨z,-⟩|z
   ·exact absurd (by simpa using hb1) z
   ·exact z
  have hasT:hasB h2q1 tb:=(qdn B tb).mono hs2h;have hasN:hasB h2q1 nb:=(qdn _ nb).mono hs2;have nT:Us k0q2 tb:=Wn htb b_0;have nN:Us k0q2 nb:=(qeM he2 (ZE htb b_0)).2.2;have hun:=he2.use ⟨[],0⟩;have w7:IsL wz (QG (fun _=>none) nb) 1 (QH 1 nb) (st.names.map qaj):=BF ((hun.ok ⟨[],0⟩).sub (qcY _)) (by decide) hun.eq qaR (Vl _);have w3h:=w3.mono (qcZ hasT);have w7h:=w7.mono (qcZ hasN);refine qN ?_;change Awp _ _ _ _ _ _ _;obtain⟨C5,hC5⟩:∃C5,C5=h2q1.set k2q5 ⟨[.int .i64 bf.e, .int .i64 bf.line, .int .i64 bf.col],0⟩:=⟨_,rfl⟩
  refine BG (h':=C5) (by rw[hC5];exact Vl _) ?_;have hs_C5:Sub h C5:=by rw[hC5];exact zqB
  have eb_1q3:C5 k1q3=some ⟨[mv, .map k1q1,QH 1 nb, .int .i64 st.copies],0⟩:=by rw[hC5];exact zqA
  have eb_0q2:C5 k0q2=some ⟨[.int .i64 0, .int .i64 0, .int .i64 0],0⟩:=by rw[hC5];exact zqA
  have hs25:Sub h2q1 C5:=by rw[hC5];exact Vg hn_2q5
  have hok1:(Ym bv).okIn (fun k=>(C5 k).isSome):=okCapG (by decide) (w3h.mono hs25);have hok2:(Ym (QH 1 nb)).okIn (fun k=>(C5 k).isSome):=okCapG (by decide) (w7h.mono hs25);refine YS 8 [] [4,5,6] mixed (by kernel_rfl) (by rfl) fun K hK=>?_;simp only[Kh,V6,VB,KP];simp+decide only[ev,putD,VM,VO,Ka,true_and,↓XR,qc];refine Xt (V:=Ym bv) (by rfl) (by rfl) (by first|trivial|(simp+decide only[Bb,XF,and_true,true_and,Qu,Wz,Vd,JJ];done)|(simp[Bb,XF,Bd];done)) (fun g hg=>qmU wz _ _ (inn.map QM) (w3h.mono (BJ hs25 hg))) ?_;simp+decide only[ev,putD,VM,VO,Ka,true_and,↓ZR,qm,qjZ,↓ZG,XM,qz ag30,QC wz eb_1q3,VX,Km,Jr,hbnl];refine Xt (V:=Ym (QH 1 nb)) (by rfl) (by rfl) (by first|trivial|(simp+decide only[Bb,XF,and_true,true_and,Qu,Wz,Vd,JJ];done)|(simp[Bb,XF,Bd];done)) (fun g hg=>qsa wz _ _ st.names (w7h.mono (BJ hs25 hg))) ?_;simp+decide only[Yz,ev,qI,qG,putD,VM,VO,Ka,true_and,↓UH,↓qZ,ZI,evP,Vj,↓qbK,qb];refine qp (by rfl) (by rfl) zqA QI (by rfl) (by rfl) zqD (Js _) (by first|rfl|(simp+decide only[ev,putD,VM,VO,Ka,VV,Qr,JS,Vf,hmvs,XA,XB,Xh,qmh])) ?_;simp only[VV];simp+decide only[qa,ev,putD,VO,VN,Ka,setAt,VW,Ki,Jr,Nat.reduceAdd];apply hK;clear hK K;refine qL ?_;refine QF (?_) ?_
  ·simp+decide only[QD,qA,qj,VO,Ka,and_true,qA,qj,qh Xo QI,Qa,qf,VX,Km,Jr,Nat.reduceAdd,qi,allLive,JS,qf,VX,Km,Jr,Nat.reduceAdd,qi,allLive,JS]
  simp+decide only[VO,Ka,QP,qA,qj,qh Xo QI,Qa,qf,VX,Km,Jr,Nat.reduceAdd,qi,allLive,JS,qf,VX,Km,Jr,Nat.reduceAdd,qi,allLive,JS];refine⟨_,Vl _,Ym bv,Ym (QH 1 nb),okF,rfl,zqB,qee _,qee _, .inr ⟨rfl,inn,st,w2,?_,?_,w4,by omega⟩⟩
  ·exact(w3.mono (qcZ ((hasT.mono hs25).set nT _))).clip
  ·exact(w7.mono (qcZ ((hasN.mono hs25).set nN _))).clip
end Go.Proofs.YtlhhaagmakhilaaGreatDoor
namespace Go.Proofs.YtlhhaagmakhilaaGreatDoor
open Go.AM
open Go.Proofs
open Go.Col (Str FaultC okF)
open Go.Tok
open Go.Cop
open Go.RowKit (Below)
set_option maxRecDepth 100000
theorem qii{l:List TokC}:∀(f g i:Nat) (ns:List Str),i<=l.length->l.length<f+i->l.length<g+i->qas l f i ns=qas l g i ns
 |0,g,i,ns,hi,h1,_=>by omega
 |f+1,0,i,ns,hi,_,h2=>by omega
 |f+1,g+1,i,ns,hi,h1,h2=>by
  rw[qas,qas];simp only;split
  ·rfl
  ·rename_i hc
   have hcl:=qbM hi;obtain⟨s1,s2,s3,s4⟩:=We (l:=l) (i:=Xy l i+1) (by omega);split
   ·rfl
   ·rename_i hok
    have h3:=s3 (by simpa using hok);exact qii f g _ _ s2 (by omega) (by omega)
def qih(l:List TokC)(i:Nat)(ns:List Str):List Str×FaultC:=qas l (l.length+1-i) i ns
theorem qbR{l:List TokC}{i:Nat}(hi:i<=l.length)(ns:List Str):qih l i ns=
 if l.length<=Xy l i then(ns,okF)
 else if (QL l (Xy l i+1)).ok=false then([],Ut l (Xy l i) (QL l (Xy l i+1)).at_)
 else qih l (QL l (Xy l i+1)).at_ (Cop.addE ns (QL l (Xy l i+1)).name.text):=by
 unfold qih;rw[show l.length+1-i=(l.length-i)+1 by omega,qas];simp only;split
 ·rfl
 ·rename_i hc
  have hcl:=qbM hi;obtain⟨s1,s2,s3,s4⟩:=We (l:=l) (i:=Xy l i+1) (by omega);split
  ·rfl
  ·rename_i hok
   have h3:=s3 (by simpa using hok);exact qii _ _ _ _ s2 (by omega) (by omega)
theorem sub_use{G h:AHeap}{kx:Nat}{mv mo:AVal}{nb:Option Buf}{cp:Int}(hs:Sub G h)(hx:h kx=some ⟨[mv,mo,QH 1 nb, .int .i64 cp],0⟩)(hn:hasB h nb):Sub (qat G kx mv mo nb cp) h:=by
 have h1:=qaL hs hx;unfold qat;cases nb with
 |none=>exact h1
 |some b=>exact qaL h1 (hn b rfl)
structure UsG where
 i:Nat
 nb:Option Buf
 ns:List Str
structure UsOk(h:AHeap)(k0 k1 kx:Nat)(l:List TokC)(X:List Str×FaultC)(s:UsG):Prop where
 i:s.i<=l.length
 ok:∀Y,UseOk ((h.set k0 ⟨[.int .i64 0, .int .i64 0, .int .i64 0],0⟩).set k1 Y) kx s.nb s.ns
 few:s.ns.length<=s.i
 go:qih l s.i s.ns=X
theorem UseOk.same{G G':AHeap}{kx:Nat}{nb:Option Buf}{ns:List Str}(hu:UseOk G kx nb ns)(hn:∀j,G j=none->G' j=none):UseOk G' kx nb ns:=⟨hn _ hu.bx,fun X=>qgn (hu.ok X) (Wu hn kx X),hu.eq⟩
set_option maxHeartbeats 2000000 in
theorem c_Uses(wz:World)(h:AHeap)(v:AVal)(l:List TokC)(hv:IsL wz h 5 v (l.map QM))(hl:l.length<=100000):
 ACall Tryz.prog wz 21 [v] h (fun r h'=>∃nv,r= .tuple [nv,Qu (ZJ l).2]/\Sub h h'/\Ym nv=nv/\IsL wz h' 1 nv ((ZJ l).1.map qaj)):=by
 have hlv:=hv.live;have hvs:=hv.scal;have hSv:Sc v=True:=eq_true (qpC hv);have nv:=XY hv;obtain⟨X,hX⟩:∃X,X=ZJ l:=⟨_,rfl⟩
 have hX0:qih l 0 []=X:=hX.symm;rw[<-hX];have hrvs:(AVal.bool true).scal=true:=rfl;have hrvl:(AVal.bool true).live=true:=rfl;have hbn:=QW 1 none;have hccl:∀v:AVal,v.live=true->(Ym v).live=true:=fun v hv=>by cases v<;>exact hv
 have hc2:=hccl _ hbn;refine qW (n:=32) (rs:=[.tmp 2, .cell 3 35]) Tryz.func21 rfl rfl rfl rfl (VL rfl) ?_;simp only[Qe];refine awp_rseq [0,3] (by rfl) fun K hK=>?_;simp+decide only[ev,qI,qG,putD,VM,if_false,true_and,↓qd,qb];refine Qi qap (cs:=[.int .i64 0, .int .i64 0, .int .i64 0]) (by rfl) fun k0q1 hk0q1=>?_;try have hf_0q1:h k0q1=none:=by first|assumption|(simp only[V7]at hk0q1;simp only[hk0q1])
 simp+decide only[qa,putD,VM,VN,Ka];apply hK;clear hK K;refine awp_rseq [3,4] (by rfl) fun K hK=>?_;simp+decide only[ev,qI,qG,putD,VM,VO,Ka,true_and,↓qg,qc,↓Qo,↓qZ,qsc,evP,Kc,Vj,hSv];refine Qi ze89 (cs:=[.nilSlice, .int .i64 0]) (by rfl) fun k1q2 hk1q2=>?_;have ne_1q2_0q1:k1q2≠k0q1:=by simp only[V7]at hk1q2;simp only[hk1q2,ne_eq,not_false_eq_true]
 try have hf_1q2:h k1q2=none:=by first|assumption|(simp only[V7]at hk1q2;simp only[hk1q2])
 refine qp (by rfl) (by rfl) zqA sz89 (by rfl) (by rfl) zqD (Js _) (by first|rfl|(simp+decide only[ev,putD,VM,VO,Ka,VV,Qr,JS,hvs,XA])) ?_;simp only[Vh,VV];simp+decide only[qa,ev,putD,VM,VO,VN,Ka,setAt,VW,Ki,Jr];apply hK;clear hK K;refine awp_rseq [3,4,5] (by rfl) fun K hK=>?_;refine Qi ze76 (cs:=[.nilSlice, .nilMap, .nilSlice, .int .i64 0]) (by rfl) fun k2q0 hk2q0=>?_;have ne_2q0_0q1:k2q0≠k0q1:=by simp only[V7]at hk2q0;simp only[hk2q0,ne_eq,not_false_eq_true]
 have ne_2q0_1q2:k2q0≠k1q2:=by simp only[V7]at hk2q0;simp only[hk2q0,ne_eq,not_false_eq_true]
 try have hf_2q0:h k2q0=none:=by first|assumption|(simp only[V7]at hk2q0;simp only[hk2q0])
 simp+decide only[qa,putD,VM,VN,Ka];apply hK;clear hK K;refine Qj ?_;refine Xj [3,4,5] (fun s:UsG=>[(3, .ptr (.own k0q1) 0),(4, .ptr (.own k1q2) 0),(5, .ptr (.own k2q0) 0)]) (fun s:UsG=>qat ((h.set k0q1 ⟨[.int .i64 0, .int .i64 0, .int .i64 0],0⟩).set k1q2 ⟨[v, .int .i64 s.i],0⟩) k2q0 .nilSlice .nilMap s.nb 0) (fun s:UsG=>UsOk h k0q1 k1q2 k2q0 l X s) (fun s:UsG=>l.length-s.i) ⟨0,none,[]⟩ (by rfl) (Vl _) ⟨Js _,fun Y=>⟨(Vb _ _ ne_2q0_1q2).trans ((Vb _ _ ne_2q0_0q1).trans hf_2q0),fun _=>trivial,rfl⟩,KJ _,hX0⟩ ?_;rintro⟨i,nb,ns⟩ ⟨g1,g2,g3,g4⟩;simp only at g1 g2 g3 g4|-
 have g2i:=g2 ⟨[v, .int .i64 i],0⟩;obtain⟨G,hG⟩:∃G,G=(h.set k0q1 ⟨[.int .i64 0, .int .i64 0, .int .i64 0],0⟩).set k1q2 ⟨[v, .int .i64 i],0⟩:=⟨_,rfl⟩
 rw[<-hG]at g2i|-
 have hBG:Sub h G:=by rw[hG];exact zqB
 have gb_0:G k0q1=some ⟨[.int .i64 0, .int .i64 0, .int .i64 0],0⟩:=by rw[hG];exact zqA
 have gb_1:G k1q2=some ⟨[v, .int .i64 i],0⟩:=by rw[hG];exact Vd _ _ _
 obtain⟨H1,hH1⟩:∃H1,H1=qat G k2q0 .nilSlice .nilMap nb 0:=⟨_,rfl⟩
 have hGH:Sub G H1:=by rw[hH1];exact g2i.above
 have hs_H1:Sub h H1:=hBG.trans hGH;have eb_2q0:H1 k2q0=some ⟨[.nilSlice, .nilMap,QH 1 nb, .int .i64 0],0⟩:=by rw[hH1];exact g2i.at
 have eb_0q1:H1 k0q1=some ⟨[.int .i64 0, .int .i64 0, .int .i64 0],0⟩:=hGH _ _ gb_0;have eb_1q2:H1 k1q2=some ⟨[v, .int .i64 i],0⟩:=hGH _ _ gb_1;have hbn:=QW 1 nb;have hc2:=hccl _ hbn;have hstp:=qbR g1 ns;rw[g4]at hstp;rw[<-hH1];refine Qj ?_;refine awp_rseq [3,4,5,7,8,9] (by rfl) fun K hK=>?_;refine QR (by rfl) (by rfl) (qrY wz H1 h k1q2 v l i eb_1q2 hs_H1 hf_1q2 hv (by omega) g1) fun x3q0 h3q0 hx3q0=>?_;obtain⟨hsub3,j,eb_1q2,hj,hcase⟩:=hx3q0;have hcl:=qbM g1;have hstm:Xy l i<l.length->_:=fun hc=>We (l:=l) (i:=Xy l i+1) (by omega);obtain⟨ci,hci⟩:∃ci,ci=Xy l i:=⟨_,rfl⟩
 rw[<-hci]at hcase hcl hstm hstp;obtain⟨sm,hsm⟩:∃sm,sm=QL l (ci+1):=⟨_,rfl⟩
 rw[<-hsm]at hcase hstm hstp;obtain⟨bv,t,rv,more,f,rfl,hrvs,hcase⟩:∃bv t rv more f,x3q0=qgP bv t rv more f/\rv.scal=true/\
  ((f≠okF/\X=([],f))\/(f=okF/\more=false/\X=(ns,okF))\/(f=okF/\more=true/\ci<l.length/\sm.ok=true/\t=sm.name/\j=sm.at_)):=by
  rcases hcase with⟨z1,bv,rfl,z2⟩|⟨z1,z2,rfl⟩|⟨z1,z2,z3,bv,rv,E,rfl,z4,z5,z6,z7⟩
  ·rw[if_pos z1]at hstp
   exact⟨bv,_,_,_,_,rfl,rfl, .inr (.inl ⟨rfl,rfl,hstp⟩)⟩
  ·rw[if_neg (by omega),if_pos z2]at hstp
   exact⟨.nilSlice,_,_,_,_,rfl,rfl, .inl ⟨qgg _ _ _,hstp⟩⟩
  ·exact⟨bv,_,rv,_,_,rfl,(by obtain⟨qs,-,q2,-⟩:=z7;exact q2.scal), .inr (.inr ⟨rfl,rfl,z1,z2,rfl,z3⟩)⟩
 have hrvl:=ZU hrvs;have hd:∀k d,H1 k=some d->k≠k1q2->h3q0 k=some d:=fun k d hk hn=>hsub3 k d (by simp only[Vk,hn,if_false];exact hk);have eb_2q0:h3q0 k2q0=some ⟨[.nilSlice, .nilMap,QH 1 nb, .int .i64 0],0⟩:=hd _ _ eb_2q0 ne_2q0_1q2;have eb_0q1:h3q0 k0q1=some ⟨[.int .i64 0, .int .i64 0, .int .i64 0],0⟩:=hd _ _ eb_0q1 ne_1q2_0q1.symm;have hs_h3q0:Sub h h3q0:=(qbv hs_H1 hf_1q2).trans hsub3;have hasN:hasB h3q0 nb:=fun b e=>hd _ _ (by rw[hH1];exact qdn _ nb b e) (by
  subst e;have h1:(G.set k2q0 ⟨[],0⟩) b.blk=none:=(g2i.ok ⟨[],0⟩).1;intro z;rw[z,Vb _ _ ne_2q0_1q2.symm,gb_1]at h1;cases h1)
 unfold qgP qkP;simp+decide only[ev,putD,VM,VO,Ka,true_and,↓qg,qc,↓QV,QJ,QU,KX,J8,VX,Km,VX,Km,Jr,Nat.reduceAdd,Qu];refine Qi qsi (cs:=[.int .u8 0, .str [], .int .i64 0, .int .i64 0, .bool false, .nilSlice]) (by rfl) fun k3q6 hk3q6=>?_;have hn_3q6:h3q0 k3q6=none:=by first|assumption|(simp only[V7]at hk3q6;simp only[hk3q6])
 have hf_3q6:h k3q6=none:=Bg hs_h3q0 hn_3q6;have ne_3q6_2q0:k3q6≠k2q0:=Bh hn_3q6 eb_2q0;have ne_3q6_0q1:k3q6≠k0q1:=Bh hn_3q6 eb_0q1;have ne_3q6_1q2:k3q6≠k1q2:=Bh hn_3q6 eb_1q2;refine Qi qap (cs:=[.int .i64 0, .int .i64 0, .int .i64 0]) (by rfl) fun k3q7 hk3q7=>?_;have ne_3q7_3q6:k3q7≠k3q6:=by simp only[V7]at hk3q7;simp only[hk3q7,ne_eq,not_false_eq_true]
 have hn_3q7:h3q0 k3q7=none:=by first|assumption|(simp only[V7]at hk3q7;simp only[hk3q7])
 have hf_3q7:h k3q7=none:=Bg hs_h3q0 hn_3q7;have ne_3q7_2q0:k3q7≠k2q0:=Bh hn_3q7 eb_2q0;have ne_3q7_0q1:k3q7≠k0q1:=Bh hn_3q7 eb_0q1;have ne_3q7_1q2:k3q7≠k1q2:=Bh hn_3q7 eb_1q2;simp+decide only[ev,putD,VM,VO,Ka,true_and,↓qd,qb];refine qp (by rfl) (by rfl) zqA qae (by rfl) (by rfl) zqD (Js _) (by first|rfl|(simp+decide only[ev,VO,Ka,VV,Qr,JS,hrvs,XA,XB,Xh])) ?_;simp only[VV];simp+decide only[ev,putD,VM,VO,Ka,true_and,↓qd,qb,setAt,VW,Ki,Jr,Nat.reduceAdd];refine qp (by rfl) (by rfl) zqA QI (by rfl) (by rfl) zqD (Js _) (by first|rfl|(simp+decide only[ev,putD,VM,VO,Ka,VV,Qr,JS,Vf,hvs,hrvs,XA,XB,Xh])) ?_;simp only[VV];simp+decide only[qa,ev,putD,VO,VN,Ka,setAt,VW,Ki,Jr,Nat.reduceAdd];apply hK;clear hK K;refine qJ ?_;obtain⟨C4,hC4⟩:∃C4,C4=(h3q0.set k3q6 ⟨[.int .u8 t.kind.toNat, .str t.text, .int .i64 t.line, .int .i64 t.col, .bool t.left,rv],0⟩).set k3q7 ⟨[.int .i64 f.e, .int .i64 f.line, .int .i64 f.col],0⟩:=⟨_,rfl⟩
 refine BG (h':=C4) (by rw[hC4];exact V9 (V9 (V3 (Vg hn_3q6) hn_3q7) _ _) _ _) ?_;have h34:Sub h3q0 C4:=by rw[hC4];exact V3 (Vg hn_3q6) hn_3q7
 have hs_C4:Sub h C4:=hs_h3q0.trans h34;have eb_2q0:=h34 _ _ eb_2q0;have eb_0q1:=h34 _ _ eb_0q1;have eb_1q2:=h34 _ _ eb_1q2;have eb_3q6:C4 k3q6=some ⟨[.int .u8 t.kind.toNat, .str t.text, .int .i64 t.line, .int .i64 t.col, .bool t.left,rv],0⟩:=by rw[hC4];exact zqA
 have eb_3q7:C4 k3q7=some ⟨[.int .i64 f.e, .int .i64 f.line, .int .i64 f.col],0⟩:=by rw[hC4];exact Vd _ _ _
 have w7:IsL wz (QG (fun _=>none) nb) 1 (QH 1 nb) (ns.map qaj):=BF ((g2i.ok ⟨[],0⟩).sub (qcY _)) (by decide) g2i.eq qaR (Vl _);have nN:Us k0q1 nb:=Wn (g2i.ok ⟨[],0⟩) ((Vb _ _ ne_2q0_0q1.symm).trans gb_0);refine awp_rseq [3,4,5,7,8,9,20] (by rfl) fun K hK=>?_;simp+decide only[qa,ev,qI,qG,putD,VM,VO,VN,Ka,true_and,↓qF,qY,qh Xo QI,↓Qo,↓qZ,ZI,evP,Vj,↓qw,ql,qP,cond_false,ZV,qiM,QC wz eb_3q7,qf,VX,Km,Jr,Nat.reduceAdd,qi,allLive,JS,YY];apply hK;clear hK K;refine qH (b:=_) rfl (fun hb1=>?_) (fun hb1=>?_)
 ·try simp only[decide_eq_false_iff_not,Ji]at hb1
  have hXb:X=([],f):=by
   rcases hcase with⟨-,z⟩|⟨z,-⟩|⟨z,-⟩
   ·exact z
   ·exact absurd z hb1
   ·exact absurd z hb1
  refine Zr 2 [2,3] mixed (by kernel_rfl) (by rfl) (by rfl) fun K hK=>?_;simp+decide only[ev,qI,qG,putD,VM,VO,Ka,true_and,↓qF,qY,qh Xo QI,↓qd,qb,QC wz eb_3q7,qf,VX,Km,Jr,Nat.reduceAdd,qi,allLive,JS];refine qp (by rfl) (by rfl) zqA QI (by rfl) (by rfl) zqD (Js _) (by first|rfl|(simp+decide only[ev,putD,VM,VO,Ka,VV,Qr,JS,Vf,hvs,hrvs,XA,XB,Xh])) ?_;simp only[VV];simp+decide only[qa,ev,putD,VO,VN,Ka,setAt,VW,Ki,Jr,Nat.reduceAdd];apply hK;clear hK K;refine qL ?_;try simp only[Qg,Qn]
  refine QF (?_) ?_
  ·simp+decide only[QD,qA,qj,VO,Ka,and_true,qA,qj,qh Xo QI,Qa,qf,VX,Km,Jr,Nat.reduceAdd,qi,allLive,JS,qf,VX,Km,Jr,Nat.reduceAdd,qi,allLive,JS]
  simp+decide only[VO,Ka,Xg,qA,qj,qh Xo QI,Qa,qf,VX,Km,Jr,Nat.reduceAdd,qi,allLive,JS,qf,VX,Km,Jr,Nat.reduceAdd,qi,allLive,JS,Qu];rw[hXb];exact⟨_,Vl _, .nilSlice,rfl,zqB,rfl, .nil⟩
 ·try simp only[decide_eq_true_eq,VS]at hb1
  obtain⟨hf0,hcase⟩:f=okF/\((more=false/\X=(ns,okF))\/(more=true/\ci<l.length/\sm.ok=true/\t=sm.name/\j=sm.at_)):=by
   rcases hcase with⟨z,-⟩|⟨z1,z2⟩|⟨z1,z2⟩
   ·exact absurd (by simpa using hb1) z
   ·exact⟨z1, .inl z2⟩
   ·exact⟨z1, .inr z2⟩
  refine qN ?_;change Awp _ _ _ _ _ _ _;refine qJ ?_;refine awp_rseq [3,4,5,7,23] (by rfl) fun K hK=>?_;simp+decide only[qa,ev,putD,VM,VO,VN,Ka,true_and,↓qg,qc,↓Yj,XW,Yc];apply hK;clear hK K;refine qH (b:=_) rfl (fun hb2=>?_) (fun hb2=>?_)
  ·try simp only[Ji]at hb2
   have hXo:X=(ns,okF):=by
    rcases hcase with⟨-,z⟩|⟨z,-⟩
    ·exact z
    ·rw[z]at hb2;cases hb2
   refine awp_rseq [2,3] (by rfl) fun K hK=>?_;simp+decide only[ev,putD,VM,VO,Ka,true_and,↓qB,qm,qjZ,↓qF,qY,qz ag30,QC wz eb_2q0,VX,Km,Jr,hbn];refine qM (V:=Ym (QH 1 nb)) (by rfl) (by rfl) (qsa wz _ _ ns (w7.mono (qcZ (hasN.mono h34)))) ?_;simp+decide only[ev,qI,qG,putD,VM,VO,Ka,true_and,↓Qo,↓qZ,ZI,evP,Vj,↓qd,qb];refine qp (by rfl) (by rfl) zqA QI (by rfl) (by rfl) zqD (Js _) (by first|rfl|(simp+decide only[ev,putD,VM,VO,Ka,VV,Qr,JS,Vf,hvs,hrvs,XA,XB,Xh])) ?_;simp only[VV];simp+decide only[qa,ev,putD,VO,VN,Ka,setAt,VW,Ki,Jr,Nat.reduceAdd];apply hK;clear hK K;refine qL ?_;try simp only[Qg,Qn]
   refine QF (?_) ?_
   ·simp+decide only[QD,qA,qj,VO,Ka,and_true,qA,qj,qh Xo QI,Qa,qf,VX,Km,Jr,Nat.reduceAdd,qi,allLive,JS,qf,VX,Km,Jr,Nat.reduceAdd,qi,allLive,JS]
   simp+decide only[VO,Ka,Xg,qA,qj,qh Xo QI,Qa,qf,VX,Km,Jr,Nat.reduceAdd,qi,allLive,JS,qf,VX,Km,Jr,Nat.reduceAdd,qi,allLive,JS,Qu];rw[hXo];exact⟨_,Vl _,Ym (QH 1 nb),rfl,zqB,qee _,(w7.mono (qcZ ((hasN.mono h34).set nN _))).clip⟩
  ·try simp only[VS]at hb2
   obtain⟨m2,m3,rfl,m5⟩:ci<l.length/\sm.ok=true/\t=sm.name/\j=sm.at_:=by
    rcases hcase with⟨z,-⟩|⟨-,z⟩
    ·rw[z]at hb2;cases hb2
    ·exact z
   have hm0:=hstm m2;rw[if_neg (by omega),if_neg (by rw[m3];decide),<-m5]at hstp;have hsu:Sub (qat ((h.set k0q1 ⟨[.int .i64 0, .int .i64 0, .int .i64 0],0⟩).set k1q2 ⟨[v, .int .i64 j],0⟩) k2q0 .nilSlice .nilMap nb 0) C4:=sub_use (qaL (qaL hs_C4 eb_0q1) eb_1q2) eb_2q0 (hasN.mono h34);have hal:=qfh ns sm.name.text;refine qN ?_;change Awp _ _ _ _ _ _ _;refine XE [3,4,5] (by rfl) ?_;simp+decide only[ev,putD,VM,VO,Ka,true_and,↓qB,qm,qmE,Ur,↓qF,qY,qz ag9,QC wz eb_3q6,VX,Km,Jr,qE,Qu];refine QR (by rfl) (by rfl) (Eo hsu (c_use wz _ k2q0 .nilSlice .nilMap nb 0 ns sm.name.text (g2 ⟨[v, .int .i64 j],0⟩) (by omega) rfl rfl)) fun x8q3 h8q3 hx8q3=>?_;obtain⟨-,nb2,hu2,hh8⟩:=hx8q3;simp+decide only[qa,putD,VM,VN,Ka];try simp only[Qf,ZP]
   exact⟨⟨j,nb2,Cop.addE ns sm.name.text⟩,rfl,by(rw[hh8];exact Vl _),⟨hj,fun Y=>hu2.same (qfp _ _),by simp only;omega,hstp.symm⟩,by simp only;omega⟩
end Go.Proofs.YtlhhaagmakhilaaGreatDoor
namespace Go.Proofs.YtlhhaagmakhilaaGreatDoor
open Go.AM
open Go.Proofs
open Go.Col
open Go.Tok
open Go.RowKit (Below)
set_option maxRecDepth 100000
def qdv:Str->Str
 |[]=>[]
 |b::s=>if b=34 then 34::34::qdv s else b::qdv s
theorem qom:∀a b:Str,qdv (a++b)=qdv a++qdv b
 |[],_=>rfl
 |x::a,b=>by
  rw[Kg,qdv,qdv,qom a b];split<;>rfl
theorem qhV:∀{a:Str},(34:UInt8)∉a->qdv a=a
 |[],_=>rfl
 |x::a,h=>by
  simp only[KW,not_or]at h;rw[qdv,if_neg (fun e=>h.1 e.symm),qhV h.2]
theorem qol(s:Str):(qdv s).length<=2*s.length:=by
 induction s with
 |nil=>exact KJ _
 |cons b s ih=>
  rw[qdv];split<;>simp only[KX]<;>omega
theorem qry:∀(n:Nat) (s:Str),s.length<=n->Lib.replaceK [34] [34,34] (Lib.count s [34]) s=qdv s
 |0,s,h=>by
  have:s=[]:=Ke (by omega);subst this;rfl
 |n+1,s,h=>by
  rcases index_one s 34 with⟨h1,h2⟩|⟨i,h1,h2,h3,h4⟩
  ·rw[Lib.count_miss h1,qhV h2]
   rfl
  ·have hc:Lib.count s [34]=Lib.count (s.drop (i+1)) [34]+1:=by
    have:=Lib.count_hit (s:=s) (sub:=[34]) (i:=i) (by decide) h1;rw[this,Nat.add_comm];rfl
   rw[hc,Lib.replaceK_hit _ _ _ _ i h1];have ih:=qry n (s.drop (i+1)) (by rw[K5];omega);show s.take i++[34,34]++Lib.replaceK [34] [34,34] (Lib.count (s.drop (i+1)) [34]) (s.drop (i+1))=_
   rw[ih];conv=>rhs;rw[h3,qom,qhV h4,qdv,if_pos rfl]
   simp
theorem repl_len(s:Str):Lib.count s [34]<=s.length:=by
 have:∀(n:Nat) (s:Str),s.length<=n->Lib.count s [34]<=s.length:=by
  intro n;induction n with
  |zero=>
   intro s h;have:s=[]:=Ke (by omega);subst this;exact KJ _
  |succ n ih=>
   intro s h;rcases index_one s 34 with⟨h1,h2⟩|⟨i,h1,h2,h3,h4⟩
   ·rw[Lib.count_miss h1];exact Js _
   ·rw[Lib.count_hit (s:=s) (sub:=[34]) (i:=i) (by decide) h1]
    have:=ih (s.drop (i+[34].length)) (by rw[K5];simp;omega);rw[K5]at this;simp only[KX,J8]at this|-
    omega
 exact this _ s (KJ _)
theorem c_dbl(wz:World)(hm:MaxL wz)(h:AHeap)(s:Str)(hl:s.length<=100000000):ACall Tryz.prog wz 54 [.str s, .str [34], .str [34,34]] h (fun v h'=>v= .str (qdv s)/\h'=h):=by
 obtain⟨m,hm⟩:=hm;have hlt:0<wz.heap.size:=qjc hm;refine qiS (vals:=[.string ⟨⟨s⟩⟩, .string ⟨⟨[34]⟩⟩, .string ⟨⟨[34,34]⟩⟩]) (val:= .string ⟨⟨qdv s⟩⟩) Tryz.func54 rfl rfl (fun fi vs hv=>?_) (fun fi=>rfl) fun w hb=>?_
 ·simp only[VRs,VR]at hv
  obtain⟨v,vs',rfl,rfl,v2,vs2,rfl,rfl,v3,vs3,rfl,rfl,rfl⟩:=hv;rfl
 ·have hw:w.cell? ⟨0,0,none⟩=some (.int .i64 m):=(hb.cell (p:=⟨0,0,none⟩) hlt).trans hm
  have hcn:Lib.countB ⟨⟨s⟩⟩ ⟨⟨[34]⟩⟩<=s.length:=by
   have h1:=repl_len s;exact h1
  refine(Tryz.strings_ReplaceAll ⟨⟨s⟩⟩ ⟨⟨[34]⟩⟩ ⟨⟨[34,34]⟩⟩ m w (by show s.length<_;omega) hw (by decide) (by show s.length+_*2<=_;omega)).mono fun e w' ⟨e1,e2⟩=>⟨?_,e2⟩
  rw[e1];show Ending.returned (.string ⟨⟨Lib.replaceAll s [34] [34,34]⟩⟩)=_
  unfold Lib.replaceAll Lib.replace Lib.replaceNum;rw[if_neg (by decide),if_pos (.inl (by decide)),qry _ _ (KJ _)]
def qaE(t:TokC):Str:=if t.kind=3 then 34::qdv t.text++[34]else if t.kind=6 then[46]else if t.kind=7 then[61,61]else t.text
def textE(l:List TokC):Str:=Lib.join (l.map qaE) [32]
theorem qsl(t:TokC):(qaE t).length<=2*t.text.length+2:=by
 have:=qol t.text;unfold qaE;split
 ·simp;omega
 split
 ·simp
 split
 ·simp
 ·omega
def qgF(s:Str):List AVal:=[.str s]
structure TxtOk(h:AHeap)(l:List TokC)(g:Nat×Option Buf):Prop where
 i:g.1<=l.length
 ok:bufOk h 1 g.2
 eq:Yn g.2=((l.take g.1).map fun t=>qgF (qaE t)).flatten
theorem qlA{sep:Str}{m:Nat}:∀{l:List Str},(∀x∈l,x.length<=m)->(Lib.join l sep).length<=l.length*(m+sep.length)
 |[],_=>by simp[Lib.join]
 |[x],h=>by
  have:=h x (by simp);simp[Lib.join];omega
 |x::y::l,h=>by
  have ih:=qlA (sep:=sep) (l:=y::l) fun z hz=>h z (by simp[hz]);have hx:=h x (by simp);have e:Lib.join (x::y::l) sep=x++sep++Lib.join (y::l) sep:=by
   unfold Lib.join;rw[List.intercalate_cons_cons]
  rw[e];simp only[Jb];have:(x::y::l).length*(m+sep.length)=(y::l).length*(m+sep.length)+(m+sep.length):=by
   rw[KX,Nat.add_mul,Nat.one_mul]
  omega
set_option maxHeartbeats 1000000 in
theorem c_Text(wz:World)(hm:MaxL wz)(h:AHeap)(v:AVal)(l:List TokC)(hv:IsL wz h 5 v (l.map QM))(hl:l.length<=65536)(hb:∀t∈l,t.text.length<=100000000):
 ACall Tryz.prog wz 45 [v] h (fun r h'=>r= .str (textE l)/\h'=h):=by
 have hlv:=hv.live;have hlen:=XY hv;refine qW (n:=42) (rs:=[.tmp 2]) Tryz.func45 rfl rfl rfl rfl (VL rfl) ?_;simp only[Qe];refine awp_rseq [0] (by rfl) fun K hK=>?_;simp+decide only[qa,ev,qI,qG,putD,VM,VN,Ka,true_and,↓qd,qb];apply hK;clear hK K;refine awp_rseq [0,3] (by rfl) fun K hK=>?_;simp+decide only[qa,ev,qI,qG,putD,VM,VN,Ka,true_and,↓qd,qb];apply hK;clear hK K;refine qJ ?_;refine awp_rseq [3,6,7,8] (by rfl) fun K hK=>?_;simp+decide only[qa,ev,qI,qG,putD,VM,VO,VN,Ka,true_and,↓qg,qc,↓Xc,Qv,hlen];apply hK;clear hK K;refine Qj ?_;refine Xj [3,6,7,8] (fun g:Nat×Option Buf=>[(3,QH 1 g.2),(6,v),(7, .int .i64 l.length),(8, .int .i64 g.1)]) (fun g:Nat×Option Buf=>QG h g.2) (fun g:Nat×Option Buf=>TxtOk h l g) (fun g:Nat×Option Buf=>l.length-g.1) (0,none) (by rfl) (Vl _) ⟨Js _,trivial,rfl⟩ ?_;rintro⟨i,b⟩ ⟨g1,g2,g3⟩;simp only at g1 g2 g3|-
 have hbs:=BH g2;refine awp_rseq [3,6,7,8,9] (by rfl) fun K hK=>?_;simp+decide only[qa,ev,putD,VM,VO,VN,Ka,true_and,↓qw,ql,qP,cond_false,qo,XD];apply hK;clear hK K;refine qJ (qH (b:=_) rfl (fun hb1=>?_) (fun hb1=>?_))
 ·try simp only[decide_eq_true_eq]at hb1
  have hi:i<l.length:=by omega
  obtain⟨lc,o,c,rfl⟩:=Wd hv (by omega);obtain⟨e0,e1,e2,e3,e4⟩:=YL (hv.mono hbs) hi;obtain⟨t,ht⟩:∃t,t=l.getD i XZ:=⟨_,rfl⟩
  have htk:l.take (i+1)=l.take i++[t]:=by rw[VJ,Jz hi,ht];simp[Kn,hi]
  rw[<-ht]at e0 e1 e2 e3 e4;have htb:=hb t (by rw[ht,Kn,Jz hi];exact VH hi);have hdl:=qol t.text;refine qN ?_;change Awp _ _ _ _ _ _ _;refine qJ ?_;refine Qj ?_;refine awp_rseq [3,5,6,7,8] (by rfl) fun K hK=>?_;simp+decide only[ev,putD,VM,VO,Ka,true_and,↓Qp,qY,qU Tryz.underlying26 Xb,↓qF,qh Zv Xb,qf,qC,qi,qE,allLive,JS,e0,e1,e2,e3,e4,Vq];repeat (with_reducible refine And.intro ?_ ?_;· first|trivial|omega|(intro hg;simp only[Kw,JV,Ji,VP,VQ,VS,decide_eq_true_eq,decide_eq_false_iff_not,XK]at hg;omega)|(simp only[Jb,Jo,Er,Es,K4,K5,KX,J8,Et,V4];omega))
  refine Qi qaD (cs:=[.int .u8 0, .str [], .int .i64 0, .int .i64 0, .bool false]) (by rfl) fun k4q2 hk4q2=>?_;try have hf_4q2:h k4q2=none:=by first|assumption|(simp only[V7]at hk4q2;simp only[hk4q2])
  refine qp (by rfl) (by rfl) zqA Xb (by rfl) (by rfl) zqD (Js _) (by rfl) ?_;simp only[Vh,VV];simp+decide only[qa,ev,putD,VM,VO,VN,Ka,setAt,VW,Ki,Jr,Nat.reduceAdd];apply hK;clear hK K;refine awp_rseq [3,5,6,7,8,13] (by rfl) fun K hK=>?_;simp+decide only[qa,ev,putD,VM,VO,VN,Ka,true_and,↓qB,qm,qbp,↓qF,qY,qz qie,QN,VX,Jr,qi];apply hK;clear hK K;refine Qj ?_;refine awp_rseq [3,5,6,7,8,13,19] (by rfl) fun K hK=>?_;simp+decide only[qa,ev,qI,qG,putD,VM,VO,VN,Ka,true_and,↓qw,ql,qy,cond_false,qo,XT,↓qd,qb];apply hK;clear hK K;refine qH (b:=_) rfl (fun hb2=>?_) (fun hb2=>?_)
  ·try simp only[decide_eq_true_eq]at hb2
   have hk:t.kind=3:=(Zy _ 3).mp hb2;have htx:qaE t=[34]++qdv t.text++[34]:=by unfold qaE;rw[if_pos hk];rfl
   refine XE [3,6,7,8] (by rfl) ?_;simp+decide only[ev,putD,VM,VO,Ka,true_and,↓qg,qc,↓qB,qm,Ur,↓qF,qY,qz ag9,QN,VX,Km,Jr,qE];refine qM (V:= .str (qdv t.text)) (by rfl) (by rfl) (c_dbl wz hm _ t.text htb) ?_;simp+decide only[ev,qI,qG,putD,VM,VO,Ka,↓qw,ql,qP,cond_false,Za,qdS,YP];repeat (with_reducible refine And.intro ?_ ?_;· first|trivial|omega|(intro hg;simp only[Kw,JV,Ji,VP,VQ,VS,decide_eq_true_eq,decide_eq_false_iff_not,XK]at hg;omega)|(simp only[Jb,KX,J8];omega))
   refine QA (cs:=[.str ([34]++qdv t.text++[34])]) (by kernel_rfl) fun k8q6 hk8q6=>?_;have ne_8q6_4q2:k8q6≠k4q2:=by simp only[V7]at hk8q6;simp only[hk8q6,ne_eq,not_false_eq_true]
   try have hf_8q6:h k8q6=none:=by first|assumption|(simp only[V7]at hk8q6;simp only[hk8q6])
   refine XH (es:=1) (zs:=(l.take i).map fun t=>qgF (qaE t)) (xs:=[qgF ([34]++qdv t.text++[34])]) (hZ:=h) (b:=b) (by rfl) (by rfl) Tryz.underlying30 Tryz.underlying30 (fun k e=>by cases e) sz9 by9 ze9 (by rfl) (by decide) (by rfl) g2 g3 (fun y hy=>by obtain⟨d,_,rfl⟩:=JG.1 hy;rfl) ((Vg hk4q2).trans (Vg hk8q6)) (by rfl) (V8 (Vd _ _ _) (by simp[qgF]) (by rfl) (by rfl) (.exact 1) (KJ _)) (by rfl) (by simp;omega) (by simp;omega) fun b' h5 o1 o2 o3=>?_;have hbl':=QW 1 b';simp+decide only[qa,ev,putD,VM,VO,VN,Ka,true_and,↓qd,qb];change Awp _ _ _ _ _ _ _;refine XE [3,6,7,8] (by rfl) ?_;simp+decide only[qa,ev,qI,qG,putD,VM,VO,VN,Ka,true_and,↓qw,ql,qy,cond_false,qo,QS,↓qg,qc];try simp(disch:=omega)only[wrap_i64]
   try simp only[Qf]
   exact⟨(i+1,b'),rfl,o3,⟨hi,o1,by simp only;rw[o2,htk,Ba,Kc,Vj,htx]⟩,by simp only;omega⟩
  ·try simp only[decide_eq_false_iff_not]at hb2
   have hk3:¬t.kind=3:=fun q=>hb2 ((Zy _ 3).mpr q);refine awp_rseq [3,5,6,7,8,13,29] (by rfl) fun K hK=>?_;simp+decide only[qa,ev,qI,qG,putD,VM,VO,VN,Ka,true_and,↓qw,ql,qy,cond_false,qo,XT,↓qd,qb];apply hK;clear hK K;refine qH (b:=_) rfl (fun hb3=>?_) (fun hb3=>?_)
   ·try simp only[decide_eq_true_eq]at hb3
    have hk:t.kind=6:=(Zy _ 6).mp hb3;have htx:qaE t=[46]:=by unfold qaE;rw[if_neg hk3,if_pos hk]
    refine XE [3,6,7,8] (by rfl) ?_;simp+decide only[ev,putD,VM,VO,Ka,true_and,↓qg,qc];refine QA (cs:=[.str ([46])]) (by kernel_rfl) fun k10q1 hk10q1=>?_;have ne_10q1_4q2:k10q1≠k4q2:=by simp only[V7]at hk10q1;simp only[hk10q1,ne_eq,not_false_eq_true]
    try have hf_10q1:h k10q1=none:=by first|assumption|(simp only[V7]at hk10q1;simp only[hk10q1])
    refine XH (es:=1) (zs:=(l.take i).map fun t=>qgF (qaE t)) (xs:=[qgF ([46])]) (hZ:=h) (b:=b) (by rfl) (by rfl) Tryz.underlying30 Tryz.underlying30 (fun k e=>by cases e) sz9 by9 ze9 (by rfl) (by decide) (by rfl) g2 g3 (fun y hy=>by obtain⟨d,_,rfl⟩:=JG.1 hy;rfl) ((Vg hk4q2).trans (Vg hk10q1)) (by rfl) (V8 (Vd _ _ _) (by simp[qgF]) (by rfl) (by rfl) (.exact 1) (KJ _)) (by rfl) (by simp;omega) (by simp;omega) fun b' h5 o1 o2 o3=>?_;have hbl':=QW 1 b';simp+decide only[qa,ev,putD,VM,VO,VN,Ka,true_and,↓qd,qb];change Awp _ _ _ _ _ _ _;refine XE [3,6,7,8] (by rfl) ?_;simp+decide only[qa,ev,qI,qG,putD,VM,VO,VN,Ka,true_and,↓qw,ql,qy,cond_false,qo,QS,↓qg,qc];try simp(disch:=omega)only[wrap_i64]
    try simp only[Qf]
    exact⟨(i+1,b'),rfl,o3,⟨hi,o1,by simp only;rw[o2,htk,Ba,Kc,Vj,htx]⟩,by simp only;omega⟩
   ·try simp only[decide_eq_false_iff_not]at hb3
    have hk6:¬t.kind=6:=fun q=>hb3 ((Zy _ 6).mpr q);refine awp_rseq [3,5,6,7,8,34] (by rfl) fun K hK=>?_;simp+decide only[qa,ev,qI,qG,putD,VM,VO,VN,Ka,true_and,↓qw,ql,qy,cond_false,qo,XT,↓qd,qb];apply hK;clear hK K;refine qH (b:=_) rfl (fun hb4=>?_) (fun hb4=>?_)
    ·try simp only[decide_eq_true_eq]at hb4
     have hk:t.kind=7:=(Zy _ 7).mp hb4;have htx:qaE t=[61,61]:=by unfold qaE;rw[if_neg hk3,if_neg hk6,if_pos hk]
     refine XE [3,6,7,8] (by rfl) ?_;simp+decide only[ev,putD,VM,VO,Ka,true_and,↓qg,qc];refine QA (cs:=[.str ([61,61])]) (by kernel_rfl) fun k12q1 hk12q1=>?_;have ne_12q1_4q2:k12q1≠k4q2:=by simp only[V7]at hk12q1;simp only[hk12q1,ne_eq,not_false_eq_true]
     try have hf_12q1:h k12q1=none:=by first|assumption|(simp only[V7]at hk12q1;simp only[hk12q1])
     refine XH (es:=1) (zs:=(l.take i).map fun t=>qgF (qaE t)) (xs:=[qgF ([61,61])]) (hZ:=h) (b:=b) (by rfl) (by rfl) Tryz.underlying30 Tryz.underlying30 (fun k e=>by cases e) sz9 by9 ze9 (by rfl) (by decide) (by rfl) g2 g3 (fun y hy=>by obtain⟨d,_,rfl⟩:=JG.1 hy;rfl) ((Vg hk4q2).trans (Vg hk12q1)) (by rfl) (V8 (Vd _ _ _) (by simp[qgF]) (by rfl) (by rfl) (.exact 1) (KJ _)) (by rfl) (by simp;omega) (by simp;omega) fun b' h5 o1 o2 o3=>?_;have hbl':=QW 1 b';simp+decide only[qa,ev,putD,VM,VO,VN,Ka,true_and,↓qd,qb];change Awp _ _ _ _ _ _ _;refine XE [3,6,7,8] (by rfl) ?_;simp+decide only[qa,ev,qI,qG,putD,VM,VO,VN,Ka,true_and,↓qw,ql,qy,cond_false,qo,QS,↓qg,qc];try simp(disch:=omega)only[wrap_i64]
     try simp only[Qf]
     exact⟨(i+1,b'),rfl,o3,⟨hi,o1,by simp only;rw[o2,htk,Ba,Kc,Vj,htx]⟩,by simp only;omega⟩
    ·try simp only[decide_eq_false_iff_not]at hb4
     have hk7:¬t.kind=7:=fun q=>hb4 ((Zy _ 7).mpr q);have htx:qaE t=t.text:=by unfold qaE;rw[if_neg hk3,if_neg hk6,if_neg hk7]
     refine XE [3,6,7,8] (by rfl) ?_;simp+decide only[ev,putD,VM,VO,Ka,true_and,↓qg,qc,↓qB,qm,Ur,↓qF,qY,qz ag9,QN,VX,Km,Jr,qE];refine QA (cs:=[.str (t.text)]) (by kernel_rfl) fun k6q3 hk6q3=>?_;have ne_6q3_4q2:k6q3≠k4q2:=by simp only[V7]at hk6q3;simp only[hk6q3,ne_eq,not_false_eq_true]
     try have hf_6q3:h k6q3=none:=by first|assumption|(simp only[V7]at hk6q3;simp only[hk6q3])
     refine XH (es:=1) (zs:=(l.take i).map fun t=>qgF (qaE t)) (xs:=[qgF (t.text)]) (hZ:=h) (b:=b) (by rfl) (by rfl) Tryz.underlying30 Tryz.underlying30 (fun k e=>by cases e) sz9 by9 ze9 (by rfl) (by decide) (by rfl) g2 g3 (fun y hy=>by obtain⟨d,_,rfl⟩:=JG.1 hy;rfl) ((Vg hk4q2).trans (Vg hk6q3)) (by rfl) (V8 (Vd _ _ _) (by simp[qgF]) (by rfl) (by rfl) (.exact 1) (KJ _)) (by rfl) (by simp;omega) (by simp;omega) fun b' h5 o1 o2 o3=>?_;have hbl':=QW 1 b';simp+decide only[qa,ev,putD,VM,VO,VN,Ka,true_and,↓qd,qb];change Awp _ _ _ _ _ _ _;refine XE [3,6,7,8] (by rfl) ?_;simp+decide only[qa,ev,qI,qG,putD,VM,VO,VN,Ka,true_and,↓qw,ql,qy,cond_false,qo,QS,↓qg,qc];try simp(disch:=omega)only[wrap_i64]
     try simp only[Qf]
     exact⟨(i+1,b'),rfl,o3,⟨hi,o1,by simp only;rw[o2,htk,Ba,Kc,Vj,htx]⟩,by simp only;omega⟩
 ·try simp only[decide_eq_false_iff_not]at hb1
  refine Xm ?_;change Awp _ _ _ _ _ _ _;have hie:i=l.length:=by omega
  rw[hie,List.take_length]at g3;have hst:IsStrs wz (QG h b) (QH 1 b) (l.map qaE):=by
   have:=BF (wz:=wz) g2 (by decide) g3 (by simp[qgF]) (h:=QG h b) (Vl _);unfold IsStrs;rw[List.map_map];exact this
  have hjl:(Lib.join (l.map qaE) [32]).length<=140737488355328:=by
   refine V5 (qlA (m:=200000002) fun y hy=>?_) ?_
   ·obtain⟨d,hd,rfl⟩:=JG.1 hy
    have h1:=qsl d;have h2:=hb d hd;omega
   ·rw[Jo]
    exact V5 (Nat.mul_le_mul_right _ hl) (by decide)
  refine awp_rseq [2] (by rfl) fun K hK=>?_;simp+decide only[ev,putD,VM,VO,Ka,true_and,↓qg,qc];refine qM (V:= .str (textE l)) (by rfl) (by rfl) (c_join wz _ _ _ _ hst (by simp;omega) hjl) ?_;simp+decide only[qa,ev,putD,VM,VO,VN,Ka,true_and,↓qd,qb];apply hK;clear hK K;refine qL ?_;refine Qb h hbs (qR (Qc)) ?_;simp+decide only[VO,if_true,and_true,Qs];all_goals first|rfl|exact⟨rfl,rfl⟩|(simp+decide only[Ka, *];done)|(trace_state;fail)
end Go.Proofs.YtlhhaagmakhilaaGreatDoor
namespace Go.Proofs.YtlhhaagmakhilaaGreatDoor
open Go.AM
open Go.Proofs
open Go.Col (Str FaultC okF sp)
open Go.Tok
open Go.Cop
open Go.RowKit (Below)
set_option maxRecDepth 100000
theorem qfF(tb:Option Buf):(Ym (QH 5 tb)).live=true:=by cases tb<;>rfl
theorem qrW(tb:Option Buf):Sc (Ym (QH 5 tb))=True:=by cases tb<;>exact eq_true trivial
theorem qhv(wz:World)(hm:MaxL wz)(h:AHeap)(s:Str)(hl:s.length<=1000000):ACall Tryz.prog wz 20 [.str s] h (fun r h'=>OutR h (qbS s) r h'):=by
 have hsp:(sp 11++s).length<=9223372036854775807:=by simp[sp];omega
 have hcl:=qfF none;refine qW (n:=12) (rs:=[.tmp 2]) Tryz.func20 rfl rfl rfl rfl (VL rfl) ?_;simp only[Qe];refine awp_rseq [0] (by rfl) fun K hK=>?_;simp+decide only[qa,ev,qI,qG,putD,VM,VN,Ka,true_and,↓qd,qb];apply hK;clear hK K;refine awp_rseq [3] (by rfl) fun K hK=>?_;simp+decide only[ev,qI,qG,putD,VM,VO,Ka,true_and,↓qg,qc,↓qw,ql,qP,cond_false,Za,qdS];repeat (with_reducible refine And.intro ?_ ?_;· first|trivial|omega|(intro hg;simp only[Kw,JV,Ji,VP,VQ,VS,decide_eq_true_eq,decide_eq_false_iff_not,XK]at hg;omega)|(simp only[KX,J8];omega))
 refine QR (by rfl) (by rfl) (c_Source wz hm _ (sp 11++s) false hsp) fun x1q2 h1q2 hx1q2=>?_;obtain⟨tb,rfl,o1,o2,hh1⟩:=hx1q2;have hs1:Sub h h1q2:=by rw[hh1];exact BH o1
 have hcl:=qfF tb;have hs_h1q2:Sub h h1q2:=BJ zqC hs1;have hr_h1q2:=hs_h1q2;simp+decide only[ev,putD,VM,VO,Ka,true_and,↓qg,qc,↓QV,QJ,QU,KX,J8,VX,Km,VX,Km,Jr,Nat.reduceAdd,Qu];refine Qi qap (cs:=[.int .i64 0, .int .i64 0, .int .i64 0]) (by rfl) fun k1q6 hk1q6=>?_;have hn_1q6:h1q2 k1q6=none:=by first|assumption|(simp only[V7]at hk1q6;simp only[hk1q6])
 have hf_1q6:h k1q6=none:=Bg hs_h1q2 hn_1q6;simp+decide only[ev,putD,VM,VO,Ka,true_and,↓qd,qb];refine qp (by rfl) (by rfl) zqA QI (by rfl) (by rfl) zqD (Js _) (by rfl) ?_;simp only[Vh,VV];simp+decide only[qa,ev,putD,VO,VN,Ka,setAt,VW,Ki,Jr,Nat.reduceAdd];apply hK;clear hK K;refine awp_rseq [2] (by rfl) fun K hK=>?_;simp+decide only[qa,ev,putD,VM,VO,VN,Ka,true_and,↓qg,qc,↓qd,qb];apply hK;clear hK K;refine qL ?_;refine QF (qR (Qc)) ?_;simp+decide only[VO,if_true,Qs];exact⟨QG h tb,by rw[<-hh1];exact Vg hn_1q6,tb,rfl,o1,o2,rfl⟩
theorem qgl(wz:World)(hm:MaxL wz)(h:AHeap):ACall Tryz.prog wz 24 [] h (fun r h'=>IsMems wz h' r qdr/\Sub h h'):=by
 refine qW (n:=6) (rs:=[.tmp 0]) Tryz.func24 rfl rfl rfl rfl (VL rfl) ?_;simp only[Qe];refine awp_rseq [] (by rfl) fun K hK=>?_;simp+decide only[qa,ev,qI,qG,putD,VM,VN,if_false,true_and,↓qd,qb];apply hK;clear hK K;refine awp_rseq [0] (by rfl) fun K hK=>?_;refine QR (by rfl) (by rfl) (qhv wz hm _ _ (by decide)) fun x1q0 h1q0 hx1q0=>?_;have ht1:=hx1q0.toks (wz:=wz);obtain⟨tb1,hv1,a1,a2,a3⟩:=hx1q0;have hcl1:=qfF tb1;have hcS1:=qrW tb1;subst hv1;have hs_h1q0:Sub h h1q0:=BJ zqC ht1.2.2;have hr_h1q0:=hs_h1q0;simp+decide only[ev,qI,qG,putD,VM,VO,Ka,true_and,↓Qo,↓qZ,qid,evP,Kc,Vj,hcS1];refine QR (by rfl) (by rfl) (qhv wz hm _ _ (by decide)) fun x1q2 h1q2 hx1q2=>?_;have ht2:=hx1q2.toks (wz:=wz);obtain⟨tb2,hv2,b1,b2,b3⟩:=hx1q2;have hcl2:=qfF tb2;have hcS2:=qrW tb2;subst hv2;have hs_h1q2:Sub h h1q2:=BJ zqC ht2.2.2;have hr_h1q2:Sub h1q0 h1q2:=BJ zqC ht2.2.2;simp+decide only[ev,qI,qG,putD,VM,VO,Ka,true_and,↓Qo,↓qZ,qid,evP,Kc,Vj,hcS2];refine QA (cs:=[.str [65],Ym (QH 5 tb1), .str [66],Ym (QH 5 tb2)]) (by cases tb1<;>cases tb2<;>rfl) fun k1q4 hk1q4=>?_;have hn_1q4:h1q2 k1q4=none:=by first|assumption|(simp only[V7]at hk1q4;simp only[hk1q4])
 have hf_1q4:h k1q4=none:=Bg hs_h1q2 hn_1q4;simp+decide only[qa,ev,putD,VM,VO,VN,Ka,true_and,↓qd,qb];apply hK;clear hK K;refine qL ?_;refine QF (qR (Qc)) ?_;simp+decide only[VO,if_true,Qs];have hs4:Sub h1q2 (h1q2.set k1q4 ⟨[.str [65],Ym (QH 5 tb1), .str [66],Ym (QH 5 tb2)],0⟩):=Vg hn_1q4;refine⟨_,Vl _,⟨[(⟨[65],qbS [48,53,32,88,32,80,73,67,32,57,40,51,41,46]⟩,Ym (QH 5 tb1)),(⟨[66],qbS [48,49,32,82,46,32,67,79,80,89,32,65,32,82,69,80,76,65,67,73,78,71,32,88,32,66,89,32,89,46]⟩,Ym (QH 5 tb2))],rfl,?_,?_⟩,zqB⟩
 ·exact V8 (wz:=wz) (es:=2) (xs:=[[.str [65],Ym (QH 5 tb1)],[.str [66],Ym (QH 5 tb2)]]) (Vd _ _ _) (by simp) rfl (by simp[allLive,qE,hcl1,hcl2]) (.exact 2) (KJ _)
 ·intro q hq
  simp only[KW,Bj,or_false]at hq;rcases hq with rfl|rfl
  ·exact(ht1.1.mono ht2.2.2).mono hs4
  ·exact ht2.1.mono hs4
theorem qdH(s:Str):(qbS s).length<=65536:=(qmf (sp 11++s) false).1
theorem qfa:∀m∈qdr,m.toks.length<=100000:=by
 intro m hm;simp only[qdr,KW,Bj,or_false]at hm;rcases hm with rfl|rfl<;>(have:=qdH;exact V5 (this _) (by decide))
def qmA(s want:Str):Bool:=match qac true (qbS s) qdr with
 | .ok out _=>decide (0<out.length) && (decide (out.length<=65536) && (out.all (fun t=>decide (t.text.length<=100000000)) && decide (textE out=want)))
 | .bad _=>false
def qhP(s:Str)(e col:Int):Bool:=match qac true (qbS s) qdr with
 | .ok _ _=>false
 | .bad f=>decide (f=⟨e,1,col⟩)
theorem qmS(wz:World)(hm:MaxL wz)(h:AHeap)(s want:Str)(hs:s.length<=1000000)(hg:qmA s want=true):ACall Tryz.prog wz 25 [.str s, .str want] h (fun r h'=>r= .bool true/\h'=h):=by
 have hovl:(AVal.bool true).live=true:=rfl;have hnvl:(AVal.bool true).live=true:=rfl;refine qW (n:=30) (rs:=[.tmp 4]) Tryz.func25 rfl rfl rfl rfl (VL rfl) ?_;simp only[Qe];refine awp_rseq [0,1] (by rfl) fun K hK=>?_;simp+decide only[qa,ev,qI,qG,putD,VM,VN,Ka,true_and,↓qd,qb,Jr];apply hK;clear hK K;refine awp_rseq [1,5,7] (by rfl) fun K hK=>?_;simp+decide only[ev,putD,VM,VO,Ka,true_and,↓qg,qc];refine QR (by rfl) (by rfl) (qhv wz hm _ s hs) fun x1q1 h1q1 hx1q1=>?_;have ht1:=hx1q1.toks (wz:=wz);have hs1:=ht1.2.2;have hs_h1q1:Sub h h1q1:=BJ zqC hs1;have hr_h1q1:=hs_h1q1;refine QR (by rfl) (by rfl) (qgl wz hm _) fun x1q2 h1q2 hx1q2=>?_;obtain⟨hms,hs2⟩:=hx1q2;have hs_h1q2:Sub h h1q2:=BJ zqC hs2;have hr_h1q2:Sub h1q1 h1q2:=BJ zqC hs2;refine QR (by rfl) (by rfl) (qhy wz _ x1q1 x1q2 (qbS s) qdr (ht1.1.mono hs2) hms (by have:=qdH s;omega) (by decide) qfa) fun x1q3 h1q3 hx1q3=>?_;obtain⟨ov,nv,f,rfl,hs3,hc1,hc2,hcase⟩:=hx1q3;obtain⟨rfl,out,st,hX,hov,hnv,hl1,hl2⟩:f=okF/\∃out st,qac true (qbS s) qdr= .ok out st/\IsL wz h1q3 5 ov (out.map QM)/\IsL wz h1q3 1 nv (st.names.map qaj)/\out.length<=200000/\st.names.length<=4096:=by
  rcases hcase with⟨-,z,-⟩|z
  ·unfold qmA at hg
   rw[z]at hg;cases hg
  ·exact z
 unfold qmA at hg;rw[hX]at hg;simp only[Kw,decide_eq_true_eq,JC]at hg;obtain⟨g1,g2,g3,g4⟩:=hg;have hovl:=hov.live;have hnvl:=hnv.live;have nov:=XY hov;have hpos:(0:Int)<out.length:=by omega
 have hs_h1q3:Sub h h1q3:=BJ zqC hs3;have hr_h1q3:Sub h1q2 h1q3:=BJ zqC hs3;simp+decide only[ev,putD,VM,VO,Ka,true_and,↓qg,qc,↓QV,QJ,QU,KX,J8,VX,Km,VX,Km,Jr,Nat.reduceAdd,Qu];refine Qi qap (cs:=[.int .i64 0, .int .i64 0, .int .i64 0]) (by rfl) fun k1q8 hk1q8=>?_;have hn_1q8:h1q3 k1q8=none:=by first|assumption|(simp only[V7]at hk1q8;simp only[hk1q8])
 have hf_1q8:h k1q8=none:=Bg hs_h1q3 hn_1q8;simp+decide only[ev,putD,VM,VO,Ka,true_and,↓qd,qb];refine qp (by rfl) (by rfl) zqA QI (by rfl) (by rfl) zqD (Js _) (by rfl) ?_;simp only[Vh,VV];simp+decide only[qa,ev,putD,VO,VN,Ka,setAt,VW,Ki,Jr,Nat.reduceAdd];apply hK;clear hK K;refine awp_rseq [4] (by rfl) fun K hK=>?_;simp+decide only[ev,qI,qG,putD,VM,VO,Ka,true_and,↓qF,qY,qh Xo QI,↓Qo,↓qZ,ZI,evP,Vj,↓qw,ql,qP,cond_false,ZV,eq35,↓qg,qc,↓Xe,agP,Qw,qO,qK,qD,implies_true,decide_true,Qz,JS,↓qcr,Qv,↓Xd,qy,qo,qah,↓Xa,Qy,Qk,decide_true,Qz,JS,YM,cond_true,cond_false,QN,qf,VX,Km,Jr,Nat.reduceAdd,qi,allLive,JS,nov,hpos];refine YA (by rfl) ?_;refine qM (V:= .str want) (by rfl) (by rfl) (by rw[<-g4];exact c_Text wz hm _ ov out (hov.mono zqB) g2 (fun t ht=>g3 t ht)) ?_;simp+decide only[qa,ev,qI,qG,putD,VM,VO,VN,Ka,true_and,↓Xe,qc,agP,Qw,qO,qK,qD,implies_true,decide_true,Qz,↓Xd,ql,qP,cond_false,Za,qdR,↓Xa,Qy,Qk,↓qd,qb,decide_true,Qz,YM,cond_true,cond_false];apply hK;clear hK K;refine qL ?_;refine Qb h zqC (qR (Qc)) ?_;simp+decide only[VO,if_true,and_true,Qs];all_goals first|rfl|exact⟨rfl,rfl⟩|(simp+decide only[Ka, *];done)|(trace_state;fail)
theorem qmT(wz:World)(hm:MaxL wz)(h:AHeap)(s:Str)(e col:Int)(hs:s.length<=1000000)(hg:qhP s e col=true):ACall Tryz.prog wz 26 [.str s, .int .i64 e, .int .i64 col] h (fun r h'=>r= .bool true/\h'=h):=by
 refine qW (n:=32) (rs:=[.tmp 6]) Tryz.func26 rfl rfl rfl rfl (VL rfl) ?_;simp only[Qe];refine awp_rseq [0,1,2] (by rfl) fun K hK=>?_;simp+decide only[qa,ev,qI,qG,putD,VM,VN,Ka,true_and,↓qd,qb,Jr,Nat.reduceAdd];apply hK;clear hK K;refine awp_rseq [1,2,7,8,9] (by rfl) fun K hK=>?_;simp+decide only[ev,putD,VM,VO,Ka,true_and,↓qg,qc];refine QR (by rfl) (by rfl) (qhv wz hm _ s hs) fun x1q1 h1q1 hx1q1=>?_;have ht1:=hx1q1.toks (wz:=wz);have hs1:=ht1.2.2;have hs_h1q1:Sub h h1q1:=BJ zqC hs1;have hr_h1q1:=hs_h1q1;refine QR (by rfl) (by rfl) (qgl wz hm _) fun x1q2 h1q2 hx1q2=>?_;obtain⟨hms,hs2⟩:=hx1q2;have hs_h1q2:Sub h h1q2:=BJ zqC hs2;have hr_h1q2:Sub h1q1 h1q2:=BJ zqC hs2;refine QR (by rfl) (by rfl) (qhy wz _ x1q1 x1q2 (qbS s) qdr (ht1.1.mono hs2) hms (by have:=qdH s;omega) (by decide) qfa) fun x1q3 h1q3 hx1q3=>?_;obtain⟨ov,nv,f,rfl,hs3,hc1,hc2,hcase⟩:=hx1q3;obtain⟨hX,rfl,rfl⟩:qac true (qbS s) qdr= .bad f/\ov= .nilSlice/\nv= .nilSlice:=by
  rcases hcase with⟨-,z⟩|⟨-,out,st,z,-⟩
  ·exact z
  ·unfold qhP at hg
   rw[z]at hg;cases hg
 unfold qhP at hg;rw[hX]at hg;simp only[decide_eq_true_eq]at hg;subst hg;have hs_h1q3:Sub h h1q3:=BJ zqC hs3;have hr_h1q3:Sub h1q2 h1q3:=BJ zqC hs3;simp+decide only[ev,putD,VM,VO,Ka,true_and,↓qg,qc,↓QV,QJ,QU,KX,J8,VX,Km,VX,Km,Jr,Nat.reduceAdd,Qu];refine Qi qap (cs:=[.int .i64 0, .int .i64 0, .int .i64 0]) (by rfl) fun k1q8 hk1q8=>?_;have hn_1q8:h1q3 k1q8=none:=by first|assumption|(simp only[V7]at hk1q8;simp only[hk1q8])
 have hf_1q8:h k1q8=none:=Bg hs_h1q3 hn_1q8;simp+decide only[ev,putD,VM,VO,Ka,true_and,↓qd,qb];refine qp (by rfl) (by rfl) zqA QI (by rfl) (by rfl) zqD (Js _) (by rfl) ?_;simp only[Vh,VV];simp+decide only[qa,ev,putD,VO,VN,Ka,setAt,VW,Ki,Jr,Nat.reduceAdd];apply hK;clear hK K;refine awp_rseq [6] (by rfl) fun K hK=>?_;simp+decide only[qa,ev,qI,qG,putD,VM,VO,VN,Ka,true_and,↓qg,qc,↓Xc,Qv,qeI Tryz.underlying26,qeI Tryz.underlying30,↓qw,ql,qP,cond_false,qo,QS,qy,XT,↓Zg,XN,YT,agP,Qw,qO,qK,qD,implies_true,decide_true,Qz,JS,qh Xo QI,↓Xe,↓ag_build,↓qZ,qdy,evP,Kc,Vj,WL,↓Xd,ZV,eq35,↓Xa,Qy,Qk,↓qd,qb,decide_true,Qz,JS,YM,cond_true,cond_false,QN,qf,VX,Km,Jr,Nat.reduceAdd,qi,allLive,JS];apply hK;clear hK K;refine qL ?_;refine Qb h zqC (qR (Qc)) ?_;simp+decide only[VO,if_true,and_true,Qs];all_goals first|rfl|exact⟨rfl,rfl⟩|(simp+decide only[Ka, *];done)|(trace_state;fail)
end Go.Proofs.YtlhhaagmakhilaaGreatDoor
namespace Go.Proofs.YtlhhaagmakhilaaGreatDoor
open Go.AM
open Go.Proofs
open Go.Col (Str FaultC okF sp)
open Go.Tok
open Go.Cop
open Go.RowKit (Below)
set_option maxRecDepth 100000
def liveB:Bool:=match qac true (qbS [67,79,80,89,32,34,66,34,46,32,77,79,86,69]) qdr with
 | .ok _ st=>decide (st.names=[[66],[65]])
 | .bad _=>false
theorem lv_names:liveB=true:=by decide+kernel
theorem lv_g1:qmA [67,79,80,89,32,65,46] [48,53,32,88,32,80,73,67,32,57,40,51,41,32,46]=true:=by decide+kernel
theorem lv_f1:qhP [67,79,80,89,32,67,46] 7 17=true:=by decide+kernel
theorem lv_f2:qhP [67,79,80,89,32,65] 4 12=true:=by decide+kernel
theorem lv_f3:qhP [67,79,80,89,32,65,32,82,69,80,76,65,67,73,78,71,32,88,46] 4 30=true:=by decide+kernel
set_option maxHeartbeats 2000000 in
theorem qfH(wz:World)(hm:MaxL wz)(h:AHeap):ACall Tryz.prog wz 9 [] h (fun r h'=>r= .bool true/\h'=h):=by
 have hovl:(AVal.bool true).live=true:=rfl;have hnvl:(AVal.bool true).live=true:=rfl;refine qW (n:=44) (rs:=[.tmp 0]) Tryz.func9 rfl rfl rfl rfl (VL rfl) ?_;simp only[Qe];refine awp_rseq [] (by rfl) fun K hK=>?_;simp+decide only[qa,ev,qI,qG,putD,VM,VN,if_false,true_and,↓qd,qb];apply hK;clear hK K;refine awp_rseq [2] (by rfl) fun K hK=>?_;refine QR (by rfl) (by rfl) (qhv wz hm _ _ (by decide)) fun x1q0 h1q0 hx1q0=>?_;have ht1:=hx1q0.toks (wz:=wz);have hs1:=ht1.2.2;have hs_h1q0:Sub h h1q0:=BJ zqC hs1;have hr_h1q0:=hs_h1q0;refine QR (by rfl) (by rfl) (qgl wz hm _) fun x1q1 h1q1 hx1q1=>?_;obtain⟨hms,hs2⟩:=hx1q1;have hs_h1q1:Sub h h1q1:=BJ zqC hs2;have hr_h1q1:Sub h1q0 h1q1:=BJ zqC hs2;refine QR (by rfl) (by rfl) (qhy wz _ x1q0 x1q1 _ qdr (ht1.1.mono hs2) hms (by have:=qdH [67,79,80,89,32,34,66,34,46,32,77,79,86,69];exact V5 this (by decide)) (by decide) qfa) fun x1q2 h1q2 hx1q2=>?_;obtain⟨ov,nv,f,rfl,hs3,hc1,hc2,hcase⟩:=hx1q2;have hlb:=lv_names;unfold liveB at hlb;obtain⟨rfl,out,st,hX,hov,hnv,hl1,hl2⟩:f=okF/\∃out st,qac true (qbS [67,79,80,89,32,34,66,34,46,32,77,79,86,69]) qdr= .ok out st/\IsL wz h1q2 5 ov (out.map QM)/\IsL wz h1q2 1 nv (st.names.map qaj)/\out.length<=200000/\st.names.length<=4096:=by
  rcases hcase with⟨-,z,-⟩|z
  ·rw[show qac true (qbS [67,79,80,89,32,34,66,34,46,32,77,79,86,69]) qdr= .bad f from z]at hlb
   cases hlb
  ·exact z
 rw[hX]at hlb;simp only[decide_eq_true_eq]at hlb;rw[hlb]at hnv;have hovl:=hov.live;have hnvl:=hnv.live;have nnv:=qaz hnv;have hs_h1q2:Sub h h1q2:=BJ zqC hs3;have hr_h1q2:Sub h1q1 h1q2:=BJ zqC hs3;simp+decide only[ev,putD,VM,VO,Ka,true_and,↓qg,qc,↓QV,QJ,QU,KX,J8,VX,Km,VX,Km,Jr,Nat.reduceAdd,Qu];refine Qi qap (cs:=[.int .i64 0, .int .i64 0, .int .i64 0]) (by rfl) fun k1q7 hk1q7=>?_;have hn_1q7:h1q2 k1q7=none:=by first|assumption|(simp only[V7]at hk1q7;simp only[hk1q7])
 have hf_1q7:h k1q7=none:=Bg hs_h1q2 hn_1q7;simp+decide only[ev,putD,VM,VO,Ka,true_and,↓qd,qb];refine qp (by rfl) (by rfl) zqA QI (by rfl) (by rfl) zqD (Js _) (by rfl) ?_;simp only[Vh,VV];simp+decide only[qa,ev,putD,VO,VN,Ka,setAt,VW,Ki,Jr,Nat.reduceAdd];apply hK;clear hK K;refine BG (h':=h1q2) (Vg hn_1q7) ?_;obtain⟨lc,o,c,hnve⟩:=hnv.open (by simp);have hnv2:=hnv;rw[hnve]at hnv2;have e0:rd wz h1q2 lc (o+0)= .str [66]:=hnv2.at0 (i:=0) (by simp) (by decide);have e1:rd wz h1q2 lc (o+1)= .str [65]:=hnv2.at0 (i:=1) (by simp) (by decide);rw[K6]at e0;have hlen2:((([[66],[65]]:List Str).map qaj).length:Int)=2:=by decide
 have i0:Int.toNat 0=0:=rfl;have i1:Int.toNat 1=1:=rfl;subst hnve;refine awp_rseq [0] (by kernel_rfl) fun K hK=>?_;refine qM (V:= .bool true) (by rfl) (by rfl) (qmS wz hm _ _ _ (by decide) lv_g1) ?_;simp+decide only[ev,putD,VM,VO,Ka,true_and,↓qg,qc];refine YA (by rfl) ?_;refine qM (V:= .bool true) (by rfl) (by rfl) (qmS wz hm _ _ _ (by decide) (by decide+kernel)) ?_;simp+decide only[ev,qI,qG,putD,VM,VO,Ka,true_and,↓Xa,Qy,Qk,↓qg,qc,YM,cond_true];refine YA (by rfl) ?_;refine qM (V:= .bool true) (by rfl) (by rfl) (qmS wz hm _ _ _ (by decide) (by decide+kernel)) ?_;simp+decide only[ev,qI,qG,putD,VM,VO,Ka,true_and,↓Xa,Qy,Qk,↓qg,qc,YM,cond_true];refine YA (by rfl) ?_;refine qM (V:= .bool true) (by rfl) (by rfl) (qmT wz hm _ _ _ _ (by decide) lv_f1) ?_;simp+decide only[ev,qI,qG,putD,VM,VO,Ka,true_and,↓Xa,Qy,Qk,↓qg,qc,YM,cond_true];refine YA (by rfl) ?_;refine qM (V:= .bool true) (by rfl) (by rfl) (qmT wz hm _ _ _ _ (by decide) lv_f2) ?_;simp+decide only[ev,qI,qG,putD,VM,VO,Ka,true_and,↓Xa,Qy,Qk,↓qg,qc,YM,cond_true];refine YA (by rfl) ?_;refine qM (V:= .bool true) (by rfl) (by rfl) (qmT wz hm _ _ _ _ (by decide) lv_f3) ?_;simp+decide only[qa,ev,qI,qG,putD,VM,VO,VN,Ka,true_and,↓Xa,Qy,Qk,↓qg,qc,↓Xe,agP,Qw,qO,qK,qD,implies_true,decide_true,Qz,↓qcr,Qv,Ze Tryz.underlying30,↓Xd,ql,qy,cond_false,qo,XT,↓Zc,XN,YT,qU Tryz.underlying30 sz9,↓Zg,qz ag9,YP,Za,qdR,↓qd,qb,decide_true,Qz,YM,cond_true,cond_false,qE,i0,i1,e0,e1,BI,K6];apply hK;clear hK K;refine qL ?_;refine Qb h zqC (qR (Qc)) ?_;simp+decide only[VO,if_true,and_true,Qs];all_goals first|rfl|exact⟨rfl,rfl⟩|(simp+decide only[Ka, *];done)|(trace_state;fail)
end Go.Proofs.YtlhhaagmakhilaaGreatDoor
namespace Go.AM
section
variable {P:Program} {wz:World} {ops:List Oper} {K:Slots->AHeap->Prop}
end
end Go.AM
namespace Go.Proofs.YtlhhaagmakhilaaGreatDoor
open Go.AM
open Go.Proofs
open Go.Col (Str FaultC okF sp)
open Go.Tok
open Go.Cop
open Go.RowKit (Below)
set_option maxRecDepth 100000
theorem bufSwap3{H:AHeap}{ea eb:Nat}{a b:Option Buf}(ha:bufOk H ea a)(hb:bufOk (QG H a) eb b):QG (QG H a) b=QG (QG H b) a/\bufOk H eb b/\bufOk (QG H b) ea a:=by
 cases a with
 |none=>exact⟨rfl,hb,trivial⟩
 |some a=>
  cases b with
  |none=>exact⟨rfl,trivial,ha⟩
  |some b=>
   have hne:b.blk≠a.blk:=fun e=>by
    have:=hb.1;rw[e,show QG H (some a)=H.set a.blk ⟨a.cells,0⟩from rfl,Vd]at this;cases this
   have hb1:H b.blk=none:=by
    have:=hb.1
    rwa [show QG H (some a)=H.set a.blk ⟨a.cells,0⟩from rfl,Vb _ _ hne]at this
   exact⟨AHeap.set_comm _ _ _ hne,⟨hb1,hb.2⟩,⟨(Vb _ _ hne.symm).trans ha.1,ha.2⟩⟩
theorem Yy{α:Type}(l:List α)(d e:α){i:Nat}(hi:i<l.length):l.getD i d=l.getD i e:=by
 rw[Kn,Kn,Jz hi];rfl
theorem qcf{wz:World}{h:AHeap}{v:AVal}{l:List Str}(hv:IsL wz h 1 v (l.map qaj))(hn:0<l.length):∃lc o c,v= .slice lc o l.length c:=by
 obtain⟨lc,o,c,e⟩:=hv.open (fun e=>by rw[VU]at e;subst e;simp at hn);rw[Jo]at e;exact⟨lc,o,c,e⟩
theorem qeN{wz:World}{h:AHeap}{lc:AM.Loc}{o:Nat}{c:Cap}{l:List Str}(hv:IsL wz h 1 (.slice lc o l.length c) (l.map qaj)){i:Nat}(hi:i<l.length):rd wz h lc (o+i)= .str (l.getD i []):=by
 have he:=hv.elem (i:=i) (by rw[Jo];exact hi);rw[getD_map [] hi,BI]at he;simp only[qf,qaj,List.cons.injEq,and_true]at he;exact he
end Go.Proofs.YtlhhaagmakhilaaGreatDoor
namespace Go.Proofs.YtlhhaagmakhilaaGreatDoor
open Go.AM
open Go.Proofs
open Go.Col (Str FaultC okF sp)
open Go.Tok
open Go.Cop
open Go.RowKit (Below)
set_option maxRecDepth 100000
theorem c_equal04(wz:World)(h:AHeap)(a b:AVal)(l:List TokC)(ha:IsL wz h 5 a (l.map QM))(hb:IsL wz h 5 b (l.map QM))(hl:l.length<=1099511627776):ACall Tryz.prog wz 14 [a,b] h (fun v h'=>v= .int .i64 0/\h'=h):=by
 have hla:=ha.live;have hlb:=hb.live;have na:=XY ha;have nb:=XY hb;refine qW (n:=26) (rs:=[.tmp 4]) Tryz.func14 rfl rfl rfl rfl (VL rfl) ?_;simp only[Qe];refine awp_rseq [0,1] (by rfl) fun K hK=>?_;simp+decide only[qa,ev,qI,qG,putD,VM,VN,Ka,true_and,↓qd,qb];apply hK;clear hK K;refine qJ ?_;refine awp_rseq [0,1,10] (by rfl) fun K hK=>?_;simp+decide only[qa,ev,putD,VM,VO,VN,Ka,true_and,↓qg,qc,↓Xc,Qv,↓qw,ql,qP,cond_false,qo,Ua,na,nb];apply hK;clear hK K;refine qH (b:=_) rfl (fun hb1=>?_) (fun hb1=>?_)
 ·exact absurd hb1 (by simp)
 ·try simp only[decide_eq_true_eq,VS]at hb1
  refine qN ?_;change Awp _ _ _ _ _ _ _;refine qJ ?_;refine awp_rseq [0,1,5] (by rfl) fun K hK=>?_;simp+decide only[qa,ev,qI,qG,putD,VM,VN,Ka,true_and,↓qd,qb];apply hK;clear hK K;refine Qj ?_;refine Xj [0,1,5] (fun i:Nat=>[(0,a),(1,b),(5, .int .i64 i)]) (fun i:Nat=>h) (fun i:Nat=>i<=l.length) (fun i:Nat=>l.length-i) 0 (by rfl) (Vl _) (Js _) ?_;intro i hi;refine qJ ?_;refine awp_rseq [0,1,5,14] (by rfl) fun K hK=>?_;simp+decide only[qa,ev,putD,VM,VO,VN,Ka,true_and,↓qg,qc,↓Xc,Qv,↓qw,ql,qP,cond_false,qo,XD,na];apply hK;clear hK K;refine qH (b:=_) rfl (fun hb2=>?_) (fun hb2=>?_)
  ·try simp only[decide_eq_true_eq]at hb2
   have hi':i<l.length:=by omega
   obtain⟨lc,o,c,rfl⟩:=Wd ha (by omega);obtain⟨lc',o',c',rfl⟩:=Wd hb (by omega);have he:=ha.elem (i:=i) (by rw[Jo];exact hi');have hd:=hb.elem (i:=i) (by rw[Jo];exact hi');rw[getD_map XZ hi',QM]at he hd;have hal:AM.allLive (QM (l.getD i XZ))=true:=rfl;rw[QM]at hal;have hbe:((l.getD i XZ).left==(l.getD i XZ).left)=true:=beq_self_eq_true _;refine qN ?_;change Awp _ _ _ _ _ _ _;refine qJ ?_;refine Qj ?_;refine Zw [0,1,5,25] mixed (by kernel_rfl) (by rfl) (by rfl) fun K hK=>?_;simp+decide only[qa,ev,putD,VM,VO,VN,Ka,true_and,↓qg,qc,↓Qp,qY,qU Tryz.underlying26 Xb,↓qF,qh Zv Xb,↓qw,ql,qP,cond_false,ZV,ne54,he,hd,hal,hbe,Vq];repeat (with_reducible refine And.intro ?_ ?_;· first|trivial|omega|(intro hg;simp only[Kw,JV,Ji,VP,VQ,VS,decide_eq_true_eq,decide_eq_false_iff_not,XK]at hg;omega))
   apply hK;clear hK K;refine qH (b:=_) rfl (fun hb3=>?_) (fun hb3=>?_)
   ·exact absurd hb3 (by simp)
   ·try simp only[decide_eq_true_eq,VS,Kw]at hb3
    refine qN ?_;change Awp _ _ _ _ _ _ _;refine XE [0,1,5] (by rfl) ?_;simp+decide only[qa,ev,qI,qG,putD,VM,VO,VN,Ka,true_and,↓qg,qc,↓qw,ql,qy,cond_false,qo,QS,↓qd,qb];try simp(disch:=omega)only[wrap_i64]
    try simp only[Qf]
    exact⟨i+1,rfl,Vl _,hi',by omega⟩
  ·try simp only[decide_eq_false_iff_not]at hb2
   refine Xm ?_;change Awp _ _ _ _ _ _ _;refine awp_rseq [4] (by rfl) fun K hK=>?_;simp+decide only[qa,ev,qI,qG,putD,VM,VN,Ka,true_and,↓qd,qb];apply hK;clear hK K;refine qL ?_;refine Qb _ (Vl _) (qR (Qc)) ?_;simp+decide only[VO,if_true,and_true,Qs];all_goals first|rfl|exact⟨rfl,rfl⟩|(simp+decide only[Ka, *];done)|(trace_state;fail)
theorem c_texts04(wz:World)(h:AHeap)(a b:AVal)(l:List Str)(ha:IsL wz h 1 a (l.map qaj))(hb:IsL wz h 1 b (l.map qaj))(hl:l.length<=1099511627776):ACall Tryz.prog wz 15 [a,b] h (fun v h'=>v= .int .i64 0/\h'=h):=by
 have hla:=ha.live;have hlb:=hb.live;have na:=qaz ha;have nb:=qaz hb;refine qW (n:=26) (rs:=[.tmp 4]) Tryz.func15 rfl rfl rfl rfl (VL rfl) ?_;simp only[Qe];refine awp_rseq [0,1] (by rfl) fun K hK=>?_;simp+decide only[qa,ev,qI,qG,putD,VM,VN,Ka,true_and,↓qd,qb];apply hK;clear hK K;refine qJ ?_;refine awp_rseq [0,1,10] (by rfl) fun K hK=>?_;simp+decide only[qa,ev,putD,VM,VO,VN,Ka,true_and,↓qg,qc,↓Xc,Qv,↓qw,ql,qP,cond_false,qo,Ua,na,nb];apply hK;clear hK K;refine qH (b:=_) rfl (fun hb1=>?_) (fun hb1=>?_)
 ·exact absurd hb1 (by simp)
 ·try simp only[decide_eq_true_eq,VS]at hb1
  refine qN ?_;change Awp _ _ _ _ _ _ _;refine qJ ?_;refine awp_rseq [0,1,5] (by rfl) fun K hK=>?_;simp+decide only[qa,ev,qI,qG,putD,VM,VN,Ka,true_and,↓qd,qb];apply hK;clear hK K;refine Qj ?_;refine Xj [0,1,5] (fun i:Nat=>[(0,a),(1,b),(5, .int .i64 i)]) (fun i:Nat=>h) (fun i:Nat=>i<=l.length) (fun i:Nat=>l.length-i) 0 (by rfl) (Vl _) (Js _) ?_;intro i hi;refine qJ ?_;refine awp_rseq [0,1,5,14] (by rfl) fun K hK=>?_;simp+decide only[qa,ev,putD,VM,VO,VN,Ka,true_and,↓qg,qc,↓Xc,Qv,↓qw,ql,qP,cond_false,qo,XD,na];apply hK;clear hK K;refine qH (b:=_) rfl (fun hb2=>?_) (fun hb2=>?_)
  ·try simp only[decide_eq_true_eq]at hb2
   have hi':i<l.length:=by omega
   obtain⟨lc,o,c,rfl⟩:=qcf ha (by omega);obtain⟨lc',o',c',rfl⟩:=qcf hb (by omega);have he:=qeN ha hi';have hd:=qeN hb hi';refine qN ?_;change Awp _ _ _ _ _ _ _;refine qJ ?_;refine Qj ?_;refine Zw [0,1,5,25] mixed (by kernel_rfl) (by rfl) (by rfl) fun K hK=>?_;simp+decide only[qa,ev,putD,VM,VO,VN,Ka,true_and,↓qg,qc,↓Qp,qY,qU Tryz.underlying30 sz9,↓qF,qz ag9,↓qw,ql,qP,cond_false,Za,qeH,he,hd,qE,decide_true,Bool.not_true,Vq,BI];repeat (with_reducible refine And.intro ?_ ?_;· first|trivial|omega|(intro hg;simp only[Kw,JV,Ji,VP,VQ,VS,decide_eq_true_eq,decide_eq_false_iff_not,XK]at hg;omega))
   apply hK;clear hK K;refine qH (b:=_) rfl (fun hb3=>?_) (fun hb3=>?_)
   ·exact absurd hb3 (by simp)
   ·try simp only at hb3
    refine qN ?_;change Awp _ _ _ _ _ _ _;refine XE [0,1,5] (by rfl) ?_;simp+decide only[qa,ev,qI,qG,putD,VM,VO,VN,Ka,true_and,↓qg,qc,↓qw,ql,qy,cond_false,qo,QS,↓qd,qb];try simp(disch:=omega)only[wrap_i64]
    try simp only[Qf]
    exact⟨i+1,rfl,Vl _,hi',by omega⟩
  ·try simp only[decide_eq_false_iff_not]at hb2
   refine Xm ?_;change Awp _ _ _ _ _ _ _;refine awp_rseq [4] (by rfl) fun K hK=>?_;simp+decide only[qa,ev,qI,qG,putD,VM,VN,Ka,true_and,↓qd,qb];apply hK;clear hK K;refine qL ?_;refine Qb _ (Vl _) (qR (Qc)) ?_;simp+decide only[VO,if_true,and_true,Qs];all_goals first|rfl|exact⟨rfl,rfl⟩|(simp+decide only[Ka, *];done)|(trace_state;fail)
def qgf(l:List Str)(s:Str):Int:=qaU (fun x=>decide (x=s)) l
theorem qob{l:List Str}{s:Str}:qgf l s<0↔s∉l:=by
 unfold qgf qaU;cases hf:l.findIdx? (fun x=>decide (x=s))with
 |some i=>
  simp only;rw[List.findIdx?_eq_some_iff_getElem]at hf;obtain⟨hi,hp,-⟩:=hf;have:s∈l:=by rw[<-of_decide_eq_true hp];exact VH hi
  constructor
  ·omega
  ·intro h;exact absurd this h
 |none=>
  simp only;rw[List.findIdx?_eq_none_iff]at hf;constructor
  ·intro _ hm;have:=hf s hm;simp at this
  ·omega
theorem qdw(wz:World)(h:AHeap)(v:AVal)(l:List Str)(s:Str)(hv:IsL wz h 1 v (l.map qaj))(hl:l.length<=1099511627776):ACall Tryz.prog wz 23 [v, .str s] h (fun r h'=>r= .int .i64 (qgf l s)/\h'=h):=by
 have hlv:=hv.live;have nv:=qaz hv;refine qW (n:=19) (rs:=[.tmp 4]) Tryz.func23 rfl rfl rfl rfl (VL rfl) ?_;simp only[Qe];refine awp_rseq [0,1] (by rfl) fun K hK=>?_;simp+decide only[qa,ev,qI,qG,putD,VM,VN,Ka,true_and,↓qd,qb];apply hK;clear hK K;refine qJ ?_;refine awp_rseq [0,1,5] (by rfl) fun K hK=>?_;simp+decide only[qa,ev,qI,qG,putD,VM,VN,Ka,true_and,↓qd,qb];apply hK;clear hK K;refine Qj ?_;refine Xj [0,1,5] (fun i:Nat=>[(0,v),(1, .str s),(5, .int .i64 i)]) (fun i:Nat=>h) (fun i:Nat=>i<=l.length/\∀j,j<i->decide (l.getD j []=s)=false) (fun i:Nat=>l.length-i) 0 (by rfl) (Vl _) ⟨Js _,fun j hj=>by omega⟩ ?_;rintro i ⟨hi,hn⟩;refine qJ ?_;refine awp_rseq [0,1,5,9] (by rfl) fun K hK=>?_;simp+decide only[qa,ev,putD,VM,VO,VN,Ka,true_and,↓qg,qc,↓Xc,Qv,↓qw,ql,qP,cond_false,qo,XD,nv];apply hK;clear hK K;refine qH (b:=_) rfl (fun hb1=>?_) (fun hb1=>?_)
 ·try simp only[decide_eq_true_eq]at hb1
  have hi':i<l.length:=by omega
  obtain⟨lc,o,c,rfl⟩:=qcf hv (by omega);have he:=qeN hv hi';refine qN ?_;change Awp _ _ _ _ _ _ _;refine qJ ?_;refine Qj ?_;refine awp_rseq [0,1,5,17] (by rfl) fun K hK=>?_;simp+decide only[qa,ev,putD,VM,VO,VN,Ka,true_and,↓qg,qc,↓Qp,qY,qU Tryz.underlying30 sz9,↓qF,qz ag9,↓qw,ql,qP,cond_false,Za,qdR,he,qE,Vq,BI];repeat (with_reducible refine And.intro ?_ ?_;· first|trivial|omega|(intro hg;simp only[Kw,JV,Ji,VP,VQ,VS,decide_eq_true_eq,decide_eq_false_iff_not,XK]at hg;omega))
  apply hK;clear hK K;refine qH (b:=_) rfl (fun hb2=>?_) (fun hb2=>?_)
  ·try simp only[decide_eq_true_eq]at hb2
   refine awp_rseq [4] (by rfl) fun K hK=>?_;simp+decide only[qa,ev,putD,VM,VO,VN,Ka,true_and,↓qg,qc,↓qd,qb];apply hK;clear hK K;refine qL ?_;try simp only[Qg,Qn]
   refine Qb _ (Vl _) (qR (Qc)) ?_;simp+decide only[VO,if_true,and_true,Qs];rw[show qgf l s=(i:Int)from qhL [] hi' (decide_eq_true hb2) hn]
  ·try simp only[decide_eq_false_iff_not]at hb2
   refine qN ?_;change Awp _ _ _ _ _ _ _;refine XE [0,1,5] (by rfl) ?_;simp+decide only[qa,ev,qI,qG,putD,VM,VO,VN,Ka,true_and,↓qg,qc,↓qw,ql,qy,cond_false,qo,QS,↓qd,qb];try simp(disch:=omega)only[wrap_i64]
   try simp only[Qf]
   exact⟨i+1,rfl,Vl _,⟨hi',fun j hj=>by
    rcases KT j i with z|z
    ·exact hn j z
    ·rw[show j=i by omega];exact decide_eq_false hb2⟩,by omega⟩
 ·try simp only[decide_eq_false_iff_not]at hb1
  refine Xm ?_;change Awp _ _ _ _ _ _ _;refine awp_rseq [4] (by rfl) fun K hK=>?_;simp+decide only[qa,ev,qI,qG,putD,VM,VN,Ka,true_and,↓qd,qb];apply hK;clear hK K;refine qL ?_;refine Qb _ (Vl _) (qR (Qc)) ?_;simp+decide only[VO,if_true,and_true,Qs];rw[show qgf l s= -1 from qhM [] fun j hj=>hn j (by omega)]
end Go.Proofs.YtlhhaagmakhilaaGreatDoor
namespace Go.Proofs.YtlhhaagmakhilaaGreatDoor
open Go.AM
open Go.Proofs
open Go.Col (Str FaultC okF sp)
open Go.Tok
open Go.Cop
open Go.RowKit (Below)
set_option maxRecDepth 100000
theorem Zd(wz:World)(h:AHeap)(s:Str):ACall Tryz.prog wz 27 [.str s] h (fun r h'=>r= .agg [.int .u8 1, .str s, .int .i64 0, .int .i64 0, .bool false]/\h'=h):=by
 refine qW (n:=5) (rs:=[.cell 2 54]) Tryz.func27 rfl rfl rfl rfl (VL rfl) ?_;simp only[Qe];refine awp_rseq [0,2] (by rfl) fun K hK=>?_;refine Qi qaD (cs:=[.int .u8 0, .str [], .int .i64 0, .int .i64 0, .bool false]) (by rfl) fun k0q0 hk0q0=>?_;try have hf_0q0:h k0q0=none:=by first|assumption|(simp only[V7]at hk0q0;simp only[hk0q0])
 simp+decide only[qa,putD,VM,VN,Ka];apply hK;clear hK K;refine awp_rseq [2] (by rfl) fun K hK=>?_;simp+decide only[ev,qI,qG,putD,VM,VO,Ka,true_and,↓qg,qc,↓Qo,↓qZ,UT,evP,Kc,Vj];refine qp (by rfl) (by rfl) zqA Xb (by rfl) (by rfl) zqD (Js _) (by rfl) ?_;simp only[Vh,VV];simp+decide only[qa,ev,putD,VO,VN,Ka,setAt,VW,Ki,Jr,Nat.reduceAdd];apply hK;clear hK K;refine qL ?_;refine Qb h zqC (?_) ?_
 ·simp+decide only[QD,qj,VO,if_true,and_true,qj,qh Zv Xb,Qa,qf,VX,Km,Jr,Nat.reduceAdd,qC,qi,qE,allLive,JS,qf,VX,Km,Jr,Nat.reduceAdd,qC,qi,qE,allLive,JS]
 simp+decide only[VO,if_true,and_true,Zh,qj,qh Zv Xb,Qa,qf,VX,Km,Jr,Nat.reduceAdd,qC,qi,qE,allLive,JS,qf,VX,Km,Jr,Nat.reduceAdd,qC,qi,qE,allLive,JS];all_goals first|rfl|exact⟨rfl,rfl⟩|(simp+decide only[Ka, *];done)|(trace_state;fail)
def plN(i:Nat)(l:List TokC):List TokC:=(qaN l).take i++l.drop i
theorem plN_zero(l:List TokC):plN 0 l=l:=rfl
theorem qfw(i:Nat)(l:List TokC):(plN i l).length=l.length:=by
 unfold plN qaN;simp;omega
theorem plN_all(l:List TokC):plN l.length l=qaN l:=by
 unfold plN;rw[List.drop_length,Be,Jq (by unfold qaN;simp)]
theorem plN_step{i:Nat}{l:List TokC}(hi:i<l.length):(plN i l).set i (atT i ((plN i l).getD i XZ))=plN (i+1) l:=by
 have hp:(qaN l).length=l.length:=by unfold qaN;simp
 have hg:(plN i l).getD i XZ=l.getD i XZ:=by
  unfold plN;rw[Kn,VA (by simp[hp];omega),K4,hp,Eu (by omega),Ev,Ko,K6];rfl
 rw[hg];apply KY;intro j;rw[K3];by_cases e:i=j
 ·subst e
  rw[if_pos rfl,if_pos (by rw[qfw];exact hi)];unfold plN;rw[Ew (by simp[hp];omega),KZ,if_pos (by omega)];unfold qaN;rw[Ec,Jz hi];simp[Kn,hi]
 ·rw[if_neg e]
  unfold plN;by_cases h:j<i
  ·rw[Ew (by simp[hp];omega),Ew (by simp[hp];omega),KZ,KZ,if_pos h,if_pos (by omega)]
  ·rw[VA (by simp[hp];omega),VA (by simp[hp];omega)]
   simp only[K4,hp,Ko];rw[Eu (by omega),Eu (by omega),show i+(j-i)=j by omega,show i+1+(j-(i+1))=j by omega]
theorem WV(l:List TokC):AM.allLive ((l.map QM).flatten)=true:=Yh.2 fun x hx=>by obtain⟨y,_,rfl⟩:=JG.1 hx;rfl
theorem qpa(l:List TokC):Qr ((l.map QM).flatten)=true:=YZ.2 fun x hx=>by obtain⟨y,_,rfl⟩:=JG.1 hx;rfl
theorem qlF:∀(l:List TokC) (i:Nat) (a b:AVal) (t:TokC),i<l.length->QM t=(QM (l.getD i XZ)).take 2++[a,b]++(QM (l.getD i XZ)).drop 4->setAt ((l.map QM).flatten) (i*5+2) [a,b]=((l.set i t).map QM).flatten
 |[],i,_,_,_,h,_=>by simp at h
 |x::l,0,a,b,t,_,e=>by
  simp only[VX]at e;simp only[Kc,Vx,VW,e];rfl
 |x::l,i+1,a,b,t,h,e=>by
  simp only[Km]at e;have ih:=qlF l i a b t (by simpa using h) e;simp only[Kc,Vx,Ki];rw[<-ih,show(i+1)*5+2=5+(i*5+2) by omega,qbG (m:=5) rfl]
theorem qng{P:Program}{wz:World}{ops rest:List Oper}{s:Slots}{H:AHeap}{K:Slots->AHeap->Prop}{dst:Option Tmp}{ty:TypeId}{pos:String}{af:Array Edge}{t:TypeId}{x y:Operand}{k i:Nat}{l:List TokC}
 (hx:ev s x= .ptr (.own k) (i*5+2)) (hv:ev s y= .agg [.int .i64 (1+(i / 8:Nat)), .int .i64 (8+(i%8:Nat))]) (hb:H k=some ⟨(l.map QM).flatten,0⟩) (hi:i<l.length) (hn:Yf P t=some 2)
 (hk:QT P wz ops rest (putD s dst (.tuple [])) (H.set k ⟨((l.set i ⟨(l.getD i XZ).kind,(l.getD i XZ).text,1+(i / 8:Nat),8+(i%8:Nat),(l.getD i XZ).left⟩).map QM).flatten,0⟩) K):
 QT P wz ops (⟨dst, .store t x y,ty,pos,af,none⟩::rest) s H K:=by
 refine qp hx hv hb hn rfl rfl ?_ (Js _) rfl ?_
 ·simp only
  rw[XG (es:=5) Xn,Jo];omega
 ·simp only[VV]
  rw[qlF l i _ _ ⟨(l.getD i XZ).kind,(l.getD i XZ).text,1+(i / 8:Nat),8+(i%8:Nat),(l.getD i XZ).left⟩ hi rfl];exact hk
structure Of2(h:AHeap)(l:List TokC)(g:Nat×Option Buf):Prop where
 i:g.1<=l.length
 ok:bufOk h 5 g.2
 eq:Yn g.2=((plN g.1 l).map QM).flatten
theorem pl_left{l:List TokC}(hl:∀t∈l,t.left=false){i:Nat}(hi:i<l.length):(⟨((plN i l).getD i XZ).kind,((plN i l).getD i XZ).text,1+(i / 8:Nat),8+(i%8:Nat),((plN i l).getD i XZ).left⟩:TokC)=atT i ((plN i l).getD i XZ):=by
 have:((plN i l).getD i XZ).left=false:=by
  have hp:(qaN l).length=l.length:=by unfold qaN;simp
  unfold plN;rw[Kn,VA (by simp[hp];omega),K4,hp,Eu (by omega),Ev,Ko,K6,Jz hi];exact hl _ (VH hi)
 unfold atT;rw[this]
theorem raw_left:∀{ns:List Nat},(∀n∈ns,n<256)->∀t∈qcM ns,t.left=false:=by
 intro ns hn t ht;have h:=(qdd hn).1;rw[<-h]at ht;obtain⟨y,-,rfl⟩:=JG.1 ht;rfl
set_option maxHeartbeats 1000000 in
theorem of_rest2(wz:World)(h:AHeap)(l:List TokC)(hlf:∀t∈l,t.left=false)(hl:l.length<=1000000)(tb:Option Buf)(hok:bufOk h 5 tb)(heq:Yn tb=(l.map QM).flatten):
 Awp Tryz.prog wz 178 (Ud 8 (qcT Tryz.f10)) (qdb Tryz.prog wz [.tmp 2] (fun r h'=>∃tb,r=QH 5 tb/\bufOk h 5 tb/\Yn tb=((qaN l).map QM).flatten/\h'=QG h tb)) [(8,QH 5 tb)] (QG h tb):=by
 have hlv:=QW 5 tb;change Awp _ _ _ (Code.seq _ _) _ _ _;refine qJ ?_;refine awp_rseq [8,12] (by rfl) fun K hK=>?_;simp+decide only[qa,ev,qI,qG,putD,VM,VN,Ka,true_and,↓qd,qb];apply hK;clear hK K;refine Qj ?_;refine Xj [8,12] (fun g:Nat×Option Buf=>[(8,QH 5 g.2),(12, .int .i64 g.1)]) (fun g:Nat×Option Buf=>QG h g.2) (fun g:Nat×Option Buf=>Of2 h l g) (fun g:Nat×Option Buf=>l.length-g.1) (0,tb) (by rfl) (Vl _) ⟨Js _,hok,by rw[plN_zero];exact heq⟩ ?_;rintro⟨i,tb⟩ ⟨g1,g2,g3⟩;simp only at g1 g2 g3|-
 have hbl:=QW 5 tb;have hV:IsL wz (QG h tb) 5 (QH 5 tb) ((plN i l).map QM):=BF g2 (by decide) g3 Xn (Vl _);have hlen:=XY hV;rw[qfw]at hlen;refine qJ ?_;refine awp_rseq [8,12,163] (by rfl) fun K hK=>?_;simp+decide only[qa,ev,putD,VM,VO,VN,Ka,true_and,↓qg,qc,↓Xc,Qv,↓qw,ql,qP,cond_false,qo,XD,hlen];apply hK;clear hK K;refine qH (b:=_) rfl (fun hb1=>?_) (fun hb1=>?_)
 ·try simp only[decide_eq_true_eq]at hb1
  have hi:i<l.length:=by omega
  obtain⟨b,rfl⟩:∃b,tb=some b:=by
   cases tb with
   |some b=>exact⟨b,rfl⟩
   |none=>
    have e:=congrArg BP g3;rw[XG (es:=5) Xn,Jo,qfw]at e;simp[Yn]at e;omega
  have hbc:b.cells=((plN i l).map QM).flatten:=g3;have hbv:QH 5 (some b)= .slice (.own b.blk) 0 l.length (.grow 5):=by
   show AVal.slice (.own b.blk) 0 (b.cells.length / 5) (.grow 5)=_
   rw[hbc,XG (es:=5) Xn,Jo,qfw,Vn _ (by decide)]
  have hq:Int.tdiv (i:Int) 8=((i / 8:Nat):Int):=by rw[Int.tdiv_eq_ediv_of_nonneg (by omega)];omega
  have hr:Ex (i:Int) 8=((i%8:Nat):Int):=by rw[Ey (by omega)];omega
  refine qN ?_;change Awp _ _ _ _ _ _ _;refine qJ ?_;refine Qj ?_;refine XE [8,12] (by rfl) ?_;simp+decide only[ev,qI,qG,putD,VM,VO,Ka,true_and,↓qg,qc,↓qw,ql,qy,cond_false,qo,pI_quo,qP,QS,qjG,↓Qo,↓qZ,qdy,evP,Kc,Vj,hbv,hq,hr];try simp(disch:=omega)only[wrap_i64]
  try simp+decide only[ev,putD,VM,VO,Ka,true_and,↓Qp,qY,qU Tryz.underlying26 Xb,↓qB,qm,qeZ,Jr,Vq,Jr]
  repeat (with_reducible refine And.intro ?_ ?_;· first|trivial|omega|(intro hg;simp only[Kw,JV,Ji,VP,VQ,VS,decide_eq_true_eq,decide_eq_false_iff_not,XK]at hg;omega))
  refine qng (k:=b.blk) (i:=i) (l:=plN i l) (by rfl) (by rfl) (by rw[<-hbc];exact Vd _ _ _) (by rw[qfw];exact hi) qbe ?_;rw[pl_left hlf hi,plN_step hi];simp+decide only[qa,putD,VN,Ka];change Awp _ _ _ _ _ _ _;refine XE [8,12] (by rfl) ?_;simp+decide only[qa,ev,qI,qG,putD,VM,VO,VN,Ka,true_and,↓qg,qc,↓qw,ql,qy,cond_false,qo,QS,↓qd,qb];try simp(disch:=omega)only[wrap_i64]
  try simp only[Qf]
  refine⟨(i+1,some ⟨b.blk,((plN (i+1) l).map QM).flatten⟩),?_,?_,⟨hi,?_,rfl⟩,by simp only;omega⟩
  ·have hbv2:QH 5 (some ⟨b.blk,((plN (i+1) l).map QM).flatten⟩)= .slice (.own b.blk) 0 l.length (.grow 5):=by
    show AVal.slice (.own b.blk) 0 (((plN (i+1) l).map QM).flatten.length / 5) (.grow 5)=_
    rw[XG (es:=5) Xn,Jo,qfw,Vn _ (by decide)]
   simp only;rw[hbv2];rfl
  ·show Sub ((h.set b.blk ⟨((plN (i+1) l).map QM).flatten,0⟩)) ((h.set b.blk ⟨b.cells,0⟩).set b.blk ⟨((plN (i+1) l).map QM).flatten,0⟩)
   rw[Vh];exact Vl _
  ·refine⟨g2.1,?_,?_⟩
   ·simp only
    rw[XG (es:=5) Xn,Nat.mul_mod_left]
   ·exact WV _
 ·try simp only[decide_eq_false_iff_not]at hb1
  have hil:i=l.length:=by omega
  rw[hil,plN_all]at g3;refine Xm ?_;change Awp _ _ _ _ _ _ _;refine awp_rseq [2] (by rfl) fun K hK=>?_;simp+decide only[qa,ev,putD,VM,VO,VN,Ka,true_and,↓qg,qc,↓qd,qb];apply hK;clear hK K;refine qL ?_;refine QF (qR (Qc)) ?_;simp+decide only[VO,if_true,Qs];exact⟨QG h tb,Vl _,tb,rfl,g2,g3,rfl⟩
end Go.Proofs.YtlhhaagmakhilaaGreatDoor
namespace Go.AM
open Go.RowKit (Below)
section
variable {P:Program} {wz:World} {n:FrameK} {g₀:AHeap}
def qaT(P:Program)(wz:World)(l:List Oper)(g₀:AHeap):List Oper->Nat->List Nat->Slots->AHeap->(Slots->AHeap->Prop)->Prop
 |[],_,_,s,h,K=>K s h
 |o::r,0,_,s,h,K=>QT P wz l [o] s h fun s' h'=>Sub g₀ h'/\qaT P wz l g₀ r 0 [] s' h' K
 |o::r,m+1,1::bs,s,h,K=>∃V,(∀g,Sub h g->QT P wz l [o] s g fun s' h'=>s'=putD s o.dst V/\h'=g)/\qaT P wz l g₀ r m bs (putD s o.dst V) h K
 |o::r,m+1,2::bs,s,h,K=>QT P wz l [o] s g₀ fun s' _=>qaT P wz l g₀ r m bs s' h K
 |o::r,m+1,bs,s,h,K=>QT P wz l [o] s h fun s' h'=>Sub h h'/\qaT P wz l g₀ r m (bs.drop 1) s' h' K
theorem qnZ{l:List Oper}{m:Nat}{bs:List Nat}{s:Slots}{h:AHeap}{K:Slots->AHeap->Prop}:qaT P wz l g₀ [] m bs s h K=K s h:=by cases m<;>rfl
theorem qlw{l:List Oper}{m:Nat}{bs:List Nat}{o:Oper}{r:List Oper}{s:Slots}{h:AHeap}{K:Slots->AHeap->Prop}:qaT P wz l g₀ (o::r) (m+1) (0::bs) s h K=QT P wz l [o] s h fun s' h'=>Sub h h'/\qaT P wz l g₀ r m bs s' h' K:=rfl
theorem qlu{l:List Oper}{bs:List Nat}{o:Oper}{r:List Oper}{s:Slots}{h:AHeap}{K:Slots->AHeap->Prop}:qaT P wz l g₀ (o::r) 0 bs s h K=QT P wz l [o] s h fun s' h'=>Sub g₀ h'/\qaT P wz l g₀ r 0 [] s' h' K:=rfl
theorem qsV{l:List Oper}{m:Nat}{bs:List Nat}{o:Oper}{r:List Oper}{s:Slots}{h:AHeap}{K:Slots->AHeap->Prop}{V:AVal}(hc:∀g,Sub h g->QT P wz l [o] s g fun s' h'=>s'=putD s o.dst V/\h'=g)(hk:qaT P wz l g₀ r m bs (putD s o.dst V) h K):qaT P wz l g₀ (o::r) (m+1) (1::bs) s h K:=⟨V,hc,hk⟩
theorem qsU{l:List Oper}{m:Nat}{bs:List Nat}{o:Oper}{r:List Oper}{s:Slots}{h:AHeap}{K:Slots->AHeap->Prop}:qaT P wz l g₀ (o::r) (m+1) (2::bs) s h K=QT P wz l [o] s g₀ fun s' _=>qaT P wz l g₀ r m bs s' h K:=rfl
theorem qlv{l:List Oper}{m:Nat}{bs:List Nat}(h1:bs.getD 0 0≠1)(h2:bs.getD 0 0≠2){o:Oper}{r:List Oper}{s:Slots}{h:AHeap}{K:Slots->AHeap->Prop}(hj:qaT P wz l g₀ (o::r) (m+1) bs s h K):QT P wz l [o] s h fun s' h'=>Sub h h'/\qaT P wz l g₀ r m (bs.drop 1) s' h' K:=by
 match bs,h1,h2,hj with
 |[],_,_,hj=>exact hj
 |0::bs,_,_,hj=>exact hj
 |1::bs,h1,_,_=>exact absurd rfl h1
 |2::bs,_,h2,_=>exact absurd rfl h2
 |(k+3)::bs,_,_,hj=>exact hj
theorem qpz{l:List Oper}{m:Nat}{bs:List Nat}(hb:bs.getD 0 0=1){o:Oper}{r:List Oper}{s:Slots}{h:AHeap}{K:Slots->AHeap->Prop}(hj:qaT P wz l g₀ (o::r) (m+1) bs s h K):∃V,(∀g,Sub h g->QT P wz l [o] s g fun s' h'=>s'=putD s o.dst V/\h'=g)/\qaT P wz l g₀ r m (bs.drop 1) (putD s o.dst V) h K:=by
 match bs,hb,hj with
 |[],hb,_=>simp at hb
 |1::bs,_,hj=>exact hj
 |0::bs,hb,_=>simp at hb
 |(k+2)::bs,hb,_=>simp at hb
theorem qpy{l:List Oper}{m:Nat}{bs:List Nat}(hb:bs.getD 0 0=2){o:Oper}{r:List Oper}{s:Slots}{h:AHeap}{K:Slots->AHeap->Prop}(hj:qaT P wz l g₀ (o::r) (m+1) bs s h K):QT P wz l [o] s g₀ fun s' _=>qaT P wz l g₀ r m (bs.drop 1) s' h K:=by
 match bs,hb,hj with
 |[],hb,_=>simp at hb
 |2::bs,_,hj=>exact hj
 |0::bs,hb,_=>simp at hb
 |1::bs,hb,_=>simp at hb
 |(k+3)::bs,hb,_=>simp at hb
theorem qpw{l:List Oper}{bs bs':List Nat}{r:List Oper}{s:Slots}{h:AHeap}{K:Slots->AHeap->Prop}:qaT P wz l g₀ r 0 bs s h K=qaT P wz l g₀ r 0 bs' s h K:=by cases r<;>rfl
def isL(P:Program)(l:List Oper)(π:List Nat)(fl:List Nat)(m q:Nat):Bool:=decide (q<m) && (fl.getD q 0==1||isF P l (π.getD q 0))
def qpE(P:Program)(l:List Oper)(π:List Nat)(fl:List Nat)(ws:List (Option Nat))(m:Nat):Bool:=
 UB l && ((KO m).all fun q=> !(fl.getD q 0==2)||isF P l (π.getD q 0)) && (π.all fun i=>decide (i<l.length)) && ((KO l.length).all fun i=>π.contains i) &&
 ((KO π.length).all fun q=>(KO π.length).all fun r=>decide (q=r)|| !(π.getD q 0==π.getD r 0)) &&
 ((KO π.length).all fun q=>match ws.getD q none with
   |none=>(KO q).all fun c=>isL P l π fl m c
   |some r=>decide (r<q) && Region.waitsFor .any l.toArray (π.getD q 0) (π.getD r 0) && (KO q).all fun c=>decide (c<=r)||isL P l π fl m c) &&
 ((KO π.length).all fun q=>match l[π.getD q 0]? with
   |none=>true
   |some o=>(KO π.length).all fun r=>match l[π.getD r 0]? with
    |none=>true
    |some oj=>(match oj.dst with
     |none=>true
     |some t=> !(QY l o).contains t||(decide (q<r) && decide (m<=r) && !(fl.getD q 0==2))||(decide (r<q) && Region.waitsFor .any l.toArray (π.getD q 0) (π.getD r 0)))) &&
 decide (m<=π.length) && ((KO π.length).all fun q=>decide (q<m)|| !isL P l π fl m q) &&
 (decide (m=π.length)||(KO m).all fun q=>(fl.getD q 0==2)||(KO (m+1)).any fun r=>decide (q<r) && (decide (r=m)|| !(fl.getD r 0==2)) && Region.waitsFor .any l.toArray (π.getD r 0) (π.getD q 0))
structure FloatL(P:Program)(l:List Oper)(π:List Nat)(fl:List Nat)(m:Nat):Prop where
 order:UB l=true
 lateF:∀q,q<m->fl.getD q 0=2->isF P l (π.getD q 0)=true
 inr:∀q,q<π.length->π.getD q 0<l.length
 onto:∀i,i<l.length->∃q,q<π.length/\π.getD q 0=i
 inj:∀q r,q<π.length->r<π.length->π.getD q 0=π.getD r 0->q=r
 wait:∀q c,q<π.length->c<q->isL P l π fl m c=false->∃r,c<=r/\r<q/\Region.waitsFor .any l.toArray (π.getD q 0) (π.getD r 0)=true
 data:∀q r o oj t,q<π.length->r<π.length->l[π.getD q 0]?=some o->l[π.getD r 0]?=some oj->oj.dst=some t->t∈QY l o->(q<r/\m<=r/\fl.getD q 0≠2)\/(r<q/\Region.waitsFor .any l.toArray (π.getD q 0) (π.getD r 0)=true)
 mle:m<=π.length
 tail:∀q,m<=q->q<π.length->isL P l π fl m q=false
 sink:m<π.length->∀q,q<m->fl.getD q 0≠2->∃r,q<r/\r<=m/\(r=m\/fl.getD r 0≠2)/\Region.waitsFor .any l.toArray (π.getD r 0) (π.getD q 0)=true
theorem qod{l:List Oper}{π:List Nat}{fl:List Nat}{ws:List (Option Nat)}{m:Nat}(h:qpE P l π fl ws m=true):FloatL P l π fl m:=by
 unfold qpE at h;simp only[Kw]at h;obtain⟨⟨⟨⟨⟨⟨⟨⟨⟨h1,hL⟩,h2⟩,h3⟩,h4⟩,h5⟩,h6⟩,h7⟩,h8⟩,h9⟩:=h;simp only[JC,JD]at hL h2 h3 h4 h5 h6 h8;refine⟨h1,fun q hq e=>by
  have z:=hL q hq;rw[JV]at z;rcases z with z|z
  ·rw[e]at z;simp at z
  ·exact z,fun q hq=>?_,fun i hi=>?_,fun q r hq hr e=>?_,fun q c hq hc hf=>?_,fun q r o oj t hq hr ho hoj hd ht=>?_,by simpa using h7,fun q hm hq=>?_,fun hm q hq hq2=>?_⟩
 ·have:=h2 (π.getD q 0) (by rw[Kn,Jz hq];exact VH hq)
  simpa using this
 ·have:=h3 i hi
  rw[JW]at this;obtain⟨q,hq,e⟩:=BM this;exact⟨q,hq,by rw[Kn,Jz hq];exact e⟩
 ·have:=h4 q hq r hr
  rw[JV,decide_eq_true_eq]at this;rcases this with e'|e'
  ·exact e'
  ·rw[e]at e';simp at e'
 ·have:=h5 q hq
  split at this
  ·rw[JC]at this
   rw[this c (JD.2 hc)]at hf;cases hf
  ·rename_i r _
   simp only[Kw,decide_eq_true_eq,JC,JD,JV]at this;obtain⟨⟨t1,t2⟩,t3⟩:=this;rcases t3 c hc with e|e
   ·exact⟨r,e,t1,t2⟩
   ·rw[e]at hf;cases hf
 ·have:=h6 q hq
  rw[ho]at this;simp only[JC,JD]at this;have:=this r hr;rw[hoj]at this;simp only[hd,JV,Kw,decide_eq_true_eq,Ji]at this;rcases this with(e|e)|e
  ·have hm:(QY l o).contains t=true:=by simpa using ht
   rw[hm]at e;cases e
  ·exact .inl ⟨e.1.1,e.1.2,by simpa using e.2⟩
  ·exact .inr e
 ·have:=h8 q hq
  simp only[JV,decide_eq_true_eq,Ji]at this;rcases this with e|e
  ·omega
  ·exact e
 ·rw[JV,decide_eq_true_eq]at h9
  rcases h9 with e|e
  ·omega
  ·rw[JC]at e
   have:=e q (JD.2 hq);rw[JV]at this;rcases this with this|this
   ·exact absurd (by simpa using this) hq2
   rw[JX]at this;obtain⟨r,hr,hw⟩:=this;rw[JD]at hr;simp only[Kw,JV,decide_eq_true_eq]at hw;exact⟨r,hw.1.1,by omega,hw.1.2.imp id (fun z=>by simpa using z),hw.2⟩
theorem qoL{l:List Oper}(hall:Xw n l=true){π:List Nat}{fl:List Nat}{m:Nat}(F:FloatL P l π fl m){K:Slots->AHeap->Prop}{g:AHeap}(hg₀:Sub g₀ g):∀(d p:Nat) (S:Slots),π.length-p=d->p<=π.length->qaT P wz l g₀ ((Yl l π).drop p) (m-p) (fl.drop p) S g K->
 ∃p' S',p<=p'/\p'<=π.length/\(p'<π.length->isL P l π fl m p'=false)/\(∀q,p<=q->q<p'->isL P l π fl m q=true)/\qaT P wz l g₀ ((Yl l π).drop p') (m-p') (fl.drop p') S' g K/\
  (∀q o,p<=q->q<p'->l[π.getD q 0]?=some o->∃V,(∀t,o.dst=some t->S'.get t=V)/\FactC P wz n l g S' o V/\(fl.getD q 0=2->FactC P wz n l g₀ S' o V))/\
  (∀t,(∀q o,p<=q->q<p'->l[π.getD q 0]?=some o->o.dst≠some t)->S'.get t=S.get t):=by
 intro d;induction d with
 |zero=>
  intro p S hd hp ha;exact⟨p,S,KJ _,hp,fun h=>by omega,fun q h1 h2=>by omega,ha,fun q o h1 h2=>by omega,fun t _=>rfl⟩
 |succ d ih=>
  intro p S hd hp ha;have hpl:p<π.length:=by omega
  cases hf:isL P l π fl m p with
  |false=>exact⟨p,S,KJ _,hp,fun _=>hf,fun q h1 h2=>by omega,ha,fun q o h1 h2=>by omega,fun t _=>rfl⟩
  |true=>
   have hpm:p<m:=by
    refine JO fun h=>?_;rw[F.tail p h hpl]at hf;cases hf
   obtain⟨o,ho⟩:∃o,l[π.getD p 0]?=some o:=⟨_,Jz (F.inr p hpl)⟩
   rw[qaO F.inr hpl ho,show m-p=(m-(p+1))+1 by omega]at ha;have hfl:(fl.drop p).getD 0 0=fl.getD p 0:=by simp[Kn,Ko]
   have hfd:(fl.drop p).drop 1=fl.drop (p+1):=by rw[BN]
   obtain⟨V,hv,hfact,hfact₀⟩:∃V,qaT P wz l g₀ ((Yl l π).drop (p+1)) (m-(p+1)) (fl.drop (p+1)) (putD S o.dst V) g K/\FactC P wz n l g S o V/\(fl.getD p 0=2->FactC P wz n l g₀ S o V):=by
    by_cases hb2:fl.getD p 0=2
    ·have ha:=qpy (by rw[hfl,hb2]) ha
     rw[hfd]at ha;have hk2:YI P o.op=2:=by
      have:=F.lateF p hpm hb2;unfold isF at this;rw[ho]at this;simpa using this
     obtain⟨V,hv,hfact⟩:=qiZ hall hk2 ha;exact⟨V,hv,hfact.toC.sub hg₀,fun _=>hfact.toC⟩
    ·by_cases hb1:fl.getD p 0=1
     ·obtain⟨V,h1,h2⟩:=qpz (by rw[hfl,hb1]) ha
      rw[hfd]at h2;exact⟨V,h2,qlI hall h1,fun e=>absurd e hb2⟩
     ·have hk2:YI P o.op=2:=by
       unfold isL isF at hf;rw[ho]at hf;simp only[Kw,JV,beq_iff_eq,hb1,false_or]at hf;simpa using hf.2
      have ha:=qlv (by rw[hfl];exact hb1) (by rw[hfl];exact hb2) ha;rw[hfd]at ha;obtain⟨V,⟨_,hv⟩,hfact⟩:=qiZ hall hk2 ha;exact⟨V,hv,hfact.toC,fun e=>absurd e hb2⟩
   obtain⟨p',S',a1,a2,a3,a4,a5,a6,a7⟩:=ih (p+1) (putD S o.dst V) (by omega) (by omega) hv;have notlook:∀q oq t,p<=q->q<p'->l[π.getD q 0]?=some oq->oq.dst=some t->t∉QY l o:=fun q oq t h1 h2 h3 h4 ht=>by
    rcases F.data p q o oq t hpl (by omega) ho h3 h4 ht with⟨c1,c2,_⟩|⟨c1,_⟩
    ·have:=a4 q (by omega) h2
     rw[F.tail q c2 (by omega)]at this;cases this
    ·omega
   have uniq:∀q oq t,p<q->q<π.length->l[π.getD q 0]?=some oq->oq.dst=some t->o.dst≠some t:=fun q oq t h1 h2 h3 h4 e=>by
    have:=((Zb F.order ho).2 _ oq t h3 h4).1 e;have:=F.inj p q hpl h2 this;omega
   refine⟨p',S',by omega,a2,a3,fun q h1 h2=>?_,a5,fun q oq h1 h2 hq=>?_,fun t ht=>?_⟩
   ·rcases JB h1 with e|e
    ·rw[<-e];exact hf
    ·exact a4 q e h2
   ·rcases JB h1 with e|e
    ·subst e
     rw[ho]at hq;obtain rfl:=Option.some.inj hq;have hsl:∀t∈QY l o,S'.get t=S.get t:=fun t ht=>by
      rw[a7 t fun q oq h3 h4 h5 h6=>notlook q oq t (by omega) (by omega) h5 h6 ht,ZO,if_neg fun e=>notlook p o t (KJ _) (by omega) ho e ht]
     refine⟨V,fun t ht=>?_,hfact.slots hsl,fun e=>(hfact₀ e).slots hsl⟩;rw[a7 t fun q oq h3 h4 h5 h6=>uniq q oq t h3 (by omega) h5 h6 ht,ZO,if_pos ht]
    ·exact a6 q oq e h2 hq
   ·rw[a7 t fun q oq h3 h4 h5=>ht q oq (by omega) h4 h5,ZO,if_neg (ht p o (KJ _) (by omega) ho)]
def PhaseL(P:Program)(wz:World)(n:FrameK)(g₀:AHeap)(l:List Oper)(π:List Nat)(fl:List Nat)(m:Nat)(K:Slots->AHeap->Prop)(listed:Array Bool)(Ps:PMap)(a:Act)(w:World):Prop:=
 listed.size=l.length/\(∀j oj,l[j]?=some oj->listed.getD j false=true->∀e∈oj.after,Region.binds .any e=true->listed.getD e.on false=true)/\a.tmps.size=n/\a.defers=n.dfr/\
 ∃p S g,p<=π.length/\(p<π.length->isL P l π fl m p=false)/\(∀q,p<=q->q<π.length->listed.getD (π.getD q 0) false=false)/\(∀q,q<p->isL P l π fl m q=false->listed.getD (π.getD q 0) false=true)/\
  (m<p->∀q,q<p->fl.getD q 0≠2->listed.getD (π.getD q 0) false=true)/\Sub g₀ g/\HRel wz Ps g w/\qaT P wz l g₀ ((Yl l π).drop p) (m-p) (fl.drop p) S g K/\
  (∀q o,q<p->l[π.getD q 0]?=some o->listed.getD (π.getD q 0) false=false->∃V,(∀t,o.dst=some t->S.get t=V)/\FactC P wz n l g S o V/\(fl.getD q 0=2->FactC P wz n l g₀ S o V))/\
  ∀t,(∃q o,q<p/\l[π.getD q 0]?=some o/\o.dst=some t/\listed.getD (π.getD q 0) false=false)\/VR Ps (S.get t) (a.tmps.getD t undef)
theorem any_okL{l:List Oper}(hall:Xw n l=true){π:List Nat}{fl:List Nat}{m:Nat}(F:FloatL P l π fl m){K:Slots->AHeap->Prop}{fi:PMap}{Q:Exit->Act->World->Prop}
 (hq:∀Ps S g a w,fi.le Ps->HRel wz Ps g w->SRel Ps n S a->K S g->Q .normal a w):∀(fuel:Nat) (listed:Array Bool) (a:Act) (w:World) (Ps:PMap),fi.le Ps->PhaseL P wz n g₀ l π fl m K listed Ps a w->
 (listed.toList.filter (!·)).length<=fuel->wpAny P .any l.toArray Q fuel listed a w:=by
 have hB:=F.order;have fin:∀(listed:Array Bool) (a:Act) (w:World) (Ps:PMap),fi.le Ps->PhaseL P wz n g₀ l π fl m K listed Ps a w->Region.ready .any l.toArray listed=[]->Q .normal a w:=by
  rintro listed a w Ps hle ⟨i1,i2,i3,i4,p,S,g,p1,p2,p3,p4,p5,pg,p6,p7,p8,p9⟩ hrd;have hal:=qco hB i1 hrd;have hp:p=π.length:=by
   rcases JB p1 with e|e
   ·exact e
   ·have:=p3 p (KJ _) e
    rw[hal _ (F.inr p e)]at this;cases this
  subst hp;rw[show(Yl l π).drop π.length=[] by rw[<-qbw F.inr];simp,qnZ]at p7;refine hq Ps S g a w hle p6 ⟨i3,i4,fun t=>?_⟩ p7;rcases p9 t with⟨q,o,c1,c2,c3,c4⟩|c
  ·rw[hal _ (F.inr q c1)]at c4;cases c4
  ·exact c
 intro fuel;induction fuel with
 |zero=>
  intro listed a w Ps hle inv hc;have hrd:Region.ready .any l.toArray listed=[]:=by
   cases hrd:Region.ready .any l.toArray listed with
   |nil=>rfl
   |cons i r=>
    exfalso;have hm:i∈Region.ready .any l.toArray listed:=by rw[hrd];exact List.mem_cons_self
    obtain⟨h1,o,ho,_⟩:=mem_ready.1 hm;have hi:i<listed.size:=by
     have:l[i]?=some o:=by simpa using ho
     rw[inv.1];exact(JA.1 this).1
    have h2:listed.toList[i]?=some false:=by
     simp[JE,hi]at h1;simp[hi,h1]
    have:=JZ h2;have hmem:false∈listed.toList.filter (!·):=by simp[List.mem_filter,this]
    have:=List.length_pos_of_mem hmem;omega
  exact⟨hrd,fin listed a w Ps hle inv hrd⟩
 |succ fuel ih=>
  intro listed a w Ps hle inv hc;refine⟨fun hrd=>fin listed a w Ps hle inv hrd,fun i hi=>?_⟩;obtain⟨i1,i2,i3,i4,p,S,g,p1,p2,p3,p4,p5,pg,p6,p7,p8,p9⟩:=inv;obtain⟨h1,o,ho,hedges⟩:=mem_ready.1 hi;have hol:l[i]?=some o:=by simpa using ho
  have hilt:i<l.length:=(JA.1 hol).1;have hisz:i<listed.size:=by rw[i1];exact hilt
  have hif:listed.getD i false=false:=by simp[JE,hisz]at h1|-;exact h1
  have hcount:((listed.setIfInBounds i true).toList.filter (!·)).length<=fuel:=by
   have h2:listed.toList[i]?=some false:=by
    simp[JE,hisz]at h1;simp[hisz,h1]
   have:=qbL listed.toList i h2;have e:(listed.setIfInBounds i true).toList=listed.toList.set i true:=by simp
   rw[e];omega
  have hdn:∀d,o.dst=some d->d<n:=fun d hd=>qcO l i d hall (by rw[Yt,hol];exact hd);obtain⟨q,hql,hqi⟩:=F.onto i hilt;have hoq:l[π.getD q 0]?=some o:=by rw[hqi];exact hol
  have looks:LookOk Ps n l o S a:=⟨i3,i4,fun t ht=>by
   rcases p9 t with⟨r,oj,c1,c2,c3,c4⟩|c
   ·exfalso
    rcases F.data q r o oj t hql (by omega) hoq c2 c3 ht with⟨d1,d2,d3⟩|⟨_,this⟩
    ·have:=p5 (by omega) q (by omega) d3
     rw[hqi,hif]at this;cases this
    ·rw[hqi]at this
     rw[YE hol hedges this]at c4;cases c4
   ·exact c⟩
  have closed':∀j oj,l[j]?=some oj->(listed.setIfInBounds i true).getD j false=true->∀e∈oj.after,Region.binds .any e=true->(listed.setIfInBounds i true).getD e.on false=true:=fun j oj hj hl e he hb=>by
   by_cases e1:e.on=i
   ·rw[e1];exact set_self hisz
   ·rw[XP e1]
    by_cases e2:j=i
    ·subst e2
     rw[hol]at hj;obtain rfl:=Option.some.inj hj;exact hedges e he hb
    ·rw[XP e2]at hl
     exact i2 j oj hj hl e he hb
  have other:∀r,r<π.length->r≠q->(listed.setIfInBounds i true).getD (π.getD r 0) false=listed.getD (π.getD r 0) false:=fun r hr hne=>XP fun e=>hne (F.inj r q hr hql (by rw[e,hqi]));have nobehind:p<q->False:=fun hpq=>by
   obtain⟨r,r1,r2,r3⟩:=F.wait q p hql hpq (p2 (by omega));rw[hqi]at r3;have:=YE hol hedges r3;rw[p3 r r1 (by omega)]at this;cases this
  have goal:(if Region.wanted o (yielded l.toArray a.tmps)=true then o.wp P a w (wpAny P .any l.toArray Q fuel (listed.setIfInBounds i true)) Q else wpAny P .any l.toArray Q fuel (listed.setIfInBounds i true) (a.put o.dst undef) w):=by
   rcases KT q p with hqp|hqp
   ·
    obtain⟨V,v1,v2,-⟩:=p8 q o hqp hoq (by rw[hqi];exact hif);refine v2 Ps w a g _ Q (Vl g) p6 looks fun ψ₂ v wx hle₂ hr₂ hv=>?_;refine ih _ _ _ ψ₂ (J6 hle hle₂) ⟨by simp[i1],closed',by rw[qbW];exact i3,by rw[put_defers];exact i4,p,S,g,p1,p2,fun r r1 r2=>?_,fun r r1 r2=>?_,fun hm r r1 r2=>?_,pg,hr₂,p7,fun r oj r1 r2 r3=>?_,fun t=>?_⟩ hcount
    ·rw[other r r2 (by omega)];exact p3 r r1 r2
    ·by_cases e:r=q
     ·rw[e,hqi];exact set_self hisz
     ·rw[other r (by omega) e];exact p4 r r1 r2
    ·by_cases e:r=q
     ·rw[e,hqi];exact set_self hisz
     ·rw[other r (by omega) e];exact p5 hm r r1 r2
    ·by_cases e:r=q
     ·rw[e,hqi,set_self hisz]at r3;cases r3
     ·rw[other r (by omega) e]at r3
      exact p8 r oj r1 r2 r3
    ·by_cases hod:o.dst=some t
     ·right
      rw[v1 t hod,WZ a hod (by rw[i3];exact hdn t hod)];exact hv t hod
     ·rcases p9 t with⟨r,oj,c1,c2,c3,c4⟩|c
      ·refine .inl ⟨r,oj,c1,c2,c3,?_⟩
       rw[other r (by omega) fun e=>by subst e;rw[hoq]at c2;obtain rfl:=Option.some.inj c2;exact hod c3];exact c4
      ·right
       rw[Ww a hod];exact Wt hle₂ _ _ c
   ·have hqe:q=p:=by
     rcases JB hqp with e|e
     ·exact e.symm
     ·exact(nobehind e).elim
    subst hqe;have all_m:m<=q->∀r,r<q->fl.getD r 0≠2->listed.getD (π.getD r 0) false=true:=fun hm r hr hr2=>by
     rcases JB hm with e|e
     ·subst e
      have key:∀d r,r+d=m->r<m->fl.getD r 0≠2->listed.getD (π.getD r 0) false=true:=by
       intro d;induction d using Nat.strongRecOn with
       |ind d ihd=>
        intro r hd hr hr2;obtain⟨r',s1,s2,s4,s3⟩:=F.sink hql r hr hr2;rcases JB s2 with e|e
        ·subst e
         rw[hqi]at s3;exact YE hol hedges s3
        ·have hl:=ihd (m-r') (by omega) r' (by omega) e (s4.resolve_left (by omega))
         obtain⟨oj,hoj⟩:∃oj,l[π.getD r' 0]?=some oj:=⟨_,Jz (F.inr r' (by omega))⟩
         exact YE hoj (i2 _ oj hoj hl) s3
      exact key (m-r) r (by omega) hr hr2
     ·exact p5 e r hr hr2
    obtain⟨K',ha,hnext⟩:∃K':Slots->AHeap->Prop,QT P wz l [o] S g K'/\∀s' h',K' s' h'->(q<m->Sub g h')/\Sub g₀ h'/\qaT P wz l g₀ ((Yl l π).drop (q+1)) (m-(q+1)) (fl.drop (q+1)) s' h' K:=by
     rw[qaO F.inr hql hoq]at p7;have hfl:(fl.drop q).getD 0 0=fl.getD q 0:=by simp[Kn,Ko]
     have hfd:(fl.drop q).drop 1=fl.drop (q+1):=by rw[BN]
     by_cases c:q<m
     ·have hfb:fl.getD q 0≠1/\fl.getD q 0≠2:=by
       have:=p2 hql;unfold isL at this;rw[decide_eq_true c,Vf,VQ]at this;refine⟨by simpa using this.1,fun e=>?_⟩;rw[F.lateF q c e]at this;cases this.2
      rw[show m-q=(m-(q+1))+1 by omega]at p7;have p7:=qlv (by rw[hfl];exact hfb.1) (by rw[hfl];exact hfb.2) p7;rw[hfd]at p7;exact⟨_,p7,fun s' h' hx=>⟨fun _=>hx.1,pg.trans hx.1,hx.2⟩⟩
     ·rw[show m-q=0 by omega,qlu]at p7
      refine⟨_,p7,fun s' h' hx=>⟨fun hc=>absurd hc c,hx.1,?_⟩⟩;rw[show m-(q+1)=0 by omega,qpw (bs':=[])];exact hx.2
    refine qmr hall ha p6 looks fun ψ' x h' v w' e1 e2 e3 hk=>?_;obtain⟨k1,kg,k2⟩:=hnext _ _ hk;obtain⟨p',S',a1,a2,a3,a4,a5,a6,a7⟩:=qoL hall F kg (π.length-(q+1)) (q+1) (putD S o.dst x) rfl (by omega) k2;have keep:∀r or t,r<q->l[π.getD r 0]?=some or->listed.getD (π.getD r 0) false=false->(or.dst=some t\/t∈QY l or)->S'.get t=S.get t:=fun r or t hr hor hun ht=>by
     have nd:∀u ou,q<=u->u<max p' (q+1)->u<π.length->l[π.getD u 0]?=some ou->ou.dst≠some t:=fun u ou h1 hup h2 h3 h4=>by
      rcases ht with ht|ht
      ·have:=((Zb hB hor).2 _ ou t h3 h4).1 ht
       have:=F.inj r u (by omega) h2 this;omega
      ·rcases F.data r u or ou t (by omega) h2 hor h3 h4 ht with⟨c1,c2,c3⟩|⟨c1,_⟩
       ·rcases JB h1 with e|e
        ·subst e
         rw[all_m c2 r hr c3]at hun;cases hun
        ·have:=a4 u e (by omega)
         rw[F.tail u c2 h2]at this;cases this
       ·omega
     rw[a7 t fun u ou h1 h2 h3=>nd u ou (by omega) (by omega) (by omega) h3,ZO,if_neg (nd q o (KJ _) (by omega) hql hoq)]
    refine ih _ _ _ ψ' (J6 hle e1) ⟨by simp[i1],closed',by rw[qbW];exact i3,by rw[put_defers];exact i4,p',S',h',a2,a3,fun r r1 r2=>?_,fun r r1 r2=>?_,fun hm r r1 rl=>?_,kg,e2,a5,fun r oj r1 r2 r3=>?_,fun t=>?_⟩ hcount
    ·rw[other r r2 (by omega)];exact p3 r (by omega) r2
    ·by_cases e:r=q
     ·rw[e,hqi];exact set_self hisz
     ·rw[other r (by omega) e]
      rcases KT r q with c|c
      ·exact p4 r c r2
      ·rw[a4 r (by omega) r1]at r2;cases r2
    ·have hmq:m<=q:=by
      refine Kr fun hc=>?_;have hmp:m<π.length:=by omega
      have:=a4 m (by omega) hm;rw[F.tail m (KJ _) hmp]at this;cases this
     by_cases e:r=q
     ·rw[e,hqi];exact set_self hisz
     ·rw[other r (by omega) e]
      rcases KT r q with c|c
      ·exact all_m hmq r c rl
      ·have:=a4 r (by omega) r1
       rw[F.tail r (by omega) (by omega)]at this;cases this
    ·by_cases e:r=q
     ·rw[e,hqi,set_self hisz]at r3;cases r3
     ·rw[other r (by omega) e]at r3
      rcases KT r q with c|c
      ·obtain⟨V,v1,v2,v3⟩:=p8 r oj c r2 r3
       have hsl:∀t∈QY l oj,S'.get t=S.get t:=fun t ht=>keep r oj t c r2 r3 (.inr ht);refine⟨V,fun t ht=>(keep r oj t c r2 r3 (.inl ht)).trans (v1 t ht),?_,fun e=>(v3 e).slots hsl⟩;by_cases e2:fl.getD r 0=2
       ·exact((v3 e2).sub kg).slots hsl
       ·have hqm:q<m:=by
         refine JO fun hm=>?_;rw[all_m hm r c e2]at r3;cases r3
        exact(v2.sub (k1 hqm)).slots hsl
      ·exact a6 r oj (by omega) r1 r2
    ·by_cases hod:o.dst=some t
     ·right
      rw[a7 t fun u ou h1 h2 h3 h4=>by
       have:=((Zb hB hoq).2 _ ou t h3 h4).1 hod;have:=F.inj q u hql (by omega) this;omega,ZO,if_pos hod,WZ a hod (by rw[i3];exact hdn t hod)]
      exact e3
     ·by_cases hw:∃r or,q+1<=r/\r<p'/\l[π.getD r 0]?=some or/\or.dst=some t
      ·obtain⟨r,or,w1,w2,w3,w4⟩:=hw
       exact .inl ⟨r,or,w2,w3,w4,by rw[other r (by omega) (by omega)];exact p3 r (by omega) (by omega)⟩
      ·have hS:S'.get t=S.get t:=by
        rw[a7 t fun u ou h1 h2 h3 h4=>hw ⟨u,ou,h1,h2,h3,h4⟩,ZO,if_neg hod]
       rcases p9 t with⟨r,oj,c1,c2,c3,c4⟩|c
       ·exact .inl ⟨r,oj,by omega,c2,c3,by rw[other r (by omega) (by omega)];exact c4⟩
       ·right
        rw[hS,Ww a hod];exact Wt e1 _ _ c
  simp only[wpOp,ho];split
  ·rename_i hw
   rw[if_pos hw]at goal;exact .inl goal
  ·rename_i hw
   rw[if_neg hw]at goal;exact goal
theorem qri{Q:Exit->Slots->AHeap->Prop}{s:Slots}{h:AHeap}{id:Nat}{l:List Oper}(π:List Nat)(fl:List Nat)(ws:List (Option Nat))(m:Nat)(g₀:AHeap)(hm:P.follows .mixedOrders=true)(hB:qpE P l π fl ws m=true)(hd:Xw n l=true)(hg₀:Sub g₀ h)
 (hc:qaT P wz l g₀ (Yl l π) m fl s h fun s' h'=>Q .normal s' h'):Awp P wz n (.region id l.toArray true) Q s h:=by
 refine Awp.of0 ?_;intro fi a w hr hs;have F:=qod hB;refine wp_region_any hm ?_;have hf:∀j,(Jw l.toArray.size false).getD j false=false:=fun j=>by simp[JE]
 obtain⟨p',S',a1,a2,a3,a4,a5,a6,a7⟩:=qoL hd F hg₀ π.length 0 s rfl (Js _) (by rw[Nat.sub_zero,KP];exact hc);refine any_okL (fi:=fi) hd F (K:=fun s' h'=>Q .normal s' h') (fun Ps S g a' w' hle h1 h2 h3=>⟨Ps,S,g,hle,h1,h2,h3⟩) _ _ _ _ fi fi.le_refl
  ⟨by simp,fun j oj _ hl=>(by rw[hf]at hl;cases hl),hs.size,hs.defers,p',S',h,a2,a3,fun r _ _=>hf _,fun r r1 r2=>?_,fun hm' r r1 _=>?_,hg₀,hr.drew,a5,fun r oj r1 r2 _=>a6 r oj (Js _) r1 r2,fun t=>?_⟩ ?_
 ·rw[a4 r (Js _) r1]at r2;cases r2
 ·have:=a4 m (Js _) hm'
  rw[F.tail m (KJ _) (by omega)]at this;cases this
 ·by_cases hw:∃r or,r<p'/\l[π.getD r 0]?=some or/\or.dst=some t
  ·obtain⟨r,or,w2,w3,w4⟩:=hw
   exact .inl ⟨r,or,w2,w3,w4,hf _⟩
  ·right
   rw[a7 t fun u ou _ h2 h3 h4=>hw ⟨u,ou,h2,h3,h4⟩];exact hs.val t
 ·have:=List.length_filter_le (!·) (Jw l.toArray.size false).toList
  simpa using this
end
end Go.AM
namespace Go.Proofs.YtlhhaagmakhilaaGreatDoor
open Go.AM
open Go.Proofs
open Go.Col (Str FaultC okF sp)
open Go.Tok
open Go.Cop
open Go.RowKit (Below)
set_option maxRecDepth 100000
structure OfB(wz:World)(B:AHeap)(kp ka kr:Nat)(rs:List AVal):Prop where
 per:B kp=some ⟨QM qnK,0⟩
 pla:B ka=some ⟨(plainC.map QM).flatten,0⟩
 row:B kr=some ⟨rs,0⟩
 prs:∀i,i<6->IsL wz B 5 (rs.getD i .dead) ((pairsC.getD i []).map QM)
structure Of1(B:AHeap)(x:List UInt8)(g:Nat×Option Buf):Prop where
 i:g.1<=x.length
 i2:g.1<=60
 ok:bufOk B 5 g.2
 eq:Yn g.2=((qcM ((x.take g.1).map Ea)).map QM).flatten
theorem raw_step{x:List UInt8}{i:Nat}(hi:i<x.length):qcM ((x.take (i+1)).map Ea)=qcM ((x.take i).map Ea)++qcS (x.getD i 0).toNat:=by
 rw[VJ,Jz hi,Ba,rawC_app];simp[Kn,hi,qcM]
theorem raw_end{x:List UInt8}{i:Nat}(hi:i<=60)(h:i=60\/x.length<=i):qcM ((x.take i).map Ea)=qcM (qdT x):=by
 unfold qdT;rcases h with h|h
 ·rw[h]
 ·rw[Jq h,Jq (V5 h hi)]
theorem qrA(x:List UInt8){i:Nat}(hi:i<=60):(qcM ((x.take i).map Ea)).length<=840:=by
 have h:=(qdd (ns:=(x.take i).map Ea) (fun n hn=>by obtain⟨b,-,rfl⟩:=JG.1 hn;exact b.toNat_lt)).2;rw[Jo,K4]at h;omega
theorem qpK:∀i:Fin 8,(([48,49,50,51,52,53,54,55]:Str).drop i.val).take (i.val+1-i.val)=[KC (48+i.val)]:=by decide
theorem qia{n:Nat}(h:n<160):qcS n=[plainC.getD (n%8) XZ]:=by
 unfold qcS;rw[if_pos h,Yy plainC noT XZ (by show n%8<8;omega)]
theorem qhI:∀i:Fin 6,(pairsC.getD i.val []).length<=10:=by decide
set_option maxHeartbeats 8000000 in
theorem of_rest1(wz:World)(h B:AHeap)(hBs:Sub h B)(v:AVal)(x:List UInt8)(hv:IsL wz h 1 v (x.map qdl))(hl:x.length<=9223372036854775807)(kp ka kr:Nat)(rs:List AVal)(hB:OfB wz B kp ka kr rs):
 Awp Tryz.prog wz 178 (Ud 6 (qcT Tryz.f10)) (qdb Tryz.prog wz [.tmp 2] (fun r h'=>∃tb,r=QH 5 tb/\bufOk h 5 tb/\Yn tb=((lOf x).map QM).flatten/\h'=QG h tb)) [(0,v),(3, .func 27 []),(4, .ptr (.own kp) 0),(6, .slice (.own ka) 0 8 (.exact 8)),(7, .slice (.own kr) 0 6 (.exact 6))] (B):=by
 have hlv:=hv.live;have hlen:=hv.len Tryz.underlying23;rw[Jo]at hlen;obtain⟨b1,b2,b3,b4⟩:=hB;change Awp _ _ _ (Code.seq _ _) _ _ _;refine awp_rseq [0,3,4,6,7,8] (by rfl) fun K hK=>?_;simp+decide only[qa,ev,qI,qG,putD,VM,VN,Ka,true_and,↓qd,qb];apply hK;clear hK K;refine qJ ?_;refine awp_rseq [0,3,4,6,7,8,9] (by rfl) fun K hK=>?_;simp+decide only[qa,ev,qI,qG,putD,VM,VN,Ka,true_and,↓qd,qb];apply hK;clear hK K;refine Qj ?_;refine Xj [0,3,4,6,7,8,9] (fun g:Nat×Option Buf=>[(0,v),(3, .func 27 []),(4, .ptr (.own kp) 0),(6, .slice (.own ka) 0 8 (.exact 8)),(7, .slice (.own kr) 0 6 (.exact 6)),(8,QH 5 g.2),(9, .int .i64 g.1)]) (fun g:Nat×Option Buf=>QG B g.2) (fun g:Nat×Option Buf=>Of1 B x g) (fun g:Nat×Option Buf=>60-g.1) (0,none) (by rfl) (Vl _) ⟨Js _,Js _,trivial,rfl⟩ ?_;rintro⟨i,tb⟩ ⟨g1,g4,g2,g3⟩;simp only at g1 g2 g3 g4|-
 have hbl:=QW 5 tb;have hSb:Sub h (QG B tb):=hBs.trans (BH g2);refine qJ ?_;refine awp_rseq [0,3,4,6,7,8,9,106] (by rfl) fun K hK=>?_;simp+decide only[qa,ev,qI,qG,putD,VM,VO,VN,Ka,true_and,↓qg,qc,↓Xc,Qv,↓qw,ql,qP,cond_false,qo,XD,↓Xe,agP,Qw,qO,qK,qD,implies_true,↓Xd,qy,Zi,Zj,↓Xa,Qy,Qk,Xk,Xv,hlen];apply hK;clear hK K;refine qH (b:=_) rfl (fun hb1=>?_) (fun hb1=>?_)
 ·try simp only[decide_eq_true_eq,Kw]at hb1
  have hi:i<x.length:=by omega
  have hi2:i<60:=by omega
  obtain⟨lc,o,cp,e⟩:=hv.open (fun e=>by rw[VU]at e;subst e;simp at hi);rw[Jo]at e;subst e;have he:=(hv.mono hSb).elem (i:=i) (by rw[Jo];exact hi);rw[getD_map 0 hi,BI]at he;simp only[qf,qdl,List.cons.injEq,and_true]at he;obtain⟨n,hn⟩:∃n,n=(x.getD i 0).toNat:=⟨_,rfl⟩
  have hn8:n<256:=by rw[hn];exact UInt8.toNat_lt _
  have hst:=raw_step hi;obtain⟨l,hl0⟩:∃l,l=qcM ((x.take i).map Ea):=⟨_,rfl⟩
  have hll:l.length<=840:=by rw[hl0];exact qrA x (by omega)
  rw[<-hl0,<-hn]at hst;rw[<-hl0]at g3;rw[<-hn]at he;have m8:Ex (n:Int) 8=((n%8:Nat):Int):=by rw[Ey (by omega)];omega
  have m6:Ex (n:Int) 6=((n%6:Nat):Int):=by rw[Ey (by omega)];omega
  have hP:IsL wz (QG B tb) 5 (.slice (.own ka) 0 plainC.length (.exact 8)) (plainC.map QM):=V8 (ZE g2 b2) Xn rfl rfl (.exact 8) (KJ _);obtain⟨t,ht⟩:∃t,t=plainC.getD (n%8) XZ:=⟨_,rfl⟩
  obtain⟨p0,p1,p2,p3,p4⟩:=YL hP (i:=n%8) (by show n%8<8;omega);rw[<-ht]at p0 p1 p2 p3 p4;rw[Jr]at p0 p1 p2 p3 p4;have p2':rd wz (QG B tb) (.own ka) (n%8*5+1+1)= .int .i64 t.line:=p2;have p3':rd wz (QG B tb) (.own ka) (n%8*5+1+1+1)= .int .i64 t.col:=p3;have p4':rd wz (QG B tb) (.own ka) (n%8*5+1+1+1+1)= .bool t.left:=p4;have hcut:=qpK ⟨n%8,by omega⟩;simp only at hcut;have hcut1:List.take ((((n%8:Nat):Int)+1).toNat-n%8) (List.drop (n%8) ([48,49,50,51,52,53,54,55]:Str))=[KC (48+n%8)]:=by
   rw[show(((n%8:Nat):Int)+1).toNat=n%8+1 by omega];exact hcut
  obtain⟨nm,hnm⟩:∃nm,nm=qrJ n:=⟨_,rfl⟩
  refine qN ?_;change Awp _ _ _ _ _ _ _;refine qJ ?_;refine Qj ?_;refine awp_rseq [0,3,4,6,7,8,9,10] (by rfl) fun K hK=>?_;simp+decide only[qa,ev,putD,VM,VO,VN,Ka,true_and,↓qg,qc,↓Qp,qY,qU Tryz.underlying23 sz5,↓qF,qz ag5,↓qkw _ _ _ (es_int Tryz.underlying5 Tryz.underlying3),qcC,qln Tryz.underlying5 Tryz.underlying3,↓qd,qb,qi,he,Vq,BI];try simp(disch:=omega)only[wrap_i64]
  repeat (with_reducible refine And.intro ?_ ?_;· first|trivial|omega|(intro hg;simp only[Kw,JV,Ji,VP,VQ,VS,decide_eq_true_eq,decide_eq_false_iff_not,XK]at hg;omega)|(simp only[Jb,Jo,Er,Es,K4,K5,KX,J8,Et,V4];omega))
  apply hK;clear hK K;refine qJ ?_;refine awp_rseq [0,3,4,6,7,8,9,10,115] (by rfl) fun K hK=>?_;simp+decide only[qa,ev,qI,qG,putD,VM,VO,VN,Ka,true_and,↓qg,qc,↓qw,ql,qy,cond_false,qo,XD];apply hK;clear hK K;refine qH (b:=_) rfl (fun hb2=>?_) (fun hb2=>?_)
  ·try simp only[decide_eq_true_eq]at hb2
   refine awp_rseq [0,3,4,6,7,8,9] (by rfl) fun K hK=>?_;simp+decide only[ev,qI,qG,putD,VM,VO,Ka,true_and,↓qg,qc,↓qw,ql,qy,cond_false,qo,qjG,↓Qp,qY,qU Tryz.underlying26 Xb,↓qF,qh Zv Xb,qf,Jr,qC,qi,qE,allLive,JS,Vq,Jr,p0,p1,p2',p3',p4',Jr,m8,Vq];repeat (with_reducible refine And.intro ?_ ?_;· first|trivial|omega|(intro hg;simp only[Kw,JV,Ji,VP,VQ,VS,decide_eq_true_eq,decide_eq_false_iff_not,XK]at hg;omega)|(simp only[Jb,Jo,Er,Es,K4,K5,KX,J8,Et,V4];omega))
   refine QA (cs:=QM (t)) (by kernel_rfl) fun k12q6 hk12q6=>?_;try have hf_12q6:h k12q6=none:=by first|assumption|(simp only[V7]at hk12q6;simp only[hk12q6])
   refine XH (es:=5) (zs:=(l).map QM) (xs:=[t].map QM) (hZ:=B) (b:=tb) (by rfl) (by rfl) Tryz.underlying26 Tryz.underlying26 (fun k e=>by cases e) Xb qkZ qaD (by rfl) (by decide) (by rfl) g2 g3 Xn (Vg (by assumption)) (by rfl) (V8 (Vd _ _ _) (by simp[QM]) (by rfl) (by rfl) (.exact 1) (KJ _)) (by rfl) (by simp;omega) (by simp;omega) fun tb2 htb2 o1tb2 o2tb2 o3tb2=>?_;simp+decide only[qa,ev,putD,VM,VO,VN,Ka,true_and,↓qd,qb];apply hK;clear hK K;refine Xm ?_;change Awp _ _ _ _ _ _ _;refine XE [0,3,4,6,7,8,9] (by rfl) ?_;simp+decide only[qa,ev,qI,qG,putD,VM,VO,VN,Ka,true_and,↓qg,qc,↓qw,ql,qy,cond_false,qo,QS,↓qd,qb];try simp(disch:=omega)only[wrap_i64]
   try simp only[Qf]
   first
   |exact⟨(i+1,tb2),rfl,o3tb2,⟨hi,hi2,o1tb2,by simp only;rw[o2tb2,hst,qia (by omega),ht];simp⟩,by simp only;omega⟩
   |exact⟨(i+1,tb6),rfl,o3tb6,⟨hi,hi2,o1tb6,by simp only;rw[o2tb6,hst,hck (by omega),if_neg (by omega)];simp⟩,by simp only;omega⟩
   |exact⟨(i+1,tj),rfl,Vl _,⟨hi,hi2,z1,by simp only;rw[hst,hck (by omega),if_pos (by omega),Be];exact z2⟩,by simp only;omega⟩
  ·try simp only[decide_eq_false_iff_not]at hb2
   refine qN ?_;change Awp _ _ _ _ _ _ _;refine awp_rseq [0,3,4,6,7,8,9,10,11] (by rfl) fun K hK=>?_;simp+decide only[ev,qI,qG,putD,VM,VO,Ka,true_and,↓qg,qc,↓qw,ql,qy,cond_false,qo,qjG,QS,m8];try simp(disch:=omega)only[wrap_i64]
   try simp+decide only[qa,ev,qI,qG,putD,VM,VO,VN,Ka,true_and,↓Wp,ZA,evO,qca Tryz.underlying9,qaa,Ul,↓qw,ql,qP,cond_false,Za,qdS,↓qd,qb,Vq,hcut1]
   repeat (with_reducible refine And.intro ?_ ?_;· first|trivial|omega|(intro hg;simp only[Kw,JV,Ji,VP,VQ,VS,decide_eq_true_eq,decide_eq_false_iff_not,XK]at hg;omega)|(simp only[KX,J8];omega))
   apply hK;clear hK K;refine qJ ?_;refine awp_rseq [0,3,4,6,7,8,9,10,11,132] (by rfl) fun K hK=>?_;simp+decide only[qa,ev,qI,qG,putD,VM,VO,VN,Ka,true_and,↓qg,qc,↓qw,ql,qy,cond_false,qo,XT];apply hK;clear hK K;refine Uo [0,3,4,6,7,8,9,10,11] (fun z:Unit=>[(0, .slice lc o x.length cp),(3, .func 27 []),(4, .ptr (.own kp) 0),(6, .slice (.own ka) 0 8 (.exact 8)),(7, .slice (.own kr) 0 6 (.exact 6)),(8,QH 5 tb),(9, .int .i64 i),(10, .int .i64 n),(11, .str nm)]) (fun z:Unit=>QG B tb) (fun z:Unit=>True) ?_ ?_
   ·refine qH (b:=_) rfl (fun hb3=>?_) (fun hb3=>?_)
    ·try simp only[decide_eq_true_eq]at hb3
     have hN:nm=[77,57]:=by rw[hnm];unfold qrJ;rw[if_pos (by omega)]
     refine XE [0,3,4,6,7,8,9,10,11] (by rfl) ?_;simp+decide only[qa,ev,qI,qG,putD,VM,VN,Ka,true_and,and_true,↓qd,qb];try simp only[Qf]
     first
     |exact⟨(),by rw[hN]<;>rfl,Vl _⟩
     |exact⟨(),by rw[hN,<-hcut1]<;>rfl,Vl _,trivial⟩
    ·try simp only[decide_eq_false_iff_not]at hb3
     have hN:nm=[77]++[KC (48+n%8)]:=by rw[hnm];unfold qrJ;rw[if_neg (by omega)];rfl
     refine qN ?_;try simp only[Qf]
     first
     |exact⟨(),by rw[hN]<;>rfl,Vl _⟩
     |exact⟨(),by rw[hN,<-hcut1]<;>rfl,Vl _,trivial⟩
   ·rintro z-
    refine awp_rseq [0,3,4,6,7,8,9,10] (by rfl) fun K hK=>?_;simp+decide only[ev,putD,VM,VO,Ka,true_and,↓qg,qc];refine qM (V:= .agg [.int .u8 1, .str [67,79,80,89], .int .i64 0, .int .i64 0, .bool false]) (by rfl) (by rfl) (Zd wz _ _) ?_;simp+decide only[ev,putD,VM,VO,Ka,true_and,↓qg,qc];refine qM (V:= .agg [.int .u8 1, .str nm, .int .i64 0, .int .i64 0, .bool false]) (by rfl) (by rfl) (Zd wz _ _) ?_;refine QA (cs:=QM (wd COPY)++QM (wd nm)) (by kernel_rfl) fun k16q6 hk16q6=>?_;try have hf_16q6:h k16q6=none:=by first|assumption|(simp only[V7]at hk16q6;simp only[hk16q6])
    refine XH (es:=5) (zs:=(l).map QM) (xs:=[wd COPY,wd nm].map QM) (hZ:=B) (b:=tb) (by rfl) (by rfl) Tryz.underlying26 Tryz.underlying26 (fun k e=>by cases e) Xb qkZ qaD (by rfl) (by decide) (by rfl) g2 g3 Xn (Vg (by assumption)) (by rfl) (V8 (Vd _ _ _) (by simp[QM]) (by rfl) (by rfl) (.exact 2) (KJ _)) (by rfl) (by simp;omega) (by simp;omega) fun tb3 htb3 o1tb3 o2tb3 o3tb3=>?_;simp+decide only[qa,ev,putD,VM,VO,VN,Ka,true_and,↓qd,qb];apply hK;clear hK K;refine qJ ?_;refine BG (h':=QG B tb3) o3tb3 ?_;refine awp_rseq [0,3,4,6,7,8,9,10,142] (by rfl) fun K hK=>?_;simp+decide only[qa,ev,qI,qG,putD,VM,VO,VN,Ka,true_and,↓qg,qc,↓qw,ql,qy,cond_false,qo,Ub];apply hK;clear hK K;refine Uo [0,3,4,6,7,8,9,10] (fun z:Option Buf=>[(0, .slice lc o x.length cp),(3, .func 27 []),(4, .ptr (.own kp) 0),(6, .slice (.own ka) 0 8 (.exact 8)),(7, .slice (.own kr) 0 6 (.exact 6)),(8,QH 5 z),(9, .int .i64 i),(10, .int .i64 n)]) (fun z:Option Buf=>QG B z) (fun z:Option Buf=>bufOk B 5 z/\Yn z=((l++(wd COPY::wd nm::if 200<=n then wd ZN::pairsC.getD (n%6) []else[])).map QM).flatten) ?_ ?_
    ·refine qH (b:=_) rfl (fun hb4=>?_) (fun hb4=>?_)
     ·try simp only[decide_eq_true_eq]at hb4
      obtain⟨sl,hsl⟩:∃sl,sl=rs.getD (n%6) .dead:=⟨_,rfl⟩
      have hsI:=b4 (n%6) (by omega);rw[<-hsl]at hsI;have hsv:=hsI.live;have r6:rd wz B (.own kr) (n%6)=sl:=by rw[hsl];exact QC wz b3 _
      refine qri [0,1,2,5,6,7,8,9,3,4,10,11] [0,0,1,2,2,2,2,2,0,0,0,0] [none,none,none,none,none,none,none,none,none,some 8,some 9,some 10] 9 (B) mixed (by kernel_rfl) (by rfl) (BH o1tb3) ?_;simp only[Yl,VI,Ee,Ky,KL];simp+decide only[qa,ev,putD,VM,VO,Ka,true_and,qlw,Un,↓qg,qc];refine qsV (V:= .agg [.int .u8 1, .str [82,69,80,76,65,67,73,78,71], .int .i64 0, .int .i64 0, .bool false]) (fun g hg=>?_) ?_
      ·exact qM (V:= .agg [.int .u8 1, .str [82,69,80,76,65,67,73,78,71], .int .i64 0, .int .i64 0, .bool false]) (by rfl) (by rfl) (Zd wz _ _) ⟨rfl,rfl⟩
      simp+decide only[qa,ev,qI,qG,putD,VM,VO,Ka,true_and,qlw,qsU,qlu,qnZ,↓qg,qc,↓qw,ql,qy,cond_false,qo,qjG,↓Qp,qY,qU Tryz.underlying67 sz26,↓qF,qz UU,Jr,Vq,BI,Jr,r6,hsv,m6,Vq,BI,Jr];repeat (with_reducible refine And.intro ?_ ?_;· first|trivial|omega|(intro hg;simp only[Kw,JV,Ji,VP,VQ,VS,decide_eq_true_eq,decide_eq_false_iff_not,XK]at hg;omega)|(simp only[Jb,Jo,Er,Es,K4,K5,KX,J8,Et,V4];omega))
      refine QA (cs:=QM (wd ZN)) (by kernel_rfl) fun k18q3 hk18q3=>?_;try have hf_18q3:h k18q3=none:=by first|assumption|(simp only[V7]at hk18q3;simp only[hk18q3])
      rw[qa];refine And.intro (by first|exact Vl _|assumption|exact Vg (by assumption)) ?_;simp+decide only[putD,VM,Ka];refine XH (es:=5) (zs:=(l++[wd COPY,wd nm]).map QM) (xs:=[wd ZN].map QM) (hZ:=B) (b:=tb3) (by rfl) (by rfl) Tryz.underlying26 Tryz.underlying26 (fun k e=>by cases e) Xb qkZ qaD (by rfl) (by decide) (by rfl) o1tb3 (by rw[o2tb3];simp) Xn (Vg (by assumption)) (by rfl) (V8 (Vd _ _ _) (by simp[QM]) (by rfl) (by rfl) (.exact 1) (KJ _)) (by rfl) (by simp;omega) (by simp;omega) fun tb4 htb4 o1tb4 o2tb4 o3tb4=>?_;have hSg4:Sub B htb4:=BJ (BH o1tb4) o3tb4;rw[qa];refine And.intro (by first|exact Vl _|assumption|exact Vg (by assumption)) ?_;simp+decide only[putD,VM,Ka];refine XH (es:=5) (zs:=(l++[wd COPY,wd nm]++[wd ZN]).map QM) (xs:=(pairsC.getD (n%6) []).map QM) (hZ:=B) (b:=tb4) (by rfl) (by rfl) Tryz.underlying26 Tryz.underlying26 (fun k e=>by cases e) Xb qkZ qaD (by rfl) (by decide) (by rfl) o1tb4 (by rw[o2tb4];simp) Xn o3tb4 (by rfl) (hsI.mono (BJ (BH o1tb4) o3tb4)) (qpa _) (by have:=qhI ⟨n%6,by omega⟩;simp only[Jo,Jb,KX,J8]at this|-;omega) (by have:=qhI ⟨n%6,by omega⟩;simp only[Jo,Jb,KX,J8]at this|-;omega) fun tb5 htb5 o1tb5 o2tb5 o3tb5=>?_;have hSg5:Sub B htb5:=BJ (BH o1tb5) o3tb5;rw[qa];refine And.intro (by first|exact Vl _|assumption|exact Vg (by assumption)) ?_;simp+decide only[qa,ev,putD,VM,VO,Ka,true_and,↓qd,qb,hSg5];try simp only[Qf]
      first
      |exact⟨tb5,rfl,o3tb5,o1tb5,by rw[o2tb5,if_pos (by omega)];simp⟩
      |exact⟨tb3,rfl,Vl _,o1tb3,by rw[o2tb3,if_neg (by omega)];simp⟩
     ·try simp only[decide_eq_false_iff_not]at hb4
      refine qN ?_;try simp only[Qf]
      first
      |exact⟨tb5,rfl,o3tb5,o1tb5,by rw[o2tb5,if_pos (by omega)];simp⟩
      |exact⟨tb3,rfl,Vl _,o1tb3,by rw[o2tb3,if_neg (by omega)];simp⟩
    ·rintro tj ⟨z1,z2⟩
     have hbj:=QW 5 tj;obtain⟨q0,q1,q2,q3,q4⟩:rd wz (QG B tj) (.own kp) 0= .int .u8 6/\rd wz (QG B tj) (.own kp) 1= .str [46]/\rd wz (QG B tj) (.own kp) 2= .int .i64 0/\rd wz (QG B tj) (.own kp) 3= .int .i64 0/\rd wz (QG B tj) (.own kp) 4= .bool false:=⟨qfS wz z1 b1 0,qfS wz z1 b1 1,qfS wz z1 b1 2,qfS wz z1 b1 3,qfS wz z1 b1 4⟩
     obtain⟨lz,hlz⟩:∃lz,lz=l++(wd COPY::wd nm::if 200<=n then wd ZN::pairsC.getD (n%6) []else[]):=⟨_,rfl⟩
     have hlzl:lz.length<=900:=by
      have:=qhI ⟨n%6,by omega⟩;rw[hlz];split<;>simp only[Jb,KX,J8]at this|- <;>omega
     rw[<-hlz]at z2;have hck:¬n<160->l++qcS n=lz++(if n=254 then[]else[qnK]):=by
      intro h160;unfold qcS;rw[if_neg h160,hlz,hnm];simp
     refine awp_rseq [0,3,4,6,7,8,9,155] (by rfl) fun K hK=>?_;simp+decide only[qa,ev,qI,qG,putD,VM,VO,VN,Ka,true_and,↓qg,qc,↓qw,ql,qy,cond_false,qo,Ua];apply hK;clear hK K;refine qH (b:=_) rfl (fun hb5=>?_) (fun hb5=>?_)
     ·try simp only[decide_eq_false_iff_not,Ji]at hb5
      refine XE [0,3,4,6,7,8,9] (by rfl) ?_;simp+decide only[ev,putD,VM,VO,Ka,true_and,↓qg,qc,↓qF,qY,qh Zv Xb,qf,Jr,Nat.reduceAdd,qC,qi,qE,allLive,JS,q0,q1,q2,q3,q4];refine QA (cs:=QM (qnK)) (by kernel_rfl) fun k20q2 hk20q2=>?_;try have hf_20q2:h k20q2=none:=by first|assumption|(simp only[V7]at hk20q2;simp only[hk20q2])
      refine XH (es:=5) (zs:=(lz).map QM) (xs:=[qnK].map QM) (hZ:=B) (b:=tj) (by rfl) (by rfl) Tryz.underlying26 Tryz.underlying26 (fun k e=>by cases e) Xb qkZ qaD (by rfl) (by decide) (by rfl) z1 z2 Xn (Vg (by assumption)) (by rfl) (V8 (Vd _ _ _) (by simp[QM]) (by rfl) (by rfl) (.exact 1) (KJ _)) (by rfl) (by simp;omega) (by simp;omega) fun tb6 htb6 o1tb6 o2tb6 o3tb6=>?_;simp+decide only[qa,ev,putD,VM,VO,VN,Ka,true_and,↓qd,qb];change Awp _ _ _ _ _ _ _;refine XE [0,3,4,6,7,8,9] (by rfl) ?_;simp+decide only[qa,ev,qI,qG,putD,VM,VO,VN,Ka,true_and,↓qg,qc,↓qw,ql,qy,cond_false,qo,QS,↓qd,qb];try simp(disch:=omega)only[wrap_i64]
      try simp only[Qf]
      first
      |exact⟨(i+1,tb2),rfl,o3tb2,⟨hi,hi2,o1tb2,by simp only;rw[o2tb2,hst,qia (by omega),ht];simp⟩,by simp only;omega⟩
      |exact⟨(i+1,tb6),rfl,o3tb6,⟨hi,hi2,o1tb6,by simp only;rw[o2tb6,hst,hck (by omega),if_neg (by omega)];simp⟩,by simp only;omega⟩
      |exact⟨(i+1,tj),rfl,Vl _,⟨hi,hi2,z1,by simp only;rw[hst,hck (by omega),if_pos (by omega),Be];exact z2⟩,by simp only;omega⟩
     ·try simp only[decide_eq_true_eq,VS]at hb5
      refine qN ?_;change Awp _ _ _ _ _ _ _;refine XE [0,3,4,6,7,8,9] (by rfl) ?_;simp+decide only[qa,ev,qI,qG,putD,VM,VO,VN,Ka,true_and,↓qg,qc,↓qw,ql,qy,cond_false,qo,QS,↓qd,qb];try simp(disch:=omega)only[wrap_i64]
      try simp only[Qf]
      first
      |exact⟨(i+1,tb2),rfl,o3tb2,⟨hi,hi2,o1tb2,by simp only;rw[o2tb2,hst,qia (by omega),ht];simp⟩,by simp only;omega⟩
      |exact⟨(i+1,tb6),rfl,o3tb6,⟨hi,hi2,o1tb6,by simp only;rw[o2tb6,hst,hck (by omega),if_neg (by omega)];simp⟩,by simp only;omega⟩
      |exact⟨(i+1,tj),rfl,Vl _,⟨hi,hi2,z1,by simp only;rw[hst,hck (by omega),if_pos (by omega),Be];exact z2⟩,by simp only;omega⟩
 ·try simp only[decide_eq_false_iff_not,VP]at hb1
  refine Xm ?_;change Awp _ _ _ _ _ _ _;have hbl:=QW 5 tb;have he1:=raw_end (x:=x) (i:=i) g4 (by omega);rw[he1]at g3;refine BG (h':=QG h tb) (Ep hBs) ?_;refine Awp.keep [8] ?_;exact of_rest2 wz h (qcM (qdT x)) (raw_left (qmt x)) (V5 (by rw[<-he1];exact qrA x g4) (by decide)) tb (g2.sub hBs) g3
end Go.Proofs.YtlhhaagmakhilaaGreatDoor
namespace Go.Proofs.YtlhhaagmakhilaaGreatDoor
open Go.AM
open Go.Proofs
open Go.Col (Str FaultC okF sp)
open Go.Tok
open Go.Cop
open Go.RowKit (Below)
set_option maxRecDepth 100000
set_option maxHeartbeats 8000000 in
theorem c_Of04(wz:World)(h:AHeap)(v:AVal)(x:List UInt8)(hv:IsL wz h 1 v (x.map qdl))(hl:x.length<=9223372036854775807):
 ACall Tryz.prog wz 10 [v] h (fun r h'=>∃tb,r=QH 5 tb/\bufOk h 5 tb/\Yn tb=((lOf x).map QM).flatten/\h'=QG h tb):=by
 have hlv:=hv.live;have hlen:=hv.len Tryz.underlying23;rw[Jo]at hlen;refine qW (n:=178) (rs:=[.tmp 2]) Tryz.func10 rfl rfl rfl rfl (VL rfl) ?_;simp only[Qe];refine awp_rseq [0] (by rfl) fun K hK=>?_;simp+decide only[qa,ev,qI,qG,putD,VM,VN,Ka,true_and,↓qd,qb];apply hK;clear hK K;refine awp_rseq [0,3] (by rfl) fun K hK=>?_;simp+decide only[qa,ev,putD,VM,VN,Ka,true_and,↓qd,qb];apply hK;clear hK K;refine awp_rseq [0,3,4] (by rfl) fun K hK=>?_;simp+decide only[ev,qI,qG,putD,VM,VO,if_false,true_and,↓Qo,↓qZ,UT,evP,Kc,Vj];refine Qi qaD (cs:=[.int .u8 0, .str [], .int .i64 0, .int .i64 0, .bool false]) (by rfl) fun k2q1 hk2q1=>?_;try have hf_2q1:h k2q1=none:=by first|assumption|(simp only[V7]at hk2q1;simp only[hk2q1])
 refine qp (by rfl) (by rfl) zqA Xb (by rfl) (by rfl) zqD (Js _) (by rfl) ?_;simp only[Vh,VV];simp+decide only[qa,ev,putD,VM,VO,VN,Ka,setAt,VW,Ki,Jr,Nat.reduceAdd];apply hK;clear hK K;refine awp_rseq [0,3,4,5] (by rfl) fun K hK=>?_;simp+decide only[ev,qI,qG,putD,VM,VO,if_false,true_and,↓Qo,↓qZ,UT,evP,Kc,Vj];refine Qi qaD (cs:=[.int .u8 0, .str [], .int .i64 0, .int .i64 0, .bool false]) (by rfl) fun k3q1 hk3q1=>?_;have ne_3q1_2q1:k3q1≠k2q1:=by simp only[V7]at hk3q1;simp only[hk3q1,ne_eq,not_false_eq_true]
 try have hf_3q1:h k3q1=none:=by first|assumption|(simp only[V7]at hk3q1;simp only[hk3q1])
 refine qp (by rfl) (by rfl) zqA Xb (by rfl) (by rfl) zqD (Js _) (by rfl) ?_;simp only[Vh,VV];simp+decide only[qa,ev,putD,VM,VO,VN,Ka,setAt,VW,Ki,Jr,Nat.reduceAdd];apply hK;clear hK K;refine YS 14 [] [0,3,4,5,6] mixed (by kernel_rfl) (by rfl) fun K hK=>?_;simp only[Kh,VB,Ez,EA];simp+decide only[qa,ev,putD,VM,VO,Ka,true_and,↓XR,qc];refine Xt (V:= .agg [.int .u8 1, .str [65], .int .i64 0, .int .i64 0, .bool false]) (by rfl) (by rfl) (by first|trivial|(simp+decide only[Bb,XF,and_true,true_and,Qu,Wz,Vd,JJ];done)|(simp[Bb,XF,Bd];done)) (fun g hg=>Zd wz _ _) ?_;simp+decide only[ev,putD,VM,VO,Ka,true_and,↓XR,qc];refine Xt (V:= .agg [.int .u8 1, .str [66], .int .i64 0, .int .i64 0, .bool false]) (by rfl) (by rfl) (by first|trivial|(simp+decide only[Bb,XF,and_true,true_and,Qu,Wz,Vd,JJ];done)|(simp[Bb,XF,Bd];done)) (fun g hg=>Zd wz _ _) ?_;simp+decide only[ev,putD,VM,VO,Ka,true_and,↓XR,qc];refine Xt (V:= .agg [.int .u8 1, .str [67], .int .i64 0, .int .i64 0, .bool false]) (by rfl) (by rfl) (by first|trivial|(simp+decide only[Bb,XF,and_true,true_and,Qu,Wz,Vd,JJ];done)|(simp[Bb,XF,Bd];done)) (fun g hg=>Zd wz _ _) ?_;simp+decide only[ev,putD,VM,VO,Ka,true_and,↓XR,qc];refine Xt (V:= .agg [.int .u8 1, .str [66,89], .int .i64 0, .int .i64 0, .bool false]) (by rfl) (by rfl) (by first|trivial|(simp+decide only[Bb,XF,and_true,true_and,Qu,Wz,Vd,JJ];done)|(simp[Bb,XF,Bd];done)) (fun g hg=>Zd wz _ _) ?_;simp+decide only[ev,qI,qG,putD,VM,VO,Ka,true_and,↓UH,↓qZ,UT,evP,Kc,Vj,↓ZG,XM,qh Zv Xb,QZ,ne_eq,not_false_eq_true,ne_3q1_2q1.symm,QN,qf,VX,Km,Jr,Nat.reduceAdd,qC,qi,qE,allLive,JS];refine WT (cs:=[.int .u8 1, .str [65], .int .i64 0, .int .i64 0, .bool false, .int .u8 1, .str [66], .int .i64 0, .int .i64 0, .bool false, .int .u8 1, .str [67], .int .i64 0, .int .i64 0, .bool false, .int .u8 1, .str [66,89], .int .i64 0, .int .i64 0, .bool false, .int .u8 2, .str [53], .int .i64 0, .int .i64 0, .bool false, .int .u8 3, .str [65], .int .i64 0, .int .i64 0, .bool false, .int .u8 6, .str [46], .int .i64 0, .int .i64 0, .bool false, .int .u8 5, .str [40], .int .i64 0, .int .i64 0, .bool false]) (by kernel_rfl) fun k4q12 hk4q12=>?_;have ne_4q12_2q1:k4q12≠k2q1:=by simp only[V7]at hk4q12;simp only[hk4q12,ne_eq,not_false_eq_true]
 have ne_4q12_3q1:k4q12≠k3q1:=by simp only[V7]at hk4q12;simp only[hk4q12,ne_eq,not_false_eq_true]
 try have hf_4q12:h k4q12=none:=by first|assumption|(simp only[V7]at hk4q12;simp only[hk4q12])
 simp+decide only[Yz,ev,putD,VM,VO,VN,Ka,true_and,↓qbK,qb];apply hK;clear hK K;refine YS 72 [] [0,3,4,6,7] mixed (by kernel_rfl) (by rfl) fun K hK=>?_;simp only[List.append_eq,Kg,List.nil_append];simp only[Kh,VB,Ez,EA];simp+decide only[qa,ev,putD,VM,VO,Ka,true_and,↓XR,qc];refine Xt (V:= .agg [.int .u8 1, .str [65], .int .i64 0, .int .i64 0, .bool false]) (by rfl) (by rfl) (by first|trivial|(simp+decide only[Bb,XF,and_true,true_and,Qu,Wz,Vd,JJ];done)|(simp[Bb,XF,Bd];done)) (fun g hg=>Zd wz _ _) ?_;simp+decide only[ev,putD,VM,VO,Ka,true_and,↓XR,qc];refine Xt (V:= .agg [.int .u8 1, .str [66,89], .int .i64 0, .int .i64 0, .bool false]) (by rfl) (by rfl) (by first|trivial|(simp+decide only[Bb,XF,and_true,true_and,Qu,Wz,Vd,JJ];done)|(simp[Bb,XF,Bd];done)) (fun g hg=>Zd wz _ _) ?_;simp+decide only[ev,putD,VM,VO,Ka,true_and,↓XR,qc];refine Xt (V:= .agg [.int .u8 1, .str [66], .int .i64 0, .int .i64 0, .bool false]) (by rfl) (by rfl) (by first|trivial|(simp+decide only[Bb,XF,and_true,true_and,Qu,Wz,Vd,JJ];done)|(simp[Bb,XF,Bd];done)) (fun g hg=>Zd wz _ _) ?_;refine WT (cs:=[.int .u8 1, .str [65], .int .i64 0, .int .i64 0, .bool false, .int .u8 1, .str [66,89], .int .i64 0, .int .i64 0, .bool false, .int .u8 1, .str [66], .int .i64 0, .int .i64 0, .bool false]) (by kernel_rfl) fun k5q6 hk5q6=>?_;have ne_5q6_2q1:k5q6≠k2q1:=by simp only[V7]at hk5q6;simp only[hk5q6,ne_eq,not_false_eq_true]
 have ne_5q6_3q1:k5q6≠k3q1:=by simp only[V7]at hk5q6;simp only[hk5q6,ne_eq,not_false_eq_true]
 have ne_5q6_4q12:k5q6≠k4q12:=by simp only[V7]at hk5q6;simp only[hk5q6,ne_eq,not_false_eq_true]
 try have hf_5q6:h k5q6=none:=by first|assumption|(simp only[V7]at hk5q6;simp only[hk5q6])
 simp+decide only[ev,putD,VM,VO,Ka,true_and,↓XR,qc];refine Xt (V:= .agg [.int .u8 1, .str [66], .int .i64 0, .int .i64 0, .bool false]) (by rfl) (by rfl) (by first|trivial|(simp+decide only[Bb,XF,and_true,true_and,Qu,Wz,Vd,JJ];done)|(simp[Bb,XF,Bd];done)) (fun g hg=>Zd wz _ _) ?_;simp+decide only[ev,putD,VM,VO,Ka,true_and,↓XR,qc];refine Xt (V:= .agg [.int .u8 1, .str [66,89], .int .i64 0, .int .i64 0, .bool false]) (by rfl) (by rfl) (by first|trivial|(simp+decide only[Bb,XF,and_true,true_and,Qu,Wz,Vd,JJ];done)|(simp[Bb,XF,Bd];done)) (fun g hg=>Zd wz _ _) ?_;simp+decide only[ev,putD,VM,VO,Ka,true_and,↓XR,qc];refine Xt (V:= .agg [.int .u8 1, .str [65], .int .i64 0, .int .i64 0, .bool false]) (by rfl) (by rfl) (by first|trivial|(simp+decide only[Bb,XF,and_true,true_and,Qu,Wz,Vd,JJ];done)|(simp[Bb,XF,Bd];done)) (fun g hg=>Zd wz _ _) ?_;simp+decide only[ev,putD,VM,VO,Ka,true_and,↓XR,qc];refine Xt (V:= .agg [.int .u8 1, .str [65], .int .i64 0, .int .i64 0, .bool false]) (by rfl) (by rfl) (by first|trivial|(simp+decide only[Bb,XF,and_true,true_and,Qu,Wz,Vd,JJ];done)|(simp[Bb,XF,Bd];done)) (fun g hg=>Zd wz _ _) ?_;simp+decide only[ev,putD,VM,VO,Ka,true_and,↓XR,qc];refine Xt (V:= .agg [.int .u8 1, .str [66,89], .int .i64 0, .int .i64 0, .bool false]) (by rfl) (by rfl) (by first|trivial|(simp+decide only[Bb,XF,and_true,true_and,Qu,Wz,Vd,JJ];done)|(simp[Bb,XF,Bd];done)) (fun g hg=>Zd wz _ _) ?_;simp+decide only[ev,putD,VM,VO,Ka,true_and,↓XR,qc];refine Xt (V:= .agg [.int .u8 1, .str [67], .int .i64 0, .int .i64 0, .bool false]) (by rfl) (by rfl) (by first|trivial|(simp+decide only[Bb,XF,and_true,true_and,Qu,Wz,Vd,JJ];done)|(simp[Bb,XF,Bd];done)) (fun g hg=>Zd wz _ _) ?_;refine WT (cs:=[.int .u8 1, .str [66], .int .i64 0, .int .i64 0, .bool false, .int .u8 1, .str [66,89], .int .i64 0, .int .i64 0, .bool false, .int .u8 1, .str [65], .int .i64 0, .int .i64 0, .bool false, .int .u8 1, .str [65], .int .i64 0, .int .i64 0, .bool false, .int .u8 1, .str [66,89], .int .i64 0, .int .i64 0, .bool false, .int .u8 1, .str [67], .int .i64 0, .int .i64 0, .bool false]) (by kernel_rfl) fun k5q19 hk5q19=>?_;have ne_5q19_2q1:k5q19≠k2q1:=by simp only[V7]at hk5q19;simp only[hk5q19,ne_eq,not_false_eq_true]
 have ne_5q19_3q1:k5q19≠k3q1:=by simp only[V7]at hk5q19;simp only[hk5q19,ne_eq,not_false_eq_true]
 have ne_5q19_4q12:k5q19≠k4q12:=by simp only[V7]at hk5q19;simp only[hk5q19,ne_eq,not_false_eq_true]
 have ne_5q19_5q6:k5q19≠k5q6:=by simp only[V7]at hk5q19;simp only[hk5q19,ne_eq,not_false_eq_true]
 try have hf_5q19:h k5q19=none:=by first|assumption|(simp only[V7]at hk5q19;simp only[hk5q19])
 simp+decide only[ev,putD,VM,VO,Ka,true_and,↓ZG,XM,qh Zv Xb,↓XR,qc,QZ,ne_eq,not_false_eq_true,ne_4q12_3q1.symm,ne_5q6_3q1.symm,ne_5q19_3q1.symm,QN,qf,VX,Km,Jr,Nat.reduceAdd,qC,qi,qE,allLive,JS];refine Xt (V:= .agg [.int .u8 1, .str [65], .int .i64 0, .int .i64 0, .bool false]) (by rfl) (by rfl) (by first|trivial|(simp+decide only[Bb,XF,and_true,true_and,Qu,Wz,Vd,JJ];done)|(simp[Bb,XF,Bd];done)) (fun g hg=>Zd wz _ _) ?_;simp+decide only[ev,putD,VM,VO,Ka,true_and,↓XR,qc];refine Xt (V:= .agg [.int .u8 1, .str [66], .int .i64 0, .int .i64 0, .bool false]) (by rfl) (by rfl) (by first|trivial|(simp+decide only[Bb,XF,and_true,true_and,Qu,Wz,Vd,JJ];done)|(simp[Bb,XF,Bd];done)) (fun g hg=>Zd wz _ _) ?_;simp+decide only[ev,putD,VM,VO,Ka,true_and,↓ZG,XM,qh Zv Xb,↓XR,qc,QZ,ne_eq,not_false_eq_true,ne_4q12_3q1.symm,ne_5q6_3q1.symm,ne_5q19_3q1.symm,QN,qf,VX,Km,Jr,Nat.reduceAdd,qC,qi,qE,allLive,JS];refine Xt (V:= .agg [.int .u8 1, .str [66,89], .int .i64 0, .int .i64 0, .bool false]) (by rfl) (by rfl) (by first|trivial|(simp+decide only[Bb,XF,and_true,true_and,Qu,Wz,Vd,JJ];done)|(simp[Bb,XF,Bd];done)) (fun g hg=>Zd wz _ _) ?_;simp+decide only[ev,putD,VM,VO,Ka,true_and,↓ZG,XM,qh Zv Xb,QZ,ne_eq,not_false_eq_true,ne_4q12_3q1.symm,ne_5q6_3q1.symm,ne_5q19_3q1.symm,QN,qf,VX,Km,Jr,Nat.reduceAdd,qC,qi,qE,allLive,JS];refine WT (cs:=[.int .u8 7, .str [61,61], .int .i64 0, .int .i64 0, .bool false, .int .u8 1, .str [65], .int .i64 0, .int .i64 0, .bool false, .int .u8 1, .str [66], .int .i64 0, .int .i64 0, .bool false, .int .u8 7, .str [61,61], .int .i64 0, .int .i64 0, .bool false, .int .u8 1, .str [66,89], .int .i64 0, .int .i64 0, .bool false, .int .u8 7, .str [61,61], .int .i64 0, .int .i64 0, .bool false, .int .u8 7, .str [61,61], .int .i64 0, .int .i64 0, .bool false]) (by kernel_rfl) fun k5q30 hk5q30=>?_;have ne_5q30_2q1:k5q30≠k2q1:=by simp only[V7]at hk5q30;simp only[hk5q30,ne_eq,not_false_eq_true]
 have ne_5q30_3q1:k5q30≠k3q1:=by simp only[V7]at hk5q30;simp only[hk5q30,ne_eq,not_false_eq_true]
 have ne_5q30_4q12:k5q30≠k4q12:=by simp only[V7]at hk5q30;simp only[hk5q30,ne_eq,not_false_eq_true]
 have ne_5q30_5q6:k5q30≠k5q6:=by simp only[V7]at hk5q30;simp only[hk5q30,ne_eq,not_false_eq_true]
 have ne_5q30_5q19:k5q30≠k5q19:=by simp only[V7]at hk5q30;simp only[hk5q30,ne_eq,not_false_eq_true]
 try have hf_5q30:h k5q30=none:=by first|assumption|(simp only[V7]at hk5q30;simp only[hk5q30])
 simp+decide only[ev,putD,VM,VO,Ka,true_and,↓ZG,XM,qh Zv Xb,↓XR,qc,QZ,ne_eq,not_false_eq_true,ne_4q12_3q1.symm,ne_5q6_3q1.symm,ne_5q19_3q1.symm,ne_5q30_3q1.symm,QN,qf,VX,Km,Jr,Nat.reduceAdd,qC,qi,qE,allLive,JS];refine Xt (V:= .agg [.int .u8 1, .str [65], .int .i64 0, .int .i64 0, .bool false]) (by rfl) (by rfl) (by first|trivial|(simp+decide only[Bb,XF,and_true,true_and,Qu,Wz,Vd,JJ];done)|(simp[Bb,XF,Bd];done)) (fun g hg=>Zd wz _ _) ?_;simp+decide only[ev,putD,VM,VO,Ka,true_and,↓ZG,XM,qh Zv Xb,↓XR,qc,QZ,ne_eq,not_false_eq_true,ne_4q12_3q1.symm,ne_5q6_3q1.symm,ne_5q19_3q1.symm,ne_5q30_3q1.symm,QN,qf,VX,Km,Jr,Nat.reduceAdd,qC,qi,qE,allLive,JS];refine Xt (V:= .agg [.int .u8 1, .str [66,89], .int .i64 0, .int .i64 0, .bool false]) (by rfl) (by rfl) (by first|trivial|(simp+decide only[Bb,XF,and_true,true_and,Qu,Wz,Vd,JJ];done)|(simp[Bb,XF,Bd];done)) (fun g hg=>Zd wz _ _) ?_;simp+decide only[ev,putD,VM,VO,Ka,true_and,↓ZG,XM,qh Zv Xb,↓XR,qc,QZ,ne_eq,not_false_eq_true,ne_4q12_3q1.symm,ne_5q6_3q1.symm,ne_5q19_3q1.symm,ne_5q30_3q1.symm,QN,qf,VX,Km,Jr,Nat.reduceAdd,qC,qi,qE,allLive,JS];refine Xt (V:= .agg [.int .u8 1, .str [65], .int .i64 0, .int .i64 0, .bool false]) (by rfl) (by rfl) (by first|trivial|(simp+decide only[Bb,XF,and_true,true_and,Qu,Wz,Vd,JJ];done)|(simp[Bb,XF,Bd];done)) (fun g hg=>Zd wz _ _) ?_;simp+decide only[ev,putD,VM,VO,Ka,true_and,↓XR,qc];refine Xt (V:= .agg [.int .u8 1, .str [65], .int .i64 0, .int .i64 0, .bool false]) (by rfl) (by rfl) (by first|trivial|(simp+decide only[Bb,XF,and_true,true_and,Qu,Wz,Vd,JJ];done)|(simp[Bb,XF,Bd];done)) (fun g hg=>Zd wz _ _) ?_;simp+decide only[ev,putD,VM,VO,Ka,true_and,↓ZG,XM,qh Zv Xb,QZ,ne_eq,not_false_eq_true,ne_4q12_3q1.symm,ne_5q6_3q1.symm,ne_5q19_3q1.symm,ne_5q30_3q1.symm,QN,qf,VX,Km,Jr,Nat.reduceAdd,qC,qi,qE,allLive,JS];refine WT (cs:=[.int .u8 7, .str [61,61], .int .i64 0, .int .i64 0, .bool false, .int .u8 1, .str [65], .int .i64 0, .int .i64 0, .bool false, .int .u8 7, .str [61,61], .int .i64 0, .int .i64 0, .bool false, .int .u8 1, .str [66,89], .int .i64 0, .int .i64 0, .bool false, .int .u8 7, .str [61,61], .int .i64 0, .int .i64 0, .bool false, .int .u8 1, .str [65], .int .i64 0, .int .i64 0, .bool false, .int .u8 1, .str [65], .int .i64 0, .int .i64 0, .bool false, .int .u8 7, .str [61,61], .int .i64 0, .int .i64 0, .bool false]) (by kernel_rfl) fun k5q43 hk5q43=>?_;have ne_5q43_2q1:k5q43≠k2q1:=by simp only[V7]at hk5q43;simp only[hk5q43,ne_eq,not_false_eq_true]
 have ne_5q43_3q1:k5q43≠k3q1:=by simp only[V7]at hk5q43;simp only[hk5q43,ne_eq,not_false_eq_true]
 have ne_5q43_4q12:k5q43≠k4q12:=by simp only[V7]at hk5q43;simp only[hk5q43,ne_eq,not_false_eq_true]
 have ne_5q43_5q6:k5q43≠k5q6:=by simp only[V7]at hk5q43;simp only[hk5q43,ne_eq,not_false_eq_true]
 have ne_5q43_5q19:k5q43≠k5q19:=by simp only[V7]at hk5q43;simp only[hk5q43,ne_eq,not_false_eq_true]
 have ne_5q43_5q30:k5q43≠k5q30:=by simp only[V7]at hk5q43;simp only[hk5q43,ne_eq,not_false_eq_true]
 try have hf_5q43:h k5q43=none:=by first|assumption|(simp only[V7]at hk5q43;simp only[hk5q43])
 simp+decide only[ev,qI,qG,putD,VM,VO,Ka,true_and,↓UH,↓qZ,UT,evP,Kc,Vj,↓XR,qc];refine Xt (V:= .agg [.int .u8 1, .str [66,89], .int .i64 0, .int .i64 0, .bool false]) (by rfl) (by rfl) (by first|trivial|(simp+decide only[Bb,XF,and_true,true_and,Qu,Wz,Vd,JJ];done)|(simp[Bb,XF,Bd];done)) (fun g hg=>Zd wz _ _) ?_;simp+decide only[ev,putD,VM,VO,Ka,true_and,↓ZG,XM,qh Zv Xb,↓XR,qc,QZ,ne_eq,not_false_eq_true,ne_4q12_3q1.symm,ne_5q6_3q1.symm,ne_5q19_3q1.symm,ne_5q30_3q1.symm,ne_5q43_3q1.symm,QN,qf,VX,Km,Jr,Nat.reduceAdd,qC,qi,qE,allLive,JS];refine Xt (V:= .agg [.int .u8 1, .str [67,79,80,89], .int .i64 0, .int .i64 0, .bool false]) (by rfl) (by rfl) (by first|trivial|(simp+decide only[Bb,XF,and_true,true_and,Qu,Wz,Vd,JJ];done)|(simp[Bb,XF,Bd];done)) (fun g hg=>Zd wz _ _) ?_;simp+decide only[ev,putD,VM,VO,Ka,true_and,↓XR,qc];refine Xt (V:= .agg [.int .u8 1, .str [77,49], .int .i64 0, .int .i64 0, .bool false]) (by rfl) (by rfl) (by first|trivial|(simp+decide only[Bb,XF,and_true,true_and,Qu,Wz,Vd,JJ];done)|(simp[Bb,XF,Bd];done)) (fun g hg=>Zd wz _ _) ?_;simp+decide only[ev,putD,VM,VO,Ka,true_and,↓ZG,XM,qh Zv Xb,QZ,ne_eq,not_false_eq_true,ne_3q1_2q1.symm,ne_4q12_2q1.symm,ne_4q12_3q1.symm,ne_5q6_2q1.symm,ne_5q6_3q1.symm,ne_5q19_2q1.symm,ne_5q19_3q1.symm,ne_5q30_2q1.symm,ne_5q30_3q1.symm,ne_5q43_2q1.symm,ne_5q43_3q1.symm,QN,qf,VX,Km,Jr,Nat.reduceAdd,qC,qi,qE,allLive,JS];refine WT (cs:=[.int .u8 2, .str [53], .int .i64 0, .int .i64 0, .bool false, .int .u8 1, .str [66,89], .int .i64 0, .int .i64 0, .bool false, .int .u8 7, .str [61,61], .int .i64 0, .int .i64 0, .bool false, .int .u8 1, .str [67,79,80,89], .int .i64 0, .int .i64 0, .bool false, .int .u8 1, .str [77,49], .int .i64 0, .int .i64 0, .bool false, .int .u8 6, .str [46], .int .i64 0, .int .i64 0, .bool false, .int .u8 7, .str [61,61], .int .i64 0, .int .i64 0, .bool false]) (by kernel_rfl) fun k5q54 hk5q54=>?_;have ne_5q54_2q1:k5q54≠k2q1:=by simp only[V7]at hk5q54;simp only[hk5q54,ne_eq,not_false_eq_true]
 have ne_5q54_3q1:k5q54≠k3q1:=by simp only[V7]at hk5q54;simp only[hk5q54,ne_eq,not_false_eq_true]
 have ne_5q54_4q12:k5q54≠k4q12:=by simp only[V7]at hk5q54;simp only[hk5q54,ne_eq,not_false_eq_true]
 have ne_5q54_5q6:k5q54≠k5q6:=by simp only[V7]at hk5q54;simp only[hk5q54,ne_eq,not_false_eq_true]
 have ne_5q54_5q19:k5q54≠k5q19:=by simp only[V7]at hk5q54;simp only[hk5q54,ne_eq,not_false_eq_true]
 have ne_5q54_5q30:k5q54≠k5q30:=by simp only[V7]at hk5q54;simp only[hk5q54,ne_eq,not_false_eq_true]
 have ne_5q54_5q43:k5q54≠k5q43:=by simp only[V7]at hk5q54;simp only[hk5q54,ne_eq,not_false_eq_true]
 try have hf_5q54:h k5q54=none:=by first|assumption|(simp only[V7]at hk5q54;simp only[hk5q54])
 simp+decide only[ev,putD,VM,VO,Ka,true_and,↓ZG,XM,qh Zv Xb,↓XR,qc,QZ,ne_eq,not_false_eq_true,ne_3q1_2q1.symm,ne_4q12_2q1.symm,ne_4q12_3q1.symm,ne_5q6_2q1.symm,ne_5q6_3q1.symm,ne_5q19_2q1.symm,ne_5q19_3q1.symm,ne_5q30_2q1.symm,ne_5q30_3q1.symm,ne_5q43_2q1.symm,ne_5q43_3q1.symm,ne_5q54_2q1.symm,ne_5q54_3q1.symm,QN,qf,VX,Km,Jr,Nat.reduceAdd,qC,qi,qE,allLive,JS];refine Xt (V:= .agg [.int .u8 1, .str [66,89], .int .i64 0, .int .i64 0, .bool false]) (by rfl) (by rfl) (by first|trivial|(simp+decide only[Bb,XF,and_true,true_and,Qu,Wz,Vd,JJ];done)|(simp[Bb,XF,Bd];done)) (fun g hg=>Zd wz _ _) ?_;simp+decide only[ev,qI,qG,putD,VM,VO,Ka,true_and,↓UH,↓qZ,UT,evP,Kc,Vj,↓ZG,XM,qh Zv Xb,↓XR,qc,QZ,ne_eq,not_false_eq_true,ne_4q12_3q1.symm,ne_5q6_3q1.symm,ne_5q19_3q1.symm,ne_5q30_3q1.symm,ne_5q43_3q1.symm,ne_5q54_3q1.symm,QN,qf,VX,Km,Jr,Nat.reduceAdd,qC,qi,qE,allLive,JS];refine Xt (V:= .agg [.int .u8 1, .str [67], .int .i64 0, .int .i64 0, .bool false]) (by rfl) (by rfl) (by first|trivial|(simp+decide only[Bb,XF,and_true,true_and,Qu,Wz,Vd,JJ];done)|(simp[Bb,XF,Bd];done)) (fun g hg=>Zd wz _ _) ?_;simp+decide only[ev,putD,VM,VO,Ka,true_and,↓ZG,XM,qh Zv Xb,↓XR,qc,QZ,ne_eq,not_false_eq_true,ne_4q12_3q1.symm,ne_5q6_3q1.symm,ne_5q19_3q1.symm,ne_5q30_3q1.symm,ne_5q43_3q1.symm,ne_5q54_3q1.symm,QN,qf,VX,Km,Jr,Nat.reduceAdd,qC,qi,qE,allLive,JS];refine Xt (V:= .agg [.int .u8 1, .str [66,89], .int .i64 0, .int .i64 0, .bool false]) (by rfl) (by rfl) (by first|trivial|(simp+decide only[Bb,XF,and_true,true_and,Qu,Wz,Vd,JJ];done)|(simp[Bb,XF,Bd];done)) (fun g hg=>Zd wz _ _) ?_;simp+decide only[ev,putD,VM,VO,Ka,true_and,↓XR,qc];refine Xt (V:= .agg [.int .u8 1, .str [67], .int .i64 0, .int .i64 0, .bool false]) (by rfl) (by rfl) (by first|trivial|(simp+decide only[Bb,XF,and_true,true_and,Qu,Wz,Vd,JJ];done)|(simp[Bb,XF,Bd];done)) (fun g hg=>Zd wz _ _) ?_;refine WT (cs:=[.int .u8 7, .str [61,61], .int .i64 0, .int .i64 0, .bool false, .int .u8 6, .str [46], .int .i64 0, .int .i64 0, .bool false, .int .u8 7, .str [61,61], .int .i64 0, .int .i64 0, .bool false, .int .u8 1, .str [66,89], .int .i64 0, .int .i64 0, .bool false, .int .u8 3, .str [88], .int .i64 0, .int .i64 0, .bool false, .int .u8 7, .str [61,61], .int .i64 0, .int .i64 0, .bool false, .int .u8 1, .str [67], .int .i64 0, .int .i64 0, .bool false, .int .u8 7, .str [61,61], .int .i64 0, .int .i64 0, .bool false, .int .u8 1, .str [66,89], .int .i64 0, .int .i64 0, .bool false, .int .u8 1, .str [67], .int .i64 0, .int .i64 0, .bool false]) (by kernel_rfl) fun k5q69 hk5q69=>?_;have ne_5q69_2q1:k5q69≠k2q1:=by simp only[V7]at hk5q69;simp only[hk5q69,ne_eq,not_false_eq_true]
 have ne_5q69_3q1:k5q69≠k3q1:=by simp only[V7]at hk5q69;simp only[hk5q69,ne_eq,not_false_eq_true]
 have ne_5q69_4q12:k5q69≠k4q12:=by simp only[V7]at hk5q69;simp only[hk5q69,ne_eq,not_false_eq_true]
 have ne_5q69_5q6:k5q69≠k5q6:=by simp only[V7]at hk5q69;simp only[hk5q69,ne_eq,not_false_eq_true]
 have ne_5q69_5q19:k5q69≠k5q19:=by simp only[V7]at hk5q69;simp only[hk5q69,ne_eq,not_false_eq_true]
 have ne_5q69_5q30:k5q69≠k5q30:=by simp only[V7]at hk5q69;simp only[hk5q69,ne_eq,not_false_eq_true]
 have ne_5q69_5q43:k5q69≠k5q43:=by simp only[V7]at hk5q69;simp only[hk5q69,ne_eq,not_false_eq_true]
 have ne_5q69_5q54:k5q69≠k5q54:=by simp only[V7]at hk5q69;simp only[hk5q69,ne_eq,not_false_eq_true]
 try have hf_5q69:h k5q69=none:=by first|assumption|(simp only[V7]at hk5q69;simp only[hk5q69])
 refine WT (cs:=[.slice (.own k5q6) 0 3 (.exact 3), .slice (.own k5q19) 0 6 (.exact 6), .slice (.own k5q30) 0 7 (.exact 7), .slice (.own k5q43) 0 8 (.exact 8), .slice (.own k5q54) 0 7 (.exact 7), .slice (.own k5q69) 0 10 (.exact 10)]) (by kernel_rfl) fun k5q70 hk5q70=>?_;have ne_5q70_2q1:k5q70≠k2q1:=by simp only[V7]at hk5q70;simp only[hk5q70,ne_eq,not_false_eq_true]
 have ne_5q70_3q1:k5q70≠k3q1:=by simp only[V7]at hk5q70;simp only[hk5q70,ne_eq,not_false_eq_true]
 have ne_5q70_4q12:k5q70≠k4q12:=by simp only[V7]at hk5q70;simp only[hk5q70,ne_eq,not_false_eq_true]
 have ne_5q70_5q6:k5q70≠k5q6:=by simp only[V7]at hk5q70;simp only[hk5q70,ne_eq,not_false_eq_true]
 have ne_5q70_5q19:k5q70≠k5q19:=by simp only[V7]at hk5q70;simp only[hk5q70,ne_eq,not_false_eq_true]
 have ne_5q70_5q30:k5q70≠k5q30:=by simp only[V7]at hk5q70;simp only[hk5q70,ne_eq,not_false_eq_true]
 have ne_5q70_5q43:k5q70≠k5q43:=by simp only[V7]at hk5q70;simp only[hk5q70,ne_eq,not_false_eq_true]
 have ne_5q70_5q54:k5q70≠k5q54:=by simp only[V7]at hk5q70;simp only[hk5q70,ne_eq,not_false_eq_true]
 have ne_5q70_5q69:k5q70≠k5q69:=by simp only[V7]at hk5q70;simp only[hk5q70,ne_eq,not_false_eq_true]
 try have hf_5q70:h k5q70=none:=by first|assumption|(simp only[V7]at hk5q70;simp only[hk5q70])
 simp+decide only[Yz,ev,putD,VM,VO,VN,Ka,true_and,↓qbK,qb];apply hK;clear hK K;refine Awp.keep [0,3,4,6,7] ?_;refine of_rest1 wz h _ zqB v x hv hl k2q1 k4q12 k5q70 _ ⟨zqA,zqA,zqA,fun i hi=>?_⟩;have h0:IsL wz h 5 .nilSlice []:= .nil;rcases i with _|_|_|_|_|_|i
 ·exact V8 (xs:=(pairsC.getD 0 []).map QM) (b:=⟨((pairsC.getD 0 []).map QM).flatten,0⟩) zqA Xn rfl (WV _) (.exact 3) (KJ _)
 ·exact V8 (xs:=(pairsC.getD 1 []).map QM) (b:=⟨((pairsC.getD 1 []).map QM).flatten,0⟩) zqA Xn rfl (WV _) (.exact 6) (KJ _)
 ·exact V8 (xs:=(pairsC.getD 2 []).map QM) (b:=⟨((pairsC.getD 2 []).map QM).flatten,0⟩) zqA Xn rfl (WV _) (.exact 7) (KJ _)
 ·exact V8 (xs:=(pairsC.getD 3 []).map QM) (b:=⟨((pairsC.getD 3 []).map QM).flatten,0⟩) zqA Xn rfl (WV _) (.exact 8) (KJ _)
 ·exact V8 (xs:=(pairsC.getD 4 []).map QM) (b:=⟨((pairsC.getD 4 []).map QM).flatten,0⟩) zqA Xn rfl (WV _) (.exact 7) (KJ _)
 ·exact V8 (xs:=(pairsC.getD 5 []).map QM) (b:=⟨((pairsC.getD 5 []).map QM).flatten,0⟩) zqA Xn rfl (WV _) (.exact 10) (KJ _)
 ·omega
end Go.Proofs.YtlhhaagmakhilaaGreatDoor
namespace Go.Proofs.YtlhhaagmakhilaaGreatDoor
open Go.AM
open Go.Proofs
open Go.Col (Str FaultC okF sp)
open Go.Tok
open Go.Cop
open Go.RowKit (Below)
set_option maxRecDepth 100000
abbrev LisQ:=List UInt8×AVal
def qnY(q:LisQ):List AVal:=[q.2]
def qrf:LisQ:=([], .nilSlice)
def IsLs(wz:World)(h:AHeap)(v:AVal)(m:List (List UInt8)):Prop:=∃qs:List LisQ,m=qs.map (·.1)/\IsL wz h 1 v (qs.map qnY)/\∀q∈qs,IsL wz h 1 q.2 (q.1.map qdl)
theorem IsLs.mono{wz:World}{h h':AHeap}{v:AVal}{m:List (List UInt8)}(hv:IsLs wz h v m)(hs:Sub h h'):IsLs wz h' v m:=by
 obtain⟨qs,h1,h2,h3⟩:=hv;exact⟨qs,h1,h2.mono hs,fun q hq=>(h3 q hq).mono hs⟩
section
variable {wz:World} {h:AHeap} {v:AVal}
theorem qrL{qs:List LisQ}(hv:IsL wz h 1 v (qs.map qnY)):∀H:AHeap,Yr Tryz.prog H 24 v=⟨True, .int .i64 qs.length⟩:=by
 have:=hv.len Tryz.underlying24
 rwa [Jo]at this
theorem qnW{qs:List LisQ}(hv:IsL wz h 1 v (qs.map qnY))(hn:0<qs.length):∃lc o c,v= .slice lc o qs.length c:=by
 obtain⟨lc,o,c,e⟩:=hv.open (fun e=>by rw[VU]at e;subst e;simp at hn);rw[Jo]at e;exact⟨lc,o,c,e⟩
theorem lis_at{qs:List LisQ}{lc:AM.Loc}{o:Nat}{c:Cap}(hv:IsL wz h 1 (.slice lc o qs.length c) (qs.map qnY)){i:Nat}(hi:i<qs.length):rd wz h lc (o+i)=(qs.getD i qrf).2:=by
 have he:=hv.elem (i:=i) (by rw[Jo];exact hi);rw[getD_map qrf hi,BI]at he;simp only[qf,qnY,List.cons.injEq,and_true]at he;exact he
end
abbrev MemB:=MemC×Option Buf
def qdk(q:MemB):List AVal:=[.str q.1.name,QH 5 q.2]
def apart(a b:Option Buf):Prop:=∀x y,a=some x->b=some y->x.blk≠y.blk
structure TkOk(h B:AHeap)(qs:List MemB):Prop where
 toks:∀q∈qs,Yn q.2=(q.1.toks.map QM).flatten
 has:∀q∈qs,hasB B q.2
 new:∀q∈qs,∀b,q.2=some b->h b.blk=none
 apart:qs.Pairwise fun a b=>apart a.2 b.2
theorem TkOk.push{h B:AHeap}{qs:List MemB}(ht:TkOk h B qs)(hs:Sub h B){tb:Option Buf}(hb:bufOk B 5 tb){m:MemC}(hc:Yn tb=(m.toks.map QM).flatten):TkOk h (QG B tb) (qs++[(m,tb)]):=by
 have hS:Sub B (QG B tb):=BH hb;refine⟨fun q hq=>?_,fun q hq=>?_,fun q hq b e=>?_,?_⟩
 ·rcases JI.1 hq with c|c
  ·exact ht.toks q c
  ·rw[BD.1 c];exact hc
 ·rcases JI.1 hq with c|c
  ·exact(ht.has q c).mono hS
  ·rw[BD.1 c];exact qdn B tb
 ·rcases JI.1 hq with c|c
  ·exact ht.new q c b e
  ·rw[BD.1 c]at e
   simp only at e;subst e;exact hs.none hb.1
 ·rw[List.pairwise_append]
  refine⟨ht.apart,List.pairwise_singleton _ _,fun q hq r hr x y ex ey e=>?_⟩;rw[BD.1 hr]at ey;simp only at ey;subst ey;have h1:=ht.has q hq x ex;have h2:=hb.1;rw[<-e,h1]at h2;cases h2
theorem qaS{l:List MemB}:∀x∈l.map qdk,x.length=2:=fun x hx=>by obtain⟨y,_,rfl⟩:=JG.1 hx;rfl
theorem qpu(l:List MemB):Qr ((l.map qdk).flatten)=true:=YZ.2 fun x hx=>by
 obtain⟨y,_,rfl⟩:=JG.1 hx;show(true && ((QH 5 y.2).scal && true))=true
 rw[XU];rfl
structure LbG where
 i:Nat
 B:AHeap
 mb:Option Buf
 qs:List MemB
structure LbOk(h:AHeap)(ms:List MemC)(s:LbG):Prop where
 sub:Sub h s.B
 ok:bufOk s.B 2 s.mb
 eq:Yn s.mb=(s.qs.map qdk).flatten
 ms:s.qs.map (·.1)=ms
 tk:TkOk h s.B s.qs
theorem qsT{m:List (List UInt8)}{i:Nat}(hi:i<m.length)(h8:i<8):(qiN m).take (i+1)=(qiN m).take i++[⟨WJ i,lOf (m.getD i [])⟩]:=by
 have:(qiN m)[i]?=some ⟨WJ i,lOf (m.getD i [])⟩:=by
  unfold qiN;rw[Ec,KZ,if_pos h8,Jz hi];simp[Kn,hi]
 rw[VJ,this];rfl
theorem libE_end{m:List (List UInt8)}{i:Nat}(h8:i<=8)(h:m.length<=i\/8<=i):(qiN m).take i=qiN m:=by
 refine Jq ?_;unfold qiN;simp;omega
theorem bufV_Sc(es:Nat)(b:Option Buf):Sc (QH es b)=True:=by cases b<;>exact eq_true trivial
theorem qok:∀i:Fin 8,(([48,49,50,51,52,53,54,55]:Str).drop i.val).take (i.val+1-i.val)=[KC (48+i.val)]:=by decide
set_option maxHeartbeats 2000000 in
theorem qoy(wz:World)(h:AHeap)(v:AVal)(m:List (List UInt8))(hv:IsLs wz h v m)(hl:m.length<=1000000)(hl2:∀x∈m,x.length<=9223372036854775807):
 ACall Tryz.prog wz 11 [v] h (fun r h'=>∃s:LbG,r=QH 2 s.mb/\h'=QG s.B s.mb/\LbOk h (qiN m) s):=by
 obtain⟨qs,hm,hv1,hv2⟩:=hv;have hlv:=hv1.live;have hlen:=qrL hv1;have hmq:m.length=qs.length:=by rw[hm,Jo]
 have hcS:Sc .nilSlice=True:=eq_true trivial;refine qW (n:=30) (rs:=[.tmp 2]) Tryz.func11 rfl rfl rfl rfl (VL rfl) ?_;simp only[Qe];refine awp_rseq [0] (by rfl) fun K hK=>?_;simp+decide only[qa,ev,qI,qG,putD,VM,VN,Ka,true_and,↓qd,qb];apply hK;clear hK K;refine awp_rseq [0,3] (by rfl) fun K hK=>?_;simp+decide only[qa,ev,qI,qG,putD,VM,VN,Ka,true_and,↓qd,qb];apply hK;clear hK K;refine qJ ?_;refine awp_rseq [0,3,4] (by rfl) fun K hK=>?_;simp+decide only[qa,ev,qI,qG,putD,VM,VN,Ka,true_and,↓qd,qb];apply hK;clear hK K;refine Qj ?_;refine Xj [0,3,4] (fun s:LbG=>[(0,v),(3,QH 2 s.mb),(4, .int .i64 s.i)]) (fun s:LbG=>QG s.B s.mb) (fun s:LbG=>s.i<=qs.length/\s.i<=8/\LbOk h ((qiN m).take s.i) s) (fun s:LbG=>8-s.i) ⟨0,h,none,[]⟩ (by rfl) (Vl _) ⟨Js _,Js _,Vl _,trivial,rfl,rfl,⟨fun q hq=>(by cases hq),fun q hq=>(by cases hq),fun q hq=>(by cases hq),List.Pairwise.nil⟩⟩ ?_;rintro⟨i,B,mb,ms⟩ ⟨g1,g2,g3,g4,g5,g6,g7⟩;simp only at g1 g2 g3 g4 g5 g6 g7|-
 have hbl:=QW 2 mb;refine qJ ?_;refine awp_rseq [0,3,4,12] (by rfl) fun K hK=>?_;simp+decide only[qa,ev,qI,qG,putD,VM,VO,VN,Ka,true_and,↓qg,qc,↓Xc,Qv,↓qw,ql,qP,cond_false,qo,XD,↓Xe,agP,Qw,qO,qK,qD,implies_true,↓Xd,qy,Zi,Zj,↓Xa,Qy,Qk,Xk,Xv,hlen];apply hK;clear hK K;refine qH (b:=_) rfl (fun hb1=>?_) (fun hb1=>?_)
 ·try simp only[decide_eq_true_eq,Kw]at hb1
  have hi:i<qs.length:=by omega
  have hi8:i<8:=by omega
  obtain⟨lc,o,c,rfl⟩:=qnW hv1 (by omega);have hSb:Sub h (QG B mb):=g3.trans (BH g4);have he:=lis_at (hv1.mono hSb) hi;obtain⟨x,hx⟩:∃x,x=qs.getD i qrf:=⟨_,rfl⟩
  rw[<-hx]at he;have hxm:x∈qs:=by rw[hx];exact Uk qrf hi
  have hxv:=(hv2 x hxm).mono hSb;have hxl:=hxv.live;have hmx:m.getD i []=x.1:=by rw[hm,hx,Kn,Eb,Jz hi,Kn,Jz hi];rfl
  have hx2:x.1.length<=9223372036854775807:=hl2 _ (by rw[hm];exact List.mem_map_of_mem hxm);have hcut:=qok ⟨i,hi8⟩;simp only at hcut;have hcut1:List.take ((((i:Nat):Int)+1).toNat-i) (List.drop i ([48,49,50,51,52,53,54,55]:Str))=[KC (48+i)]:=by
   rw[show((i:Int)+1).toNat=i+1 by omega];exact hcut
  have hml:ms.length=i:=by
   have:=congrArg BP g6;rw[Jo,K4]at this;unfold qiN at this;rw[EB,K4]at this;omega
  refine qN ?_;change Awp _ _ _ _ _ _ _;refine qJ ?_;refine Qj ?_;refine qrj [0,1,2,3,4,5,6,7,8,9,10,11,12,13,14] [false,false,false,false,false,false,false,false,false,false,false,false,false,false,false] [none,none,none,none,none,none,none,none,none,none,none,some 10,some 11,some 12,some 13] 13 mixed (by kernel_rfl) (by rfl) ?_;simp only[Yl,VI,Ee,Ky,KL];simp+decide only[qa,ev,qI,qG,putD,VM,VO,Ka,true_and,qsZ,qlB,Un,↓qg,qc,↓qw,ql,qy,cond_false,qo,QS];try simp(disch:=omega)only[wrap_i64]
  try simp+decide only[qa,ev,qI,qG,putD,VM,VO,Ka,true_and,Un,↓Wp,ZA,evO,qca Tryz.underlying9,qaa,Ul,qP,cond_false,Za,qdS,↓Qp,qY,qU Tryz.underlying24 sz23,↓qF,qz ag23,he,hxl,hcut1,Vq,BI]
  refine⟨⟨by omega,by omega,by(show(i:Int)+1<=8;omega)⟩,by(simp only[KX,J8];omega),⟨by omega,by omega⟩,?_⟩;refine QR (by rfl) (by rfl) (c_Of04 wz _ _ x.1 hxv hx2) fun x5q10 h5q10 hx5q10=>?_;obtain⟨tb,hxe,o1,o2,o3⟩:=hx5q10;subst hxe;obtain⟨sw1,sw2,sw3⟩:=bufSwap3 g4 o1;have hs5:Sub (QG B mb) h5q10:=by rw[o3];exact BH o1
  have hcl:=QW 5 tb;have hcS:=bufV_Sc 5 tb;have hcs:=XU 5 tb;rw[qa];refine And.intro (by first|exact Vl _|assumption|exact Vg (by assumption)) ?_;simp+decide only[qa,ev,qI,qG,putD,VM,VO,Ka,true_and,Un,↓Qo,↓qZ,qid,evP,Kc,Vj,hcS];refine QA (cs:=[.str (WJ i),QH 5 tb]) (by rfl) fun k5q12 hk5q12=>?_;try have hf_5q12:h k5q12=none:=by first|assumption|(simp only[V7]at hk5q12;simp only[hk5q12])
  rw[qa];refine And.intro (by first|exact Vl _|assumption|exact Vg (by assumption)) ?_;simp+decide only[putD,VM,if_false];refine XH (es:=2) (zs:=ms.map qdk) (xs:=[[.str (WJ i),QH 5 tb]]) (hZ:=QG B tb) (b:=mb) (by rfl) (by rfl) Tryz.underlying28 Tryz.underlying28 (fun k e=>by cases e) qmd by57 ze57 (by rfl) (by decide) (by rfl) sw3 g5 qaS (by rw[<-sw1,<-o3];exact Vg (by assumption)) (by rfl) (V8 (Vd _ _ _) (by simp) (by rfl) (by simp[AM.allLive,qE,hcl]) (.exact 1) (KJ _)) (by simp[Qr,XB,hcs]) (by simp;omega) (by simp;omega) fun mb2 h5 p1 p2 p3=>?_;simp+decide only[qa,ev,putD,VM,VO,Ka,true_and,↓qd,qb];change Awp _ _ _ _ _ _ _;refine XE [0,3,4] (by rfl) ?_;simp+decide only[qa,ev,qI,qG,putD,VM,VO,VN,Ka,true_and,↓qg,qc,↓qw,ql,qy,cond_false,qo,QS,↓qd,qb];try simp(disch:=omega)only[wrap_i64]
  try simp only[Qf]
  exact⟨⟨i+1,QG B tb,mb2,ms++[(⟨WJ i,lOf x.1⟩,tb)]⟩,rfl,p3,⟨hi,hi8,g3.trans (BH sw2),p1,by rw[p2,Ba];rfl,by rw[Ba,g6,qsT (by omega) hi8,hmx];rfl,g7.push g3 sw2 o2⟩,by simp only;omega⟩
 ·try simp only[decide_eq_false_iff_not,VP]at hb1
  have he:=libE_end (m:=m) g2 (by omega);refine Xm ?_;change Awp _ _ _ _ _ _ _;refine awp_rseq [2] (by rfl) fun K hK=>?_;simp+decide only[qa,ev,putD,VM,VO,VN,Ka,true_and,↓qg,qc,↓qd,qb];apply hK;clear hK K;refine qL ?_;refine QF (qR (Qc)) ?_;simp+decide only[VO,if_true,Qs];exact⟨QG B mb,Vl _,⟨i,B,mb,ms⟩,rfl,rfl,g3,g4,g5,by rw[g6,he],g7⟩
end Go.Proofs.YtlhhaagmakhilaaGreatDoor
namespace Go.Proofs.YtlhhaagmakhilaaGreatDoor
open Go.AM
open Go.Proofs
open Go.Col (Str FaultC okF sp)
open Go.Tok
open Go.Cop
open Go.RowKit (Below)
set_option maxRecDepth 100000
theorem qci(k n:UInt8):decide ((k.toNat:Int)=(n.toNat:Nat))=decide (k=n):=decide_eq_decide.2 ⟨fun q=>BL.1 (by omega),fun q=>by rw[q]⟩
theorem lt_or(j n:Nat):(j<n/\decide ((j:Int)<(n:Int))=true)\/(¬j<n/\decide ((j:Int)<(n:Int))=false):=by
 by_cases q:j<n
 ·exact .inl ⟨q,decide_eq_true (by omega)⟩
 ·exact .inr ⟨q,decide_eq_false (by omega)⟩
theorem qpS(wz:World)(h:AHeap)(v:AVal)(l:List TokC)(i:Nat)(s:Str)(hv:IsL wz h 5 v (l.map QM))(hl:l.length<=1099511627776)(hi:i<l.length):
 ACall Tryz.prog wz 28 [v, .int .i64 i, .str s] h (fun r h'=>r= .bool (Zt l i s)/\h'=h):=by
 have hlv:=hv.live;have nv:=XY hv;obtain⟨lc,o,c,rfl⟩:=Wd hv (by omega);obtain⟨e0,e1,-,-,-⟩:=YL hv hi;have hd:decide ((i:Int)<(l.length:Int))=true:=decide_eq_true (by omega);have hw:Zt l i s=(decide (((l.getD i XZ).kind.toNat:Int)=1) && decide ((l.getD i XZ).text=s)):=by
  unfold Zt XJ;rw[decide_eq_true hi,Vf,show((1:Int))=((1:UInt8).toNat:Nat)from rfl,qci,Yy l noT XZ hi];simp
 rw[hw];refine qW (n:=28) (rs:=[.tmp 6]) Tryz.func28 rfl rfl rfl rfl (VL rfl) ?_;simp only[Qe];refine awp_rseq [0,1,2] (by rfl) fun K hK=>?_;simp+decide only[qa,ev,qI,qG,putD,VM,VN,Ka,true_and,↓qd,qb,Jr,Nat.reduceAdd];apply hK;clear hK K;refine awp_rseq [6] (by rfl) fun K hK=>?_;simp+decide only[qa,ev,qI,qG,putD,VM,VO,VN,Ka,true_and,↓qg,qc,↓Xc,Qv,Ze Tryz.underlying26,↓qw,ql,qP,cond_false,qo,XD,↓Xe,agP,Qw,qO,qK,qD,implies_true,Qz,forall_const,Vf,↓Zc,XN,YT,qne,qnd,qU Tryz.underlying26 Xb,↓Xl,qm,qbp,Zn,Zo,↓Zg,qeg,qz qie,↓Xd,qy,Zi,qbb,Zj,qbc,XT,↓Xa,Qy,Qk,Xk,Xv,Ur,qz ag9,Za,qdR,↓qd,qb,qi,qE,hd,e0,e1,Vq,K6];repeat (with_reducible refine And.intro ?_ ?_;· first|trivial|omega|(intro hg;simp only[Kw,JV,Ji,VP,VQ,VS,decide_eq_true_eq,decide_eq_false_iff_not,XK]at hg;omega))
 apply hK;clear hK K;refine qL ?_;refine Qb h zqC (qR (Qc)) ?_;simp+decide only[VO,if_true,and_true,Qs];all_goals first|rfl|exact⟨rfl,rfl⟩|(simp+decide only[Ka, *];done)|(trace_state;fail)
theorem qot(wz:World)(h:AHeap)(v:AVal)(l:List TokC)(i:Nat)(s:Str)(hv:IsL wz h 5 v (l.map QM))(hi:¬i<l.length):
 ACall Tryz.prog wz 28 [v, .int .i64 i, .str s] h (fun r h'=>r= .bool (Zt l i s)/\h'=h):=by
 have hlv:=hv.live;have nv:=XY hv;have hd:decide ((i:Int)<(l.length:Int))=false:=decide_eq_false (by omega);have hw:Zt l i s=false:=by unfold Zt XJ;rw[decide_eq_false hi,VZ,VZ]
 rw[hw];refine qW (n:=28) (rs:=[.tmp 6]) Tryz.func28 rfl rfl rfl rfl (VL rfl) ?_;simp only[Qe];refine awp_rseq [0,1,2] (by rfl) fun K hK=>?_;simp+decide only[qa,ev,qI,qG,putD,VM,VN,Ka,true_and,↓qd,qb,Jr,Nat.reduceAdd];apply hK;clear hK K;refine awp_rseq [6] (by rfl) fun K hK=>?_;simp+decide only[qa,ev,qI,qG,putD,VM,VO,VN,Ka,true_and,↓qg,qc,↓Xc,Qv,↓qw,ql,qP,cond_false,qo,XD,↓Xe,agP,Qw,qO,qK,qD,implies_true,Zk,false_implies,qam,qfK,↓Zc,XN,↓Xl,qm,↓Zg,↓Xd,qy,↓Xa,Qy,Qk,↓qd,qb,nv,hd];apply hK;clear hK K;refine qL ?_;refine Qb h zqC (qR (Qc)) ?_;simp+decide only[VO,if_true,and_true,Qs];all_goals first|rfl|exact⟨rfl,rfl⟩|(simp+decide only[Ka, *];done)|(trace_state;fail)
theorem qkf(wz:World)(h:AHeap)(v:AVal)(l:List TokC)(i:Nat)(s:Str)(hv:IsL wz h 5 v (l.map QM))(hl:l.length<=1099511627776):
 ACall Tryz.prog wz 28 [v, .int .i64 i, .str s] h (fun r h'=>r= .bool (Zt l i s)/\h'=h):=by
 by_cases hi:i<l.length
 ·exact qpS wz h v l i s hv hl hi
 ·exact qot wz h v l i s hv hi
theorem qpA{l:List TokC}{i:Nat}(hi:i<l.length):XJ l i [1,2,3]=((decide (((l.getD i XZ).kind.toNat:Int)=1)||decide (((l.getD i XZ).kind.toNat:Int)=2))||decide (((l.getD i XZ).kind.toNat:Int)=3)):=by
 unfold XJ;rw[decide_eq_true hi,Vf,show((1:Int))=((1:UInt8).toNat:Nat)from rfl,qci,show((2:Int))=((2:UInt8).toNat:Nat)from rfl,qci,show((3:Int))=((3:UInt8).toNat:Nat)from rfl,qci,Yy l noT XZ hi];simp[Bool.or_assoc]
set_option maxHeartbeats 1000000 in
theorem qiE(wz:World)(h:AHeap)(v:AVal)(l:List TokC)(i:Nat)(hv:IsL wz h 5 v (l.map QM))(hl:l.length<=1099511627776)(hi:i<=l.length):
 ACall Tryz.prog wz 46 [v, .int .i64 i] h (fun r h'=>r= .tuple [qdh v (Qm l i true), .int .i64 (if (Qm l i true).ok=true then(Qm l i true).at_ else-1), .int .i64 (if (Qm l i true).ok=true then 0 else(Qm l i true).at_)]/\h'=h):=by
 have hlv:=hv.live;have nv:=XY hv;obtain⟨O,ho⟩:∃O,O=Qm l i true:=⟨_,rfl⟩
 rw[<-ho];unfold Qm at ho;refine qW (n:=77) (rs:=[.tmp 4, .tmp 5, .tmp 6]) Tryz.func46 rfl rfl rfl rfl (VL rfl) ?_;simp only[Qe];refine awp_rseq [0,1] (by rfl) fun K hK=>?_;simp+decide only[qa,ev,qI,qG,putD,VM,VN,Ka,true_and,↓qd,qb,Jr];apply hK;clear hK K;refine qJ ?_;refine awp_rseq [0,1,11] (by rfl) fun K hK=>?_;simp+decide only[qa,ev,putD,VM,VO,VN,Ka,true_and,↓qg,qc,↓Xc,Qv,↓qw,ql,qP,cond_false,qo,Ub,nv];apply hK;clear hK K;refine qH (b:=_) rfl (fun hb1=>?_) (fun hb1=>?_)
 ·try simp only[decide_eq_true_eq]at hb1
  refine awp_rseq [4,5,6] (by rfl) fun K hK=>?_;simp+decide only[qa,ev,qI,qG,putD,VM,VO,VN,Ka,true_and,↓qg,qc,↓qd,qb];apply hK;clear hK K;refine qL ?_;try simp only[Qg]
  refine Qb h zqC (qR (qR (qR (Qc)))) ?_;simp+decide only[VO,Ka,and_true,qbf];have hki:∀ks,XJ l i ks=false:=fun ks=>by unfold XJ;rw[decide_eq_false (by omega),VZ]
  rw[if_neg (by rw[hki];decide),if_pos (hki _)]at ho;rw[ho];rfl
 ·try simp only[decide_eq_false_iff_not]at hb1
  have hlt:i<l.length:=by omega
  obtain⟨lc,o,c,rfl⟩:=Wd hv (by omega);obtain⟨e0,-,-,-,-⟩:=YL hv hlt;have hk3:=qpA hlt;have hk7:=qgd hlt;have hsl:=hv.slice Tryz.underlying26 Xb (some (.int .i64 i)) (some (.int .i64 ((i:Int)+1))) (l:=i) (r:=(i:Int)+1) rfl rfl (by omega) (by omega) (by rw[Jo];omega);refine qN ?_;change Awp _ _ _ _ _ _ _;refine qJ ?_;refine awp_rseq [0,1,34] (by rfl) fun K hK=>?_;simp+decide only[qa,ev,qI,qG,putD,VM,VO,VN,Ka,true_and,↓qg,qc,↓Qp,qY,qU Tryz.underlying26 Xb,↓qB,qm,qbp,↓qF,qz qie,↓qw,ql,qy,cond_false,qo,XT,↓Xe,agP,Qw,qO,qK,Qh,implies_true,↓Zc,XN,YT,agL_il2,agL_ir2,↓Xl,Zn,Zo,↓Zg,qcK,↓Xd,Zi,Zj,↓Xa,Qy,Qk,Zm,ZC,qi,e0,Vq,K6];repeat (with_reducible refine And.intro ?_ ?_;· first|trivial|omega|(intro hg;simp only[Kw,JV,Ji,VP,VQ,VS,decide_eq_true_eq,decide_eq_false_iff_not,XK]at hg;omega))
  apply hK;clear hK K;refine qH (b:=_) rfl (fun hb2=>?_) (fun hb2=>?_)
  ·try simp only[decide_eq_true_eq,JV]at hb2
   refine awp_rseq [4,5,6] (by rfl) fun K hK=>?_;simp+decide only[ev,qI,qG,putD,VM,VO,Ka,true_and,↓qg,qc,↓qw,ql,qy,cond_false,qo,QS];try simp(disch:=omega)only[wrap_i64]
   try simp+decide only[qa,ev,qI,qG,putD,VM,VO,VN,Ka,true_and,↓Wp,ZA,evO,↓qg,qc,↓qw,ql,qy,cond_false,qo,QS,↓qd,qb,Vq,hsl]
   try simp(disch:=omega)only[wrap_i64]
   apply hK;clear hK K;refine qL ?_;try simp only[Qg]
   refine Qb h zqC (qR (qR (qR (Qc)))) ?_;simp+decide only[VO,Ka,and_true,qbf];rw[if_pos (by rw[hk3];simpa using hb2)]at ho;rw[ho];rfl
  ·try simp only[decide_eq_false_iff_not,VQ]at hb2
   rw[if_neg (by rw[hk3];simpa using hb2)]at ho;refine qN ?_;change Awp _ _ _ _ _ _ _;refine qJ ?_;refine awp_rseq [0,1,47] (by rfl) fun K hK=>?_;simp+decide only[qa,ev,qI,qG,putD,VM,VO,VN,Ka,true_and,↓qg,qc,↓Qp,qY,qU Tryz.underlying26 Xb,↓qB,qm,qbp,↓qF,qz qie,↓qw,ql,qy,cond_false,qo,Ua,qi,e0,Vq,K6];repeat (with_reducible refine And.intro ?_ ?_;· first|trivial|omega|(intro hg;simp only[Kw,JV,Ji,VP,VQ,VS,decide_eq_true_eq,decide_eq_false_iff_not,XK]at hg;omega))
   apply hK;clear hK K;refine qH (b:=_) rfl (fun hb3=>?_) (fun hb3=>?_)
   ·try simp only[decide_eq_false_iff_not,Ji]at hb3
    refine awp_rseq [4,5,6] (by rfl) fun K hK=>?_;simp+decide only[qa,ev,qI,qG,putD,VM,VO,VN,Ka,true_and,↓qg,qc,↓qd,qb];apply hK;clear hK K;refine qL ?_;try simp only[Qg]
    refine Qb h zqC (qR (qR (qR (Qc)))) ?_;simp+decide only[VO,Ka,and_true,qbf];rw[if_pos (by rw[hk7];refine decide_eq_false fun q=>hb3 ?_;rw[Yy l XZ noT hlt,q];rfl)]at ho;rw[ho];rfl
   ·try simp only[decide_eq_true_eq,VS]at hb3
    rw[if_neg (by rw[hk7];intro q;have q:=of_decide_eq_false q;apply q;rw[Yy l noT XZ hlt];exact BL.1 (by have:(7:UInt8).toNat=7:=rfl;omega))]at ho;refine qN ?_;change Awp _ _ _ _ _ _ _;refine awp_rseq [0,1,7] (by rfl) fun K hK=>?_;simp+decide only[qa,ev,qI,qG,putD,VM,VO,VN,Ka,true_and,↓qg,qc,↓qw,ql,qy,cond_false,qo,QS,↓qd,qb];try simp(disch:=omega)only[wrap_i64]
    apply hK;clear hK K;refine qJ ?_;refine Qj ?_;refine Xj [0,1,7] (fun j:Nat=>[(0, .slice lc o l.length c),(1, .int .i64 i),(7, .int .i64 j)]) (fun j:Nat=>h) (fun j:Nat=>i+1<=j/\j<=l.length/\XL l j=XL l (i+1)) (fun j:Nat=>l.length-j) (i+1) (by rfl) (Vl _) ⟨KJ _,hlt,rfl⟩ ?_;rintro j ⟨hj1,hj2,hj3⟩;have ek:j<l.length->rd wz h lc (o+j*5)= .int .u8 (l.getD j XZ).kind.toNat:=fun hj=>(YL hv hj).1;refine qJ ?_;rcases lt_or j l.length with⟨hjl,hd⟩|⟨hjl,hd⟩
    all_goals
     refine awp_rseq [0,1,7,62] (by rfl) fun K hK=>?_;simp+decide only[qa,ev,qI,qG,putD,VM,VO,VN,Ka,true_and,↓qg,qc,↓Xc,Qv,Ze Tryz.underlying26,↓qw,ql,qP,cond_false,qo,XD,↓Xe,agP,Qw,qO,qK,qD,implies_true,Qz,Zk,forall_const,false_implies,qam,Vf,qfK,↓Zc,XN,YT,qU Tryz.underlying26 Xb,↓Xl,qm,qbp,↓Zg,qz qie,↓Xd,qy,Ua,↓Xa,Qy,Qk,Xv,qi,hd,hjl,ek,Vq,K6];repeat (with_reducible refine And.intro ?_ ?_;· first|trivial|omega|(intro hg;simp only[Kw,JV,Ji,VP,VQ,VS,decide_eq_true_eq,decide_eq_false_iff_not,XK]at hg;omega))
     apply hK;clear hK K;refine qH (b:=_) rfl (fun hb4=>?_) (fun hb4=>?_)
     ·try exact absurd hb4 (by decide)
      all_goals
       try simp only[decide_eq_false_iff_not,Ji]at hb4
       refine qN ?_;change Awp _ _ _ _ _ _ _;refine Qj ?_;refine XE [0,1,7] (by rfl) ?_;simp+decide only[qa,ev,qI,qG,putD,VM,VO,VN,Ka,true_and,↓qg,qc,↓qw,ql,qy,cond_false,qo,QS,↓qd,qb];try simp(disch:=omega)only[wrap_i64]
       try simp only[Qf,ZP]
       have hst:=qcB hjl;rw[if_neg (by rw[Yy l noT XZ hjl];intro q;apply hb4;rw[q];rfl)]at hst;exact⟨j+1,rfl,Vl _,⟨by omega,hjl,by rw[<-hst];exact hj3⟩,by omega⟩
     ·try simp only[decide_eq_true_eq,VS]at hb4
      have hje:XL l (i+1)=j:=by
       rw[<-hj3];first
       |exact qjA (Kr hjl)
       |(rw[qcB hjl,if_pos (by rw[Yy l noT XZ hjl];exact BL.1 (by have:(7:UInt8).toNat=7:=rfl;omega))])
      rw[hje]at ho;refine Xm ?_;change Awp _ _ _ _ _ _ _;refine qJ ?_;refine awp_rseq [0,1,7,68] (by rfl) fun K hK=>?_;simp+decide only[qa,ev,putD,VM,VO,VN,Ka,true_and,↓qg,qc,↓Xc,Qv,Ze Tryz.underlying26,↓qw,ql,qP,cond_false,qo,XT];apply hK;clear hK K;refine qH (b:=_) rfl (fun hb5=>?_) (fun hb5=>?_)
      ·try simp only[decide_eq_true_eq]at hb5
       refine awp_rseq [4,5,6] (by rfl) fun K hK=>?_;simp+decide only[qa,ev,qI,qG,putD,VM,VO,VN,Ka,true_and,↓qg,qc,↓qd,qb];apply hK;clear hK K;refine qL ?_;try simp only[Qg]
       refine Qb h zqC (qR (qR (qR (Qc)))) ?_;simp+decide only[VO,Ka,and_true,qbf];rw[if_pos (.inl (by omega))]at ho;rw[ho];rfl
      ·try simp only[decide_eq_false_iff_not]at hb5
       rw[if_neg (by rintro(q|⟨q,-⟩)<;>first|omega|cases q)]at ho;have hsl2:=hv.slice Tryz.underlying26 Xb (some (.int .i64 ((i:Int)+1))) (some (.int .i64 (j:Int))) (l:=(i:Int)+1) (r:=(j:Int)) rfl rfl (by omega) (by omega) (by rw[Jo];omega);refine qN ?_;change Awp _ _ _ _ _ _ _;refine awp_rseq [4,5,6] (by rfl) fun K hK=>?_;simp+decide only[ev,qI,qG,putD,VM,VO,Ka,true_and,↓qg,qc,↓qw,ql,qy,cond_false,qo,QS];try simp(disch:=omega)only[wrap_i64]
       try simp+decide only[qa,ev,qI,qG,putD,VM,VO,VN,Ka,true_and,↓Wp,ZA,evO,↓qg,qc,↓qw,ql,qy,cond_false,qo,QS,↓qd,qb,hsl2]
       try simp(disch:=omega)only[wrap_i64]
       apply hK;clear hK K;refine qL ?_;refine Qb h zqC (qR (qR (qR (Qc)))) ?_;simp+decide only[VO,Ka,and_true,qbf];rw[ho];rfl
theorem c_fault04(wz:World)(h:AHeap)(v:AVal)(l:List TokC)(i j:Nat)(hv:IsL wz h 5 v (l.map QM))(hl:l.length<=1099511627776)(hi:i<l.length):
 ACall Tryz.prog wz 30 [v, .int .i64 i, .int .i64 j] h (fun r h'=>r=Qu (Ut l i j)/\h'=h):=by
 have hlv:=hv.live;have nv:=XY hv;obtain⟨lc,o,c,rfl⟩:=Wd hv (by omega);refine qW (n:=23) (rs:=[.cell 6 35]) Tryz.func30 rfl rfl rfl rfl (VL rfl) ?_;simp only[Qe];refine awp_rseq [0,1,2,6] (by rfl) fun K hK=>?_;refine Qi qap (cs:=[.int .i64 0, .int .i64 0, .int .i64 0]) (by rfl) fun k0q0 hk0q0=>?_;try have hf_0q0:h k0q0=none:=by first|assumption|(simp only[V7]at hk0q0;simp only[hk0q0])
 simp+decide only[qa,putD,VM,VN,Ka,Jr,Nat.reduceAdd];apply hK;clear hK K;refine qJ ?_;refine awp_rseq [0,1,2,6,10] (by rfl) fun K hK=>?_;simp+decide only[qa,ev,putD,VM,VO,VN,Ka,true_and,↓qg,qc,↓Xc,Qv,Ze Tryz.underlying26,↓qw,ql,qP,cond_false,qo,Ub];apply hK;clear hK K;refine qH (b:=_) rfl (fun hb1=>?_) (fun hb1=>?_)
 ·try simp only[decide_eq_true_eq]at hb1
  have e2:∀c,rd wz (h.set k0q0 c) lc (o+i*5+2)= .int .i64 (l.getD i XZ).line:=fun c=>(YL (hv.mono (Vg hf_0q0)) hi).2.2.1;have e3:∀c,rd wz (h.set k0q0 c) lc (o+i*5+2+1)= .int .i64 (l.getD i XZ).col:=fun c=>(YL (hv.mono (Vg hf_0q0)) hi).2.2.2.1;refine awp_rseq [6] (by rfl) fun K hK=>?_;simp+decide only[ev,qI,qG,putD,VM,VO,Ka,true_and,↓qg,qc,↓Qp,qY,qU Tryz.underlying26 Xb,↓qB,qm,qeZ,↓qF,qh qfg qbe,↓Qo,↓qZ,WL,evP,Kc,Vj,qf,qi,allLive,JS,e2,e3,Vq];repeat (with_reducible refine And.intro ?_ ?_;· first|trivial|omega|(intro hg;simp only[Kw,JV,Ji,VP,VQ,VS,decide_eq_true_eq,decide_eq_false_iff_not,XK]at hg;omega))
  refine qp (by rfl) (by rfl) zqA QI (by rfl) (by rfl) zqD (Js _) (by rfl) ?_;simp only[Vh,VV];simp+decide only[qa,ev,putD,VO,VN,Ka,setAt,VW,Ki,Jr,Nat.reduceAdd];apply hK;clear hK K;refine qL ?_;try simp only[Qg]
  refine QF (?_) ?_
  ·simp+decide only[QD,qj,VO,if_true,and_true,qj,qh Xo QI,Qa,qf,VX,Km,Jr,Nat.reduceAdd,qi,allLive,JS,qf,VX,Km,Jr,Nat.reduceAdd,qi,allLive,JS]
  simp+decide only[VO,if_true,Zh,qj,qh Xo QI,Qa,qf,VX,Km,Jr,Nat.reduceAdd,qi,allLive,JS,qf,VX,Km,Jr,Nat.reduceAdd,qi,allLive,JS,Qu];refine⟨h,zqB,?_,rfl⟩;unfold Ut;rw[if_neg (by omega),Yy l noT XZ hi]
 ·try simp only[decide_eq_false_iff_not]at hb1
  refine qN ?_;change Awp _ _ _ _ _ _ _;have hj:j<l.length:=by omega
  have d2:∀c,rd wz (h.set k0q0 c) lc (o+j*5+2)= .int .i64 (l.getD j XZ).line:=fun c=>(YL (hv.mono (Vg hf_0q0)) hj).2.2.1;have d3:∀c,rd wz (h.set k0q0 c) lc (o+j*5+2+1)= .int .i64 (l.getD j XZ).col:=fun c=>(YL (hv.mono (Vg hf_0q0)) hj).2.2.2.1;refine awp_rseq [6] (by rfl) fun K hK=>?_;simp+decide only[ev,qI,qG,putD,VM,VO,Ka,true_and,↓qg,qc,↓Qp,qY,qU Tryz.underlying26 Xb,↓qB,qm,qeZ,↓qF,qh qfg qbe,↓Qo,↓qZ,WL,evP,Kc,Vj,qf,qi,allLive,JS,d2,d3,Vq];repeat (with_reducible refine And.intro ?_ ?_;· first|trivial|omega|(intro hg;simp only[Kw,JV,Ji,VP,VQ,VS,decide_eq_true_eq,decide_eq_false_iff_not,XK]at hg;omega))
  refine qp (by rfl) (by rfl) zqA QI (by rfl) (by rfl) zqD (Js _) (by rfl) ?_;simp only[Vh,VV];simp+decide only[qa,ev,putD,VO,VN,Ka,setAt,VW,Ki,Jr,Nat.reduceAdd];apply hK;clear hK K;refine qL ?_;refine QF (?_) ?_
  ·simp+decide only[QD,qj,VO,if_true,and_true,qj,qh Xo QI,Qa,qf,VX,Km,Jr,Nat.reduceAdd,qi,allLive,JS,qf,VX,Km,Jr,Nat.reduceAdd,qi,allLive,JS]
  simp+decide only[VO,if_true,Zh,qj,qh Xo QI,Qa,qf,VX,Km,Jr,Nat.reduceAdd,qi,allLive,JS,qf,VX,Km,Jr,Nat.reduceAdd,qi,allLive,JS,Qu];refine⟨h,zqB,?_,rfl⟩;have hj:j<l.length:=by omega
  unfold Ut;rw[if_pos hj,Yy l noT XZ hj]
theorem add_in{l:List Str}{s:Str}(h:s∈l):addE l s=l:=by unfold addE;rw[if_pos (by simpa using h)]
theorem add_out{l:List Str}{s:Str}(h:s∉l):addE l s=l++[s]:=by unfold addE;rw[if_neg (by simpa using h)]
theorem c_addN04(wz:World)(B:AHeap)(nb:Option Buf)(l:List Str)(s:Str)(hok:bufOk B 1 nb)(heq:Yn nb=(l.map qaj).flatten)(hl:l.length<=1000000):
 ACall Tryz.prog wz 31 [QH 1 nb, .str s] (QG B nb) (fun r h'=>∃nb',r=QH 1 nb'/\bufOk B 1 nb'/\Yn nb'=((addE l s).map qaj).flatten/\h'=QG B nb'):=by
 have hv:IsL wz (QG B nb) 1 (QH 1 nb) (l.map qaj):=BF hok (by decide) heq qaR (Vl _);have hlv:=QW 1 nb;have nv:=qaz hv;refine qW (n:=23) (rs:=[.tmp 4]) Tryz.func31 rfl rfl rfl rfl (VL rfl) ?_;simp only[Qe];refine awp_rseq [0,1] (by rfl) fun K hK=>?_;simp+decide only[qa,ev,qI,qG,putD,VM,VN,Ka,true_and,↓qd,qb,Jr];apply hK;clear hK K;refine qJ ?_;refine awp_rseq [0,1,5] (by rfl) fun K hK=>?_;simp+decide only[qa,ev,qI,qG,putD,VM,VN,Ka,true_and,↓qd,qb];apply hK;clear hK K;refine Qj ?_;refine Xj [0,1,5] (fun i:Nat=>[(0,QH 1 nb),(1, .str s),(5, .int .i64 i)]) (fun i:Nat=>QG B nb) (fun i:Nat=>i<=l.length/\∀j,j<i->¬l.getD j []=s) (fun i:Nat=>l.length-i) 0 (by rfl) (Vl _) ⟨Js _,fun j hj=>by omega⟩ ?_;rintro i ⟨hi,hn⟩;refine qJ ?_;refine awp_rseq [0,1,5,9] (by rfl) fun K hK=>?_;simp+decide only[qa,ev,putD,VM,VO,VN,Ka,true_and,↓qg,qc,↓Xc,Qv,↓qw,ql,qP,cond_false,qo,XD,nv];apply hK;clear hK K;refine qH (b:=_) rfl (fun hb1=>?_) (fun hb1=>?_)
 ·try simp only[decide_eq_true_eq]at hb1
  have hi':i<l.length:=by omega
  obtain⟨lc,o,c,hbv⟩:=qcf hv (by omega);have hv':=hv;rw[hbv]at hv';have he:=qeN hv' hi';refine qN ?_;change Awp _ _ _ _ _ _ _;refine qJ ?_;refine Qj ?_;refine awp_rseq [0,1,5,17] (by rfl) fun K hK=>?_;simp+decide only[qa,ev,putD,VM,VO,VN,Ka,true_and,↓qg,qc,↓Qp,qY,qU Tryz.underlying30 sz9,↓qF,qz ag9,↓qw,ql,qP,cond_false,Za,qdR,qE,hbv,he,qE,Vq,BI];repeat (with_reducible refine And.intro ?_ ?_;· first|trivial|omega|(intro hg;simp only[Kw,JV,Ji,VP,VQ,VS,decide_eq_true_eq,decide_eq_false_iff_not,XK]at hg;omega))
  apply hK;clear hK K;refine qH (b:=_) rfl (fun hb2=>?_) (fun hb2=>?_)
  ·try simp only[decide_eq_true_eq]at hb2
   refine awp_rseq [4] (by rfl) fun K hK=>?_;simp+decide only[qa,ev,putD,VM,VO,VN,Ka,true_and,↓qg,qc,↓qd,qb];apply hK;clear hK K;refine qL ?_;try simp only[Qg,Qn]
   refine QF (qR (Qc)) ?_;simp+decide only[VO,if_true,Qs];exact⟨QG B nb,Vl _,nb,by rw[<-hbv],hok,by rw[add_in (by rw[<-hb2];exact Uk [] hi')];exact heq,rfl⟩
  ·try simp only[decide_eq_false_iff_not]at hb2
   refine qN ?_;change Awp _ _ _ _ _ _ _;refine XE [0,1,5] (by rfl) ?_;simp+decide only[qa,ev,qI,qG,putD,VM,VO,VN,Ka,true_and,↓qg,qc,↓qw,ql,qy,cond_false,qo,QS,↓qd,qb];try simp(disch:=omega)only[wrap_i64]
   try simp only[Qf]
   exact⟨i+1,by rw[hbv];rfl,Vl _,⟨hi',fun j hj=>by
    rcases KT j i with z|z
    ·exact hn j z
    ·rw[show j=i by omega];exact hb2⟩,by omega⟩
 ·try simp only[decide_eq_false_iff_not]at hb1
  have hns:s∉l:=by
   intro hm;obtain⟨j,hj,e⟩:=BM hm;exact hn j (by omega) (by rw[Kn,Jz hj];exact e)
  refine Xm ?_;change Awp _ _ _ _ _ _ _;refine awp_rseq [4] (by rfl) fun K hK=>?_;simp+decide only[ev,putD,VM,VO,Ka,true_and,↓qg,qc];refine QA (cs:=[.str s]) (by kernel_rfl) fun k6q2 hk6q2=>?_;try have hf_6q2:h k6q2=none:=by first|assumption|(simp only[V7]at hk6q2;simp only[hk6q2])
  refine XH (es:=1) (zs:=l.map qaj) (xs:=[[.str s]]) (hZ:=B) (b:=nb) (by rfl) (by rfl) Tryz.underlying30 Tryz.underlying30 (fun k e=>by cases e) sz9 by9 ze9 (by rfl) (by decide) (by rfl) hok heq qaR (Vg (by assumption)) (by rfl) (V8 (Vd _ _ _) (by simp) (by rfl) (by rfl) (.exact 1) (KJ _)) (by rfl) (by simp;omega) (by simp;omega) fun nb2 h6 o1 o2 o3=>?_;simp+decide only[qa,ev,putD,VM,VO,VN,Ka,true_and,↓qd,qb];apply hK;clear hK K;refine qL ?_;refine QF (qR (Qc)) ?_;simp+decide only[VO,if_true,Qs];exact⟨QG B nb2,o3,nb2,rfl,o1,by rw[o2,add_out hns,Ba];rfl,rfl⟩
end Go.Proofs.YtlhhaagmakhilaaGreatDoor
namespace Go.Proofs.YtlhhaagmakhilaaGreatDoor
open Go.AM
open Go.Proofs
open Go.Col (Str FaultC okF sp)
open Go.Tok
open Go.Cop
open Go.RowKit (Below)
set_option maxRecDepth 100000
theorem IsL.has{wz:World}{H:AHeap}{es:Nat}{ob:Option Buf}{xs:List (List AVal)}(hb:hasB H ob)(hes:0<es)(hc:Yn ob=xs.flatten)(hw:∀x∈xs,x.length=es)(hl:AM.allLive xs.flatten=true):IsL wz H es (QH es ob) xs:=by
 cases ob with
 |none=>
  have e:=XG hw;rw[<-hc]at e;have e0:xs.length*es=0:=by rw[<-e];rfl
  have:xs=[]:=by
   rcases Nat.mul_eq_zero.1 e0 with e1|e1
   ·exact Ke e1
   ·omega
  subst this;exact .nil
 |some b=>
  have hc':b.cells=xs.flatten:=hc;have e:b.cells.length / es=xs.length:=by rw[hc',XG hw,Vn _ hes]
  show IsL wz H es (.slice (.own b.blk) 0 (b.cells.length / es) (.grow es)) xs
  rw[e];exact V8 (hb b rfl) hw hc' hl (.grow es) rfl
def UW(k i:Nat)(l:List TokC):List TokC:=(qfP i l).take k++l.drop k
theorem WM(k i:Nat)(l:List TokC):(UW k i l).length=l.length:=by
 unfold UW;rw[Jb,K4,K5,qei];omega
theorem acyP_all{k i:Nat}{l:List TokC}(h:l.length<=k):UW k i l=qfP i l:=by
 unfold UW;rw[List.drop_of_length_le h,Be,Jq (by rw[qei];exact h)]
theorem qoN(i:Nat)(l:List TokC):UW 1 i l=l:=by
 cases l with
 |nil=>rfl
 |cons a l=>
  unfold UW qfP;simp
theorem qhC{k i j:Nat}{l:List TokC}(hj:k<=j)(hl:j<l.length):(UW k i l).getD j noT=l.getD j noT:=by
 unfold UW;rw[Kn,VA (by rw[K4,qei];omega),K4,qei,Eu (by omega),Ko,show k+(j-k)=j by omega];rfl
theorem qoO{k i j:Nat}{l:List TokC}(hj:j<k)(hk:k<=l.length):(UW k i l).getD j noT=(qfP i l).getD j noT:=by
 unfold UW;rw[Kn,Ew (by rw[K4,qei];omega),KZ,if_pos hj];rfl
theorem acyP_step{k i:Nat}{l:List TokC}(hk:k<l.length):UW (k+1) i l=(UW k i l).set k ((qfP i l).getD k noT):=by
 apply KY;intro j;rw[K3,WM];have hla:=qei i l;by_cases e:k=j
 ·subst e
  rw[if_pos rfl,if_pos hk];unfold UW;rw[Ew (by rw[K4,hla];omega),KZ,if_pos (by omega),Jz (by omega),Kn,Jz (by omega)];rfl
 ·rw[if_neg e]
  unfold UW;by_cases h:j<k
  ·rw[Ew (by rw[K4,hla];omega),Ew (by rw[K4,hla];omega),KZ,KZ,if_pos h,if_pos (by omega)]
  ·rw[VA (by rw[K4,hla];omega),VA (by rw[K4,hla];omega),K4,K4,hla,Ko,Ko,Eu (by omega),Eu (by omega),show k+1+(j-(k+1))=j by omega,show k+(j-k)=j by omega]
def qcs(i k:Nat)(m:List (List UInt8)):List MemC:=(m.take 8).mapIdx fun j x=>⟨WJ j,if j<i then qfP j (lOf x)else if j=i then UW k i (lOf x)else lOf x⟩
theorem acyN_zero(m:List (List UInt8)):qcs 0 1 m=qiN m:=by
 unfold qcs qiN;congr 1;funext j x;by_cases e:j=0
 ·subst e;simp[qoN]
 ·simp[e]
theorem acyN_next{i k:Nat}{m:List (List UInt8)}(h:(lOf (m.getD i [])).length<=k):qcs i k m=qcs (i+1) 1 m:=by
 unfold qcs;apply KY;intro j;rw[Ec,Ec];cases hj:(m.take 8)[j]? with
 |none=>rfl
 |some x=>
  simp only[KH,Option.some.injEq];rcases Nat.lt_trichotomy j i with c|c|c
  ·rw[if_pos c,if_pos (by omega)]
  ·subst c
   have hx:m.getD j []=x:=by
    rw[KZ]at hj;split at hj
    ·rw[Kn,hj];rfl
    ·cases hj
   rw[if_neg (by omega),if_pos rfl,if_pos (by omega),<-hx,acyP_all h]
  ·rw[if_neg (by omega),if_neg (by omega),if_neg (by omega)]
   by_cases e:j=i+1
   ·rw[if_pos e,e,qoN]
   ·rw[if_neg e]
theorem acyN_all{i:Nat}{m:List (List UInt8)}(h:(m.take 8).length<=i):qcs i 1 m=qcw m:=by
 unfold qcs qcw;apply KY;intro j;rw[Ec,Ec];cases hj:(m.take 8)[j]? with
 |none=>rfl
 |some x=>
  have:=(JA.1 hj).1;simp only[KH,Option.some.injEq];rw[if_pos (by omega)]
theorem qoP{i k:Nat}{m:List (List UInt8)}(h:i<m.length)(h8:i<8):(qcs i k m).getD i ⟨[],[]⟩=⟨WJ i,UW k i (lOf (m.getD i []))⟩:=by
 unfold qcs;rw[Kn,Ec,KZ,if_pos h8,Jz h];simp[Kn,h]
theorem qkE(i k:Nat)(m:List (List UInt8)):(qcs i k m).length=(m.take 8).length:=by unfold qcs;rw[EB]
theorem qkD{i k:Nat}{m:List (List UInt8)}(h:i<m.length)(h8:i<8)(hk:k<(lOf (m.getD i [])).length):qcs i (k+1) m=(qcs i k m).set i ⟨WJ i,(UW k i (lOf (m.getD i []))).set k ((qfP i (lOf (m.getD i []))).getD k noT)⟩:=by
 apply KY;intro j;rw[K3,qkE];unfold qcs;rw[Ec,Ec];by_cases e:i=j
 ·subst e
  rw[if_pos rfl,if_pos (by rw[K4];omega),KZ,if_pos h8,Jz h,<-acyP_step hk];simp[Kn,h]
 ·rw[if_neg e]
  cases hj:(m.take 8)[j]? with
  |none=>rfl
  |some x=>
   simp only[KH,Option.some.injEq];by_cases c:j<i
   ·rw[if_pos c,if_pos c]
   ·rw[if_neg c,if_neg c,if_neg (fun q=>e q.symm),if_neg (fun q=>e q.symm)]
theorem WW{h H:AHeap}(hs:Sub h H){k:Nat}(hk:h k=none)(c:Blk):Sub h (H.set k c):=fun j d hj=>by
 have e:j≠k:=fun e=>by subst e;rw[hk]at hj;cases hj
 rw[Vb _ _ e];exact hs j d hj
structure AcOk(h H:AHeap)(mb:Option Buf)(ms:List MemC)(qs:List MemB):Prop where
 sub:Sub h H
 has:hasB H mb
 new:∀b,mb=some b->h b.blk=none
 eq:Yn mb=(qs.map qdk).flatten
 ms:qs.map (·.1)=ms
 tk:TkOk h H qs
 ap:∀q∈qs,apart mb q.2
theorem AcOk.of{h:AHeap}{ms:List MemC}{s:LbG}(hs:LbOk h ms s):AcOk h (QG s.B s.mb) s.mb ms s.qs:=by
 have hS:Sub s.B (QG s.B s.mb):=BH hs.ok;refine⟨hs.sub.trans hS,qdn _ _,fun b e=>?_,hs.eq,hs.ms,⟨hs.tk.toks,fun q hq=>(hs.tk.has q hq).mono hS,hs.tk.new,hs.tk.apart⟩,fun q hq x y ex ey e=>?_⟩
 ·have:=hs.ok
  rw[e]at this;exact hs.sub.none this.1
 ·have h1:=hs.tk.has q hq y ey
  have h2:=hs.ok;rw[ex]at h2;rw[<-e,h2.1]at h1;cases h1
theorem qhK{qs:List MemB}:AM.allLive ((qs.map qdk).flatten)=true:=qhB (qpu qs)
theorem AcOk.set{h H:AHeap}{mb:Option Buf}{ms:List MemC}{qs:List MemB}(ha:AcOk h H mb ms qs){i:Nat}(hi:i<qs.length){b:Buf}{nm:Str}{tk tk':List TokC}(hq:qs.getD i (⟨[],[]⟩,none)=(⟨nm,tk⟩,some b))(hl:tk'.length=tk.length):
 AcOk h (H.set b.blk ⟨(tk'.map QM).flatten,0⟩) mb (ms.set i ⟨nm,tk'⟩) (qs.set i (⟨nm,tk'⟩,some ⟨b.blk,(tk'.map QM).flatten⟩)):=by
 have hqi:qs[i]?=some (⟨nm,tk⟩,some b):=by
  rw[Kn,Jz hi]at hq;rw[Jz hi];exact congrArg some hq
 have hmem:(⟨nm,tk⟩,some b)∈qs:=JZ hqi;have hbc:b.cells=(tk.map QM).flatten:=ha.tk.toks _ hmem;have hne:∀q∈qs.set i (⟨nm,tk'⟩,some ⟨b.blk,(tk'.map QM).flatten⟩),∀c,q.2=some c->q=(⟨nm,tk'⟩,some ⟨b.blk,(tk'.map QM).flatten⟩)\/(q∈qs/\c.blk≠b.blk):=by
  intro q hq c hc;obtain⟨j,hj,e⟩:=BM hq;rw[Et]at hj;by_cases ej:i=j
  ·subst ej
   rw[EC]at e;exact .inl e.symm
  ·rw[ED ej]at e
   have hqm:q∈qs:=by rw[<-e];exact VH hj
   have hpw:=EE.1 ha.tk.apart;have hib:qs[i]=(⟨nm,tk⟩,some b):=by rw[Jz hi]at hqi;exact Option.some.inj hqi
   rcases KT i j with c1|c1
   ·exact .inr ⟨hqm,fun e2=>hpw i j hi hj c1 b c (by rw[hib]) (by rw[e];exact hc) e2.symm⟩
   ·exact .inr ⟨hqm,fun e2=>hpw j i hj hi (by omega) c b (by rw[e];exact hc) (by rw[hib]) e2⟩
 have hbn:=ha.tk.new _ hmem b rfl;have hmap:(qs.set i (⟨nm,tk'⟩,some ⟨b.blk,(tk'.map QM).flatten⟩)).map qdk=qs.map qdk:=by
  rw[EF];refine KY fun j=>?_;rw[K3,Jo];by_cases ej:i=j
  ·subst ej
   rw[if_pos rfl,if_pos hi,Eb,hqi];simp only[KH,qdk,QH];rw[hbc,XG (es:=5) Xn,XG (es:=5) Xn,Jo,Jo,hl]
  ·rw[if_neg ej]
 refine⟨WW ha.sub hbn _,fun x ex=>?_,ha.new,by rw[hmap];exact ha.eq,by rw[EF,ha.ms],⟨fun q hq=>?_,fun q hq c hc=>?_,fun q hq c hc=>?_,?_⟩,fun q hq x y ex ey e=>?_⟩
 ·rw[Vb _ _ (ha.ap _ hmem x b ex rfl)]
  exact ha.has x ex
 ·rcases hq2:q.2 with _|c
  ·have:q∈qs:=by
    obtain⟨j,hj,e⟩:=BM hq;rw[Et]at hj;by_cases ej:i=j
    ·subst ej
     rw[EC]at e;rw[<-e]at hq2;cases hq2
    ·rw[ED ej]at e
     rw[<-e];exact VH hj
   rw[<-hq2];exact ha.tk.toks q this
  ·rcases hne q hq c hq2 with e|⟨e,-⟩
   ·rw[e]at hq2|-
    rw[<-hq2];rfl
   ·rw[<-hq2];exact ha.tk.toks q e
 ·rcases hne q hq c hc with e|⟨e,e2⟩
  ·rw[e]at hc
   obtain rfl:=Option.some.inj hc;exact Vd _ _ _
  ·rw[Vb _ _ e2]
   exact ha.tk.has q e c hc
 ·rcases hne q hq c hc with e|⟨e,e2⟩
  ·rw[e]at hc
   obtain rfl:=Option.some.inj hc;exact hbn
  ·exact ha.tk.new q e c hc
 ·rw[EE]
  intro j1 j2 h1 h2 hlt x y ex ey e;rw[Et]at h1 h2;have hpw:=EE.1 ha.tk.apart;have hib:qs[i]=(⟨nm,tk⟩,some b):=by rw[Jz hi]at hqi;exact Option.some.inj hqi
  by_cases e1:i=j1
  ·subst e1
   rw[EC]at ex;rw[ED (by omega)]at ey;obtain rfl:=Option.some.inj ex;exact hpw i j2 h1 h2 hlt b y (by rw[hib]) ey e
  ·rw[ED e1]at ex
   by_cases e2:i=j2
   ·subst e2
    rw[EC]at ey;obtain rfl:=Option.some.inj ey;exact hpw j1 i h1 h2 hlt x b ex (by rw[hib]) e
   ·rw[ED e2]at ey
    exact hpw j1 j2 h1 h2 hlt x y ex ey e
 ·rcases hne q hq y ey with e1|⟨e1,e2⟩
  ·rw[e1]at ey
   obtain rfl:=Option.some.inj ey;exact ha.ap _ hmem x b ex rfl e
  ·exact ha.ap q e1 x y ex ey e
end Go.Proofs.YtlhhaagmakhilaaGreatDoor
