/-
  Texts of this proof, joined: CoJ, TkO, TkP, TkQ, TmA, BmC, BmD, BmE, BmF, CpA, CpB, CpC, CpD, CpE, CpF, CpG, CpH, CpI, CpJ, CpK, CpL, CpM, CqA, CqB, CqC, CqD, CqE, CqF, CqG, CqH, CqI, CqJ, CqK, CqL.
  Conditions: none.
-/
import Derived.Test.YtlhhaagmakhilaaGreatDoorVc
import Derived.Test.YtlhhaagmakhilaaGreatDoorVb
import Derived.Defers
import Derived.KernelRfl
set_option linter.unusedSimpArgs false
set_option linter.unnecessarySimpa false
set_option linter.unusedVariables false
open Go.AM.Slots renaming put->VM,get->VO,keep->VN
open Go.AM.Sub renaming refl->Vl,trans_set->V3,set_both->V9,set->Vg,none->Bg,trans->BJ,buf->BH
open Nat renaming zero_le->Js,zero_add->Jr,mul_one->BI,le_of_ble_eq_true->VL,le_of_not_lt->Kr,le_refl->KJ,lt_of_not_le->JO,eq_or_lt_of_le->JB,lt_or_ge->KT,mul_succ->BZ,add_zero->K6,le_add_right->Ei
open List renaming getD->Kn,getElem?_eq_getElem->Jz,getElem_mem->VH,drop_eq_getElem_cons->J4,length_cons->KX,length_nil->J8,getD_cons_zero->VX,getD_cons_succ->Km,set_cons_zero->VW,set_cons_succ->Ki,map_nil->Vj,drop_length->JY,map_cons->Kc,length_map->Jo,map_eq_nil_iff->VU,drop_eq_nil_of_le->Vt,range->KO,all_eq_true->JC,mem_range->JD,contains_iff_mem->JW,getElem_of_mem->BM,any_eq_true->JX,getElem?_drop->Ko,drop_drop->BN,mem_cons_self->Je,getElem?_eq_some_iff->JA,mem_of_getElem?->JZ,drop_zero->KP,cons_append->Kg,length->BP,length_drop->K5,length_singleton->JR,length_take->K4,take_append_drop->Bo,eq_nil_of_length_eq_zero->Ke,length_pos_iff->BQ,mem_of_find?_eq_some->BR,findIdx?_eq_none_iff->BS,findIdx?_eq_some_iff_getElem->BU,find?_eq_some_iff_getElem->BV,find?_some->BX,length_append->Jb,takeWhile_cons->Ea,mem_append->JI,mem_singleton->BD,mem_map->JG,getElem?_map->Eb,map_append->Ba,take_of_length_le->Jq,append_nil->Be,filterMap_cons->VI,filterMap_nil->Ec,getElem?_cons_zero->Ky,getElem?_cons_succ->KL,take_succ_cons->Kh,take_zero->V6,drop_succ_cons->VB,mem_cons->KW,not_mem_nil->Bj,findIdx?_map->Eg,any_eq_false->Eh,nil_append->Jd,append_assoc->K9,flatten_append->Ej,getElem_map->El
open Int renaming toNat_natCast->Vq
open Bool renaming and_eq_true->Kw,or_eq_true->JV,not_eq_true'->Ji,and_eq_false_iff->VP,or_eq_false_iff->VQ,not_eq_false'->VS,and_true->JS,and_false->BK,false_and->VZ,true_and->Vf,false_or->BO,not_false->Ed,not_true->VY,false_eq_true->KV,true_eq_false->Ee
open Go.AM.AHeap renaming set_none->V7,set_comm->Vi,set_set->Vh,set_ne->Vb,set_same->Vd,ne_some->Bh,set->Bd,del->Vk,del_set->Ef
open Go.AM.AVal renaming cells->VV
open Go.AM.Awp renaming keep->Va,forget->BG
open UInt8 renaming toNat_inj->BL
open Array renaming replicate->Jw,getD_eq_getD_getElem?->Kt,getElem?_append->Jy,getD->JE
open Go.AM.PMap renaming le_trans->J6
open Go.AM.IsL renaming own->V8,buf->BF
open Option renaming getD_some->VK
namespace Go.Proofs.YtlhhaagmakhilaaGreatDoor
open Go.AM
open Go.Proofs
open Go.Col
set_option maxRecDepth 100000
theorem qsK(wz:World)(hm:MaxL wz)(h B0:AHeap)(hs0:Sub h B0)(kr kx ks:Nat)(text:Str)(dbg:Bool)(lines:List Str)(hln:lines=XU (Yw text))(hl:text.length<=1048576)
 (er:B0 kr=some ⟨[.int .i64 0, .int .i64 0, .int .i64 0],0⟩) (hr:h kr=none) (es:B0 ks=some ⟨lines.map AVal.str,0⟩) (hi:RdInv wz B0 kx B0 (fun _=>none) none none .start):
 Awp Tryz.prog wz 82 (UL 4 (qie (UL 1 (qfC Tryz.f49)))) (qeH (qdN Tryz.prog wz [.tmp 4, .cell 5 35] (qnW wz h text dbg))) [(1, .bool dbg),(5, .ptr (.own kr) 0),(6, .ptr (.own kx) 0),(7, .slice (.own ks) 0 lines.length (.exact lines.length))] (rdH kx B0 none none .start):=by
 have hnl:lines.length<=1048577:=by
  rw[hln];have:=qdH (Yw text);have:=qcS text;omega
 change Awp _ _ _ (Code.seq _ _) _ _ _;refine qL ?_;refine awp_rseq [1,5,6,21,22,23] (by rfl) fun K hK=>?_;simp+decide only[qa,ev,qH,qF,putD,VM,VO,VN,Ka,true_and,↓qh,qc,↓Xt,QD,ZK Tryz.underlying30];apply hK;clear hK K;refine Qp ?_;refine XE [1,5,6,21,22,23] (fun g:RdL=>[(1, .bool dbg),(5, .ptr (.own kr) 0),(6, .ptr (.own kx) 0),(21, .slice (.own ks) 0 lines.length (.exact lines.length)),(22, .int .i64 lines.length),(23, .int .i64 g.i)]) (fun g:RdL=>rdH kx g.B g.cb g.mb g.x) (fun g:RdL=>RdInv wz B0 kx g.B g.M g.cb g.mb g.x/\g.i<=lines.length/\RdSm g.i g.x/\Wt dbg (lines.drop g.i) (g.i+1) g.x=Wt dbg lines 1 .start) (fun g:RdL=>lines.length-g.i) ⟨0,B0,fun _=>none,none,none, .start⟩ (by rfl) (Vl _) ⟨hi,Js _,⟨by simp[Rd.start],by simp[Rd.start]⟩,rfl⟩ ?_;rintro⟨i,B,M,cb,mb,x⟩ ⟨ri,hin,hsm,hrl⟩;simp only at ri hin hsm hrl|-
 have rix:=fun o=>Qz wz ri.at o;refine awp_rseq [1,5,6,21,22,23,24] (by rfl) fun K hK=>?_;simp+decide only[qa,ev,putD,VM,VO,VN,Ka,true_and,↓qA,ql,qZ,cond_false,qp,Zc];apply hK;clear hK K;refine qL (qK (b:=_) rfl (fun hb1=>?_) (fun hb1=>?_))
 ·try simp only[decide_eq_true_eq]at hb1
  have hi':i<lines.length:=by omega
  have eks:=ri.above _ _ es;have rks:=fun o=>Qz wz eks o;have eg:(lines.map AVal.str).getD i .dead= .str (lines.getD i []):=by simp[Kn,hi']
  obtain⟨r,cn,f,hp⟩:∃r cn f,Um (lines.getD i []) ((i:Int)+1) dbg=(r,cn,f):=⟨_,_,_,rfl⟩
  have hsl:=qhK (s:=lines.getD i []) (line:=(i:Int)+1) (dbg:=dbg);rw[hp]at hsl;simp only at hsl;have hlm:(lines.getD i []).length<=1048576:=by
   have h1:=qhy (Yw text) (lines.getD i []) (by rw[<-hln,Kn,Jz hi'];exact VH hi');have h2:=qcS text;omega
  have hdrop:lines.drop i=lines.getD i []::lines.drop (i+1):=by rw[J4 hi'];simp[Kn,hi']
  refine qV ?_;change Awp _ _ _ _ _ _ _;refine qL ?_;refine Qp ?_;refine awp_rseq [1,5,6,8,9,21,22,23] (by rfl) fun K hK=>?_;simp+decide only[qa,ev,putD,VM,VO,VN,Ka,true_and,↓qh,qc,↓QN,Qb,Qh Tryz.underlying30 sz9,↓qG,qz ag9,↓qd,qb,Jr,qE,rks,eg,Vq,BI];repeat (with_reducible refine And.intro ?_ ?_;· first|trivial|omega|(intro hg;simp only[Kw,JV,Ji,VP,VQ,VS,decide_eq_true_eq,decide_eq_false_iff_not,XT]at hg;omega))
  apply hK;clear hK K;refine awp_rseq [1,5,6,10,11,12,21,22,23] (by rfl) fun K hK=>?_;simp+decide only[ev,qH,qF,putD,VM,VO,Ka,true_and,↓qh,qc,↓qA,ql,qC,cond_false,qp,Xc];try simp(disch:=omega)only[wrap_i64]
  refine qM (V:= .tuple [qiE r, .bool cn,QA f]) (by rfl) (by rfl) ((c_read wz _ (lines.getD i []) ((i:Int)+1) dbg (by omega) (by omega) (by omega)).val (by rw[hp])) ?_;simp+decide only[ev,putD,VM,VO,Ka,true_and,↓qh,qc,↓QV,QI,QT,KX,J8,VX,Km,VX,Km,Jr,Nat.reduceAdd,QA,qiE];refine Qk qsv (cs:=[.int .i64 0, .bool false, .str [], .int .i64 0]) (by rfl) fun k8q9 hk8q9=>?_;try have hf_8q9:(rdH kx B0 none none .start) k8q9=none:=by first|assumption|(simp only[V7]at hk8q9;simp only[hk8q9])
  refine Qk qbT (cs:=[.int .i64 0, .int .i64 0, .int .i64 0]) (by rfl) fun k8q10 hk8q10=>?_;have ne_8q10_8q9:k8q10≠k8q9:=by simp only[V7]at hk8q10;simp only[hk8q10,ne_eq,not_false_eq_true]
  try have hf_8q10:(rdH kx B0 none none .start) k8q10=none:=by first|assumption|(simp only[V7]at hk8q10;simp only[hk8q10])
  refine qo (by rfl) (by rfl) zqA Ye (by rfl) (by rfl) zqD (Js _) (by rfl) ?_;simp only[VV];simp+decide only[ev,putD,VM,VO,Ka,true_and,↓qd,qb,setAt,VW,Ki,Jr,Nat.reduceAdd];refine qo (by rfl) (by rfl) zqA QK (by rfl) (by rfl) zqD (Js _) (by rfl) ?_;simp only[VV];simp+decide only[qa,ev,putD,VO,VN,Ka,setAt,VW,Ki,Jr,Nat.reduceAdd];apply hK;clear hK K;refine qL ?_;have hnorm:((((rdH kx B cb mb x).set k8q9 ⟨[.int .i64 0, .bool false, .str [], .int .i64 0],0⟩).set k8q10 ⟨[.int .i64 0, .int .i64 0, .int .i64 0],0⟩).set k8q9 ⟨[.int .i64 r.line, .bool r.more, .str r.text, .int .i64 r.col],0⟩).set k8q10 ⟨[.int .i64 f.e, .int .i64 f.line, .int .i64 f.col],0⟩=((rdH kx B cb mb x).set k8q9 ⟨[.int .i64 r.line, .bool r.more, .str r.text, .int .i64 r.col],0⟩).set k8q10 ⟨[.int .i64 f.e, .int .i64 f.line, .int .i64 f.col],0⟩:=by
   rw[Vi ((rdH kx B cb mb x).set k8q9 ⟨[.int .i64 0, .bool false, .str [], .int .i64 0],0⟩) _ _ ne_8q10_8q9.symm,Vh,Vh]
  rw[hnorm];obtain⟨a1,a2,a3,a4⟩:=qig ri hk8q9 ⟨[.int .i64 r.line, .bool r.more, .str r.text, .int .i64 r.col],0⟩;have hk2:rdH kx (B.set k8q9 ⟨[.int .i64 r.line, .bool r.more, .str r.text, .int .i64 r.col],0⟩) cb mb x k8q10=none:=by
   rw[<-a1,Vb _ _ ne_8q10_8q9]
   rwa [Vb _ _ ne_8q10_8q9]at hk8q10
  obtain⟨b1,b2,b3,b4⟩:=qig a2 hk2 ⟨[.int .i64 f.e, .int .i64 f.line, .int .i64 f.col],0⟩;rw[a1,b1];obtain⟨B₁,hB₁⟩:∃B₁,B₁=(B.set k8q9 ⟨[.int .i64 r.line, .bool r.more, .str r.text, .int .i64 r.col],0⟩).set k8q10 ⟨[.int .i64 f.e, .int .i64 f.line, .int .i64 f.col],0⟩:=⟨_,rfl⟩
  rw[<-hB₁]at b2|-
  have e0:B₁ k8q9=some ⟨[.int .i64 r.line, .bool r.more, .str r.text, .int .i64 r.col],0⟩:=by rw[hB₁,Vb _ _ ne_8q10_8q9.symm,Vd]
  have e1:B₁ k8q10=some ⟨[.int .i64 f.e, .int .i64 f.line, .int .i64 f.col],0⟩:=by rw[hB₁,Vd]
  have hB8:B k8q10=none:=by rwa [Vb _ _ ne_8q10_8q9]at b4
  have s0:=fun o=>Qz wz (b2.other e0) o;have s1:=fun o=>Qz wz (b2.other e1) o;refine awp_rseq [1,5,6,10,12,21,22,23,43] (by rfl) fun K hK=>?_;simp+decide only[qa,ev,qH,qF,putD,VM,VO,VN,Ka,true_and,↓qG,Qb,qg Xv QK,↓Qr,↓qY,ZV,evP,Vj,↓qA,ql,qZ,cond_false,YG,eq35,↓qh,qc,↓Xe,agP,Qt,qJ,qI,qy,implies_true,JS,↓qcd,XP,Yk,qkT,qkV,↓QR,Qs,Qg,Xn,Xp,qf,VX,Km,Jr,Nat.reduceAdd,qi,allLive,JS,s1,Ua];apply hK;clear hK K;refine qK (b:=_) rfl (fun hb2=>?_) (fun hb2=>?_)
  ·try simp only[decide_eq_true_eq,Ji,Kw]at hb2
   have iz:=b2;have gz:=hsm.next;have lz:Wt dbg (lines.drop (i+1)) (((i+1:Nat):Int)+1) x=Wt dbg lines 1 .start:=by
    rw[<-hrl,hdrop,qog (by rw[hp,hb2.2]) hb2.1];rfl
   refine XJ ?_;change Awp _ _ _ _ _ _ _;refine XL [1,5,6,21,22,23] (by rfl) ?_;simp+decide only[qa,ev,qH,qF,putD,VM,VO,VN,Ka,true_and,↓qA,ql,qC,cond_false,qp,Xc,↓qh,qc];try simp(disch:=omega)only[wrap_i64]
   try simp only[Qi]
   exact⟨⟨i+1,_,_,_,_,_⟩,rfl,Vl _,⟨iz,by simp only;omega,gz,lz⟩,by simp only;omega⟩
  ·try simp only[decide_eq_false_iff_not,VS,VP]at hb2
   refine qV ?_;change Awp _ _ _ _ _ _ _;refine qL ?_;refine awp_rseq [1,5,6,10,12,21,22,23,46] (by rfl) fun K hK=>?_;simp+decide only[qa,ev,qH,qF,putD,VM,VO,VN,Ka,true_and,↓qG,Qb,qg Xv QK,↓Qr,↓qY,ZV,evP,Vj,↓qA,ql,qZ,cond_false,YG,eq35,qf,VX,Km,Jr,Nat.reduceAdd,qi,allLive,JS,s1,Ua];apply hK;clear hK K;refine qK (b:=_) rfl (fun hb3=>?_) (fun hb3=>?_)
   ·try simp only[decide_eq_true_eq]at hb3
    have hcn:cn=true:=by
     cases hcn:cn with
     |true=>rfl
     |false=>
      rcases hb2 with e|e
      ·exact absurd hb3 e
      ·rw[hcn]at e
       cases e
    subst hcn;refine XL [1,5,6,12,21,22,23] (by rfl) ?_;simp+decide only[ev,putD,VM,VO,Ka,true_and,↓qG,Qb,qg WK Ye,qf,VX,Km,Jr,Nat.reduceAdd,qB,qi,qE,allLive,JS,s0];refine QO (by rfl) (by rfl) (c_take wz B0 kx B₁ M cb mb x b2 r (fun c hc=>by have:=hsm.small c hc;omega) (by have:=hsm.many;omega) (by omega) (hsl.2 rfl).1 (hsl.2 rfl).2.1 (by have:=(hsl.2 rfl).2.2;omega)) fun x11q1 h11q1 hx11q1=>?_;obtain⟨ex,B',M',cb',mb',rfl,i2,s2,m2⟩:=hx11q1;obtain⟨fz,hfz⟩:∃fz,fz=(takeE x r).2:=⟨_,rfl⟩
    rw[<-hfz]at ex;subst ex;have hM8:M' k8q10=none:=m2 _ (by rw[e1];simp) (ri.subM.none hB8);obtain⟨c1,iz⟩:=i2.put (s2 _ _ e1) (ri.sub.none hB8) hM8 ⟨[.int .i64 fz.e, .int .i64 fz.line, .int .i64 fz.col],0⟩;have gz:=qdE hsm (r:=r) (by omega);refine qo (v:= .agg [.int .i64 fz.e, .int .i64 fz.line, .int .i64 fz.col]) (by rfl) (by rfl) (i2.other (s2 _ _ e1)) QK (by rfl) (by rfl) (by simp[]) (Js _) (by rfl) ?_;simp only[setAt,VV,VW,Ki,Jr,Nat.reduceAdd];rw[c1];have ez:=Vd B' k8q10 ⟨[.int .i64 fz.e, .int .i64 fz.line, .int .i64 fz.col],0⟩;simp+decide only[qa,putD,VM,VN,Ka,QA];change Awp _ _ _ _ _ _ _;refine awp_rseq [1,5,6,12,21,22,23,51] (by rfl) fun K hK=>?_;simp+decide only[qa,ev,qH,qF,putD,VM,VO,VN,Ka,true_and,↓qG,Qb,qg Xv QK,↓Qr,↓qY,ZV,evP,Vj,↓qA,ql,qZ,cond_false,YG,qna,qf,VX,Km,Jr,Nat.reduceAdd,qi,allLive,JS,Qz wz (iz.other ez),Ua];apply hK;clear hK K;refine qK (b:=_) rfl (fun hb4=>?_) (fun hb4=>?_)
    ·try simp only[decide_eq_false_iff_not,Ji]at hb4
     have hres:=qhB (text:=text) (dbg:=dbg) hl (by rw[<-hln,<-hrl,hdrop,qri hp hb3 (by rw[<-hfz];exact hb4)]) (by rw[<-hfz];exact hb4);rw[<-hfz]at hres;refine Zi 2 [4,5] mixed (by kernel_rfl) (by rfl) (by rfl) fun K hK=>?_;simp+decide only[ev,qH,qF,putD,VM,VO,Ka,true_and,↓qG,Qb,qg Xv QK,↓qd,qb,qf,VX,Km,Jr,Nat.reduceAdd,qi,allLive,JS,Qz wz (iz.other ez)];refine qo (v:= .agg [.int .i64 fz.e, .int .i64 fz.line, .int .i64 fz.col]) (by rfl) (by rfl) (iz.other (iz.sub _ _ er)) QK (by rfl) (by rfl) (by simp[]) (Js _) (by rfl) ?_;simp only[setAt,VV,VW,Ki,Jr,Nat.reduceAdd];simp+decide only[qa,putD,VN,Ka];apply hK;clear hK K;refine qN ?_;try simp only[Qf,Qu,Wd]
     refine qW h (V3 (hs0.trans iz.above) hr) (?_) ?_
     ·simp+decide only[QC,qw,qj,VO,Ka,and_true,qw,qj,qg Xv QK,Qc,qf,VX,Km,Jr,Nat.reduceAdd,qi,allLive,JS,qf,VX,Km,Jr,Nat.reduceAdd,qi,allLive,JS]
     simp+decide only[VO,Ka,Xi,qw,qj,qg Xv QK,Qc,qf,VX,Km,Jr,Nat.reduceAdd,qi,allLive,JS,qf,VX,Km,Jr,Nat.reduceAdd,qi,allLive,JS];exact⟨.nilSlice,by rw[hres];rfl,by rw[hres];exact⟨[],rfl, .nil,by simp⟩,Vl _⟩
    ·try simp only[decide_eq_true_eq,VS]at hb4
     have lz:Wt dbg (lines.drop (i+1)) (((i+1:Nat):Int)+1) (takeE x r).1=Wt dbg lines 1 .start:=by
      rw[<-hrl,hdrop,qof hp hb3 (by rw[<-hfz];exact hb4)];rfl
     refine qV ?_;change Awp _ _ _ _ _ _ _;refine XL [1,5,6,21,22,23] (by rfl) ?_;simp+decide only[qa,ev,qH,qF,putD,VM,VO,VN,Ka,true_and,↓qA,ql,qC,cond_false,qp,Xc,↓qh,qc];try simp(disch:=omega)only[wrap_i64]
     try simp only[Qi]
     exact⟨⟨i+1,_,_,_,_,_⟩,rfl,Vl _,⟨iz,by simp only;omega,gz,lz⟩,by simp only;omega⟩
   ·try simp only[decide_eq_false_iff_not]at hb3
    have iz:=b2;have ez:=e1;obtain⟨fz,hfz⟩:∃fz,fz=f:=⟨_,rfl⟩
    subst hfz;refine qV ?_;change Awp _ _ _ _ _ _ _;refine awp_rseq [1,5,6,12,21,22,23,51] (by rfl) fun K hK=>?_;simp+decide only[qa,ev,qH,qF,putD,VM,VO,VN,Ka,true_and,↓qG,Qb,qg Xv QK,↓Qr,↓qY,ZV,evP,Vj,↓qA,ql,qZ,cond_false,YG,qna,qf,VX,Km,Jr,Nat.reduceAdd,qi,allLive,JS,s1,Ua];apply hK;clear hK K;refine qK (b:=_) rfl (fun hb5=>?_) (fun hb5=>?_)
    ·try simp only[decide_eq_false_iff_not,Ji]at hb5
     have hres:=qhB (text:=text) (dbg:=dbg) hl (by rw[<-hln,<-hrl,hdrop,qmH hp hb3]) hb3;refine Zi 2 [4,5] mixed (by kernel_rfl) (by rfl) (by rfl) fun K hK=>?_;simp+decide only[ev,qH,qF,putD,VM,VO,Ka,true_and,↓qG,Qb,qg Xv QK,↓qd,qb,qf,VX,Km,Jr,Nat.reduceAdd,qi,allLive,JS,s1];refine qo (v:= .agg [.int .i64 fz.e, .int .i64 fz.line, .int .i64 fz.col]) (by rfl) (by rfl) (iz.other (iz.sub _ _ er)) QK (by rfl) (by rfl) (by simp[]) (Js _) (by rfl) ?_;simp only[setAt,VV,VW,Ki,Jr,Nat.reduceAdd];simp+decide only[qa,putD,VN,Ka];apply hK;clear hK K;refine qN ?_;try simp only[Qf,Qu,Wd]
     refine qW h (V3 (hs0.trans iz.above) hr) (?_) ?_
     ·simp+decide only[QC,qw,qj,VO,Ka,and_true,qw,qj,qg Xv QK,Qc,qf,VX,Km,Jr,Nat.reduceAdd,qi,allLive,JS,qf,VX,Km,Jr,Nat.reduceAdd,qi,allLive,JS]
     simp+decide only[VO,Ka,Xi,qw,qj,qg Xv QK,Qc,qf,VX,Km,Jr,Nat.reduceAdd,qi,allLive,JS,qf,VX,Km,Jr,Nat.reduceAdd,qi,allLive,JS];exact⟨.nilSlice,by rw[hres];rfl,by rw[hres];exact⟨[],rfl, .nil,by simp⟩,Vl _⟩
    ·try simp only[decide_eq_true_eq,VS]at hb5
     exact absurd hb5 hb3
 ·try simp only[decide_eq_false_iff_not]at hb1
  obtain rfl:i=lines.length:=by omega
  have hdone:Wt dbg (XU (Yw text)) 1 .start=(x,okF):=by
   rw[<-hln,<-hrl,JY];rfl
  refine XJ ?_;change Awp _ _ _ _ _ _ _;refine Va [5,6] ?_;exact readEnd wz h B0 hs0 kr kx text dbg hl er hr B M cb mb x ri (by have:=hsm.many;omega) hdone
theorem qiI{text:Str}{dbg:Bool}(hl:1048576<text.length):UD text dbg=([],⟨3,0,0⟩):=by
 unfold UD;rw[if_pos hl]
theorem c_Read(wz:World)(hm:MaxL wz)(h:AHeap)(text:Str)(dbg:Bool)(hl:text.length<=9223372036854775807):ACall Tryz.prog wz 49 [.str text, .bool dbg] h (qnW wz h text dbg):=by
 refine qP (n:=82) (rs:=[.tmp 4, .cell 5 35]) Tryz.func49 rfl rfl rfl rfl (VL rfl) ?_;simp only[Qd];refine awp_rseq [0,1,5] (by rfl) fun K hK=>?_;simp+decide only[ev,qH,qF,putD,VM,if_false,true_and,↓qd,qb,Jr];refine Qk qbT (cs:=[.int .i64 0, .int .i64 0, .int .i64 0]) (by rfl) fun k0q1 hk0q1=>?_;try have hf_0q1:h k0q1=none:=by first|assumption|(simp only[V7]at hk0q1;simp only[hk0q1])
 simp+decide only[qa,putD,VM,VN,Ka];apply hK;clear hK K;refine qlc ?_;refine qL ?_;refine awp_rseq [0,1,5,16] (by rfl) fun K hK=>?_;simp+decide only[qa,ev,qH,qF,putD,VM,VO,VN,Ka,true_and,↓qh,qc,↓Xt,QD,YW Tryz.underlying9,↓qA,ql,qC,cond_false,qp,UE];apply hK;clear hK K;refine qK (b:=_) rfl (fun hb1=>?_) (fun hb1=>?_)
 ·try simp only[decide_eq_true_eq]at hb1
  refine awp_rseq [4,5] (by rfl) fun K hK=>?_;simp+decide only[ev,qH,qF,putD,VM,VO,Ka,true_and,↓Qr,↓qY,qpU,evP,Kc,Vj,↓qd,qb];refine qo (by rfl) (by rfl) zqA QK (by rfl) (by rfl) zqD (Js _) (by rfl) ?_;simp only[Vh,VV];simp+decide only[qa,ev,putD,VO,VN,Ka,setAt,VW,Ki,Jr,Nat.reduceAdd];apply hK;clear hK K;refine qN ?_;try simp only[Qf,Wd]
  refine qW h zqC (?_) ?_
  ·simp+decide only[QC,qw,qj,VO,Ka,and_true,qw,qj,qg Xv QK,Qc,qf,VX,Km,Jr,Nat.reduceAdd,qi,allLive,JS,qf,VX,Km,Jr,Nat.reduceAdd,qi,allLive,JS]
  simp+decide only[VO,Ka,Xi,qw,qj,qg Xv QK,Qc,qf,VX,Km,Jr,Nat.reduceAdd,qi,allLive,JS,qf,VX,Km,Jr,Nat.reduceAdd,qi,allLive,JS];have hb:1048576<text.length:=by omega
  exact⟨.nilSlice,by rw[qiI hb];rfl,by rw[qiI hb];exact⟨[],rfl, .nil,by simp⟩,Vl _⟩
 ·try simp only[decide_eq_false_iff_not]at hb1
  refine qV ?_;change Awp _ _ _ _ _ _ _;refine awp_rseq [0,1,5,6] (by rfl) fun K hK=>?_;refine Qk ze116 (cs:=[.nilSlice, .int .i64 0, .int .i64 0, .bool false]) (by rfl) fun k3q0 hk3q0=>?_;have ne_3q0_0q1:k3q0≠k0q1:=by simp only[V7]at hk3q0;simp only[hk3q0,ne_eq,not_false_eq_true]
  try have hf_3q0:h k3q0=none:=by first|assumption|(simp only[V7]at hk3q0;simp only[hk3q0])
  simp+decide only[qa,putD,VM,VN,Ka];apply hK;clear hK K;refine awp_rseq [1,5,6,7] (by rfl) fun K hK=>?_;simp+decide only[ev,putD,VM,VO,Ka,true_and,↓qh,qc];refine qM (V:= .str (Yw text)) (by rfl) (by rfl) (c_trimNL wz _ text hl) ?_;refine QO (by rfl) (by rfl) (c_split wz hm _ (Yw text) (by have:=qcS text;omega)) fun x4q2 h4q2 hx4q2=>?_;obtain⟨ks,hks,rfl,rfl⟩:=hx4q2;simp+decide only[qa,ev,putD,VM,VO,VN,Ka,true_and,↓qd,qb];apply hK;clear hK K;refine qL ?_;refine qld ?_;change Awp _ _ _ _ _ _ _;obtain⟨nks,_,hks2⟩:=(V7 _ _ _ _).mp hks;obtain⟨nkr,_,hks3⟩:=(V7 _ _ _ _).mp hks2;have nkx:k3q0≠k0q1:=((V7 _ _ _ _).mp hk3q0).1;have hcomm:((h.set k0q1 ⟨[.int .i64 0, .int .i64 0, .int .i64 0],0⟩).set k3q0 ⟨[.nilSlice, .int .i64 0, .int .i64 0, .bool false],0⟩).set ks ⟨(XU (Yw text)).map AVal.str,0⟩=rdH k3q0 ((h.set k0q1 ⟨[.int .i64 0, .int .i64 0, .int .i64 0],0⟩).set ks ⟨(XU (Yw text)).map AVal.str,0⟩) none none .start:=Vi _ _ _ nks;rw[hcomm];exact qsK wz hm h _ zqB k0q1 k3q0 ks text dbg (XU (Yw text)) rfl (by omega) ((Vb _ _ nkr.symm).trans (Vd _ _ _)) hk0q1 (Vd _ _ _) ⟨Vl _,(fun _ _ e=>by cases e),(Vb _ _ nks.symm).trans hk3q0,trivial,trivial, .inl ⟨rfl,rfl,rfl⟩⟩
end Go.Proofs.YtlhhaagmakhilaaGreatDoor
namespace Go.Proofs.YtlhhaagmakhilaaGreatDoor
open Go.AM
open Go.Proofs
open Go.Col
open Go.Tok
open Go.RowKit (Below)
set_option maxRecDepth 100000
theorem qrZ{wz:World}{h:AHeap}{l:AM.Loc}{o n:Nat}{cp:Cap}{cs:List CardC}(hc:IsCards wz h (.slice l o n cp) cs){i:Nat}(hi:i<cs.length):
 ∃mv,IsL wz h 3 mv ((cs.getD i ⟨false,[],[]⟩).marks.map Uk)/\rd wz h l (o+i*3)= .bool (cs.getD i ⟨false,[],[]⟩).left/\rd wz h l (o+i*3+1)= .str (cs.getD i ⟨false,[],[]⟩).text/\rd wz h l (o+i*3+2)=mv:=by
 obtain⟨ps,rfl,h2,h3⟩:=hc;rw[Jo]at hi;have he:=h2.elem (i:=i) (by rw[Jo];exact hi);rw[getD_map (⟨false,[],[]⟩, .dead) hi]at he;have hg:(ps.map (·.1)).getD i ⟨false,[],[]⟩=(ps.getD i (⟨false,[],[]⟩, .dead)).1:=by
  simp[Kn,hi]
 rw[hg];have hm:ps.getD i (⟨false,[],[]⟩, .dead)∈ps:=by rw[Kn,Jz hi];exact VH hi
 simp only[qf,Zm,List.cons.injEq,and_true]at he;exact⟨_,h3 _ hm,he.1,he.2.1,he.2.2⟩
theorem qlt{wz:World}{h h':AHeap}{l:AM.Loc}{o:Nat}{v:AVal}(hv:rd wz h l o=v)(hl:v.live=true)(hs:Sub h h'):rd wz h' l o=v:=by
 have:=qgD (wz:=wz) (l:=l) hs 1 o (by simp only[qf,AM.allLive,hv,hl,JS]);simp only[qf,List.cons.injEq,and_true]at this;rw[this,hv]
theorem IsCards.liveT{wz:World}{h:AHeap}{v:AVal}{cs:List CardC}(hc:IsCards wz h v cs):v.live=true:=by
 obtain⟨ps,rfl,h2,h3⟩:=hc;exact h2.live
theorem IsCards.lenT{wz:World}{h:AHeap}{v:AVal}{cs:List CardC}(hc:IsCards wz h v cs):∀H:AHeap,Yn Tryz.prog H 101 v=⟨True, .int .i64 cs.length⟩:=by
 obtain⟨ps,rfl,h2,h3⟩:=hc;have:=h2.len Tryz.underlying101;intro H;have:=this H;rw[Jo]at this|-
 exact this
theorem IsCards.openT{wz:World}{h:AHeap}{v:AVal}{cs:List CardC}(hc:IsCards wz h v cs)(hn:0<cs.length):∃l o c,v= .slice l o cs.length c:=by
 obtain⟨ps,rfl,h2,h3⟩:=hc;obtain⟨l,o,c,e⟩:=h2.open (fun e=>by rw[VU]at e;subst e;simp at hn);rw[Jo]at e|-
 exact⟨l,o,c,e⟩
theorem qmF{cs:List CardC}{i:Nat}(hi:i<cs.length)(l:List TokC):qbz (cs.drop i) l=if (qap (cs.getD i ⟨false,[],[]⟩) l).2≠okF then([],(qap (cs.getD i ⟨false,[],[]⟩) l).2)else qbz (cs.drop (i+1)) (qap (cs.getD i ⟨false,[],[]⟩) l).1:=by
 rw[J4 hi,qbz];simp[Kn,hi]
theorem Sub.bufBoth{h h':AHeap}{b:Option Buf}(hs:Sub h h'):Sub (Qv h b) (Qv h' b):=by
 cases b with
 |none=>exact hs
 |some b=>exact V9 hs _ _
def ScanR(h:AHeap)(R:List TokC×FaultC)(v:AVal)(h':AHeap):Prop:=∃tb,v= .tuple [Yd (QH 5 tb),QA R.2]/\bufOk h 5 tb/\Ws tb=(R.1.map QJ).flatten/\h'=Qv h tb
structure SnG where
 i:Nat
 l:List TokC
 tb:Option Buf
 lf:Bool
 s:Str
 mv:AVal
 at0:Nat
structure SnOk(kx:Nat)(B:AHeap)(cs:List CardC)(g:SnG):Prop where
 inv:ScInv kx B g.tb g.l
 i:g.i<=cs.length
 eq:qbz (cs.drop g.i) g.l=qdL cs
 len:g.l.length<=65536
theorem qmd(wz:World)(h:AHeap)(v:AVal)(xs:List (List AVal))(hv:IsL wz h 5 v xs):ACall Tryz.prog wz 33 [v] h (fun r h'=>r=Yd v/\h'=h):=by
 have hlen:=hv.len Tryz.underlying26;have h3:=hv.slice3 Tryz.underlying26 QW .i64 .i64 none rfl;refine qP (n:=9) (rs:=[.tmp 2]) Tryz.func33 rfl rfl rfl rfl (VL rfl) ?_;simp only[Qd];refine awp_rseq [0] (by rfl) fun K hK=>?_;simp+decide only[qa,ev,qH,qF,putD,VM,VN,Ka,true_and,↓qd,qb];apply hK;clear hK K;refine awp_rseq [2] (by rfl) fun K hK=>?_;simp+decide only[qa,ev,putD,VM,VO,VN,Ka,true_and,↓qh,qc,↓Xt,QD,↓WU,Zt,evO,↓qd,qb,hlen,h3];apply hK;clear hK K;refine qN ?_;refine qW _ (Vl _) (qR (Qa)) ?_;simp+decide only[VO,if_true,and_true,Ql];all_goals first|rfl|exact⟨rfl,rfl⟩|(simp+decide only[Ka, *];done)|(trace_state;fail)
set_option maxHeartbeats 1000000 in
theorem c_Scan(wz:World)(h:AHeap)(v:AVal)(cs:List CardC)(hc:IsCards wz h v cs)(hn:cs.length<=4611686018427387904)(hsm:∀c∈cs,c.text.length<=1099511627776/\c.marks.length<=4611686018427387904):
 ACall Tryz.prog wz 50 [v] h (ScanR h (qdL cs)):=by
 have hlv:=hc.liveT;have hln:=hc.lenT;refine qP (n:=27) (rs:=[.tmp 2, .cell 3 35]) Tryz.func50 rfl rfl rfl rfl (VL rfl) ?_;simp only[Qd];refine awp_rseq [0,3] (by rfl) fun K hK=>?_;simp+decide only[ev,qH,qF,putD,VM,if_false,true_and,↓qd,qb];refine Qk qbT (cs:=[.int .i64 0, .int .i64 0, .int .i64 0]) (by rfl) fun k0q1 hk0q1=>?_;try have hf_0q1:h k0q1=none:=by first|assumption|(simp only[V7]at hk0q1;simp only[hk0q1])
 simp+decide only[qa,putD,VM,VN,Ka];apply hK;clear hK K;refine awp_rseq [0,3,4] (by rfl) fun K hK=>?_;refine Qk ze132 (cs:=[.bool false, .str [], .nilSlice, .int .i64 0, .nilSlice]) (by rfl) fun k1q0 hk1q0=>?_;have ne_1q0_0q1:k1q0≠k0q1:=by simp only[V7]at hk1q0;simp only[hk1q0,ne_eq,not_false_eq_true]
 try have hf_1q0:h k1q0=none:=by first|assumption|(simp only[V7]at hk1q0;simp only[hk1q0])
 simp+decide only[qa,putD,VM,VN,Ka];obtain⟨B,hB⟩:∃B,B=h.set k0q1 ⟨[.int .i64 0, .int .i64 0, .int .i64 0],0⟩:=⟨_,rfl⟩
 have hBs:Sub h B:=by rw[hB];exact Vg hk0q1
 have hBk:B k0q1=some ⟨[.int .i64 0, .int .i64 0, .int .i64 0],0⟩:=by rw[hB];exact Vd _ _ _
 rw[<-hB]at hk1q0|-
 apply hK;clear hK K;refine qL ?_;refine awp_rseq [3,4,8,9,10] (by rfl) fun K hK=>?_;simp+decide only[qa,ev,qH,qF,putD,VM,VO,VN,Ka,true_and,↓qh,qc,↓Xt,QD,hln];apply hK;clear hK K;refine Qp ?_;refine XE [3,4,8,9,10] (fun g:SnG=>[(3, .ptr (.own k0q1) 0),(4, .ptr (.own k1q0) 0),(8,v),(9, .int .i64 cs.length),(10, .int .i64 g.i)]) (fun g:SnG=>scH k1q0 B g.tb g.lf g.s g.mv g.at0) (fun g:SnG=>SnOk k1q0 B cs g) (fun g:SnG=>cs.length-g.i) ⟨0,[],none,false,[], .nilSlice,0⟩ (by rfl) (Vl _) ⟨⟨hk1q0,fun _=>trivial,rfl⟩,Js _,rfl,Js _⟩ ?_;rintro⟨i,l,tb,lf0,s0,mv0,at0⟩ ⟨i1,i2,i3,i4⟩;simp only at i1 i2 i3 i4|-
 have hSb:Sub h (scH k1q0 B tb lf0 s0 mv0 at0):=hBs.trans i1.above;refine awp_rseq [3,4,8,9,10,11] (by rfl) fun K hK=>?_;simp+decide only[qa,ev,putD,VM,VO,VN,Ka,true_and,↓qA,ql,qZ,cond_false,qp,Zc];apply hK;clear hK K;refine qL (qK (b:=_) rfl (fun hb1=>?_) (fun hb1=>?_))
 ·try simp only[decide_eq_true_eq]at hb1
  have hi:i<cs.length:=by omega
  obtain⟨lc,o,cp,rfl⟩:=hc.openT (by omega);obtain⟨mv,e3,e0,e1,e2⟩:=qrZ hc hi;obtain⟨c,hcc⟩:∃c,c=cs.getD i ⟨false,[],[]⟩:=⟨_,rfl⟩
  have hnext:=qmF hi l;rw[<-hcc]at e0 e1 e3 hnext;have hcs:=hsm c (by rw[hcc,Kn,Jz hi];exact VH hi);have hmv:=e3.live;have hms:=e3.scal;have e0':=qlt e0 rfl hSb;have e1':=qlt e1 rfl hSb;have e2':=qlt e2 hmv hSb;rw[i3]at hnext;refine qV ?_;change Awp _ _ _ _ _ _ _;refine qL ?_;refine Qp ?_;refine awp_rseq [3,4,6,8,9,10] (by rfl) fun K hK=>?_;simp+decide only[ev,putD,VM,VO,Ka,true_and,↓QN,Qb,Qh Tryz.underlying101 qcs,↓qG,qg qnP qcs,qf,qB,qE,allLive,JS,e0',e1',e2',Vq,hmv];repeat (with_reducible refine And.intro ?_ ?_;· first|trivial|omega|(intro hg;simp only[Kw,JV,Ji,VP,VQ,VS,decide_eq_true_eq,decide_eq_false_iff_not,XT]at hg;omega))
  refine Qk ze129 (cs:=[.bool false, .str [], .nilSlice]) (by rfl) fun k4q2 hk4q2=>?_;try have hf_4q2:h k4q2=none:=by first|assumption|(simp only[V7]at hk4q2;simp only[hk4q2])
  refine qo (v:= .agg [.bool c.left, .str c.text,mv]) (by rfl) (by rfl) (Vd _ _ _) qcs (by rfl) (by rfl) (by simp[]) (Js _) (show(true && (true && (mv.scal && true)))=true by rw[hms];rfl) ?_;simp only[Vh,setAt,VV,VW,Ki,Jr,Nat.reduceAdd];simp+decide only[qa,putD,VM,VN,Ka];apply hK;clear hK K;obtain⟨a1,a2,a3,a4⟩:=i1.lay hk4q2 ⟨[.bool c.left, .str c.text,mv],0⟩;obtain⟨B2,hB2⟩:∃B2,B2=B.set k4q2 ⟨[.bool c.left, .str c.text,mv],0⟩:=⟨_,rfl⟩
  rw[<-hB2]at a1 a2;have hB2s:Sub B B2:=by rw[hB2];exact Vg a4
  have b2k:B2 k4q2=some ⟨[.bool c.left, .str c.text,mv],0⟩:=by rw[hB2];exact Vd _ _ _
  have r5:=fun o=>Qz wz (a2.other (lf:=lf0) (s:=s0) (mv:=mv0) (i:=at0) b2k) o;have hm2:IsL wz B2 3 mv (c.marks.map Uk):=e3.mono (hBs.trans hB2s);rw[a1];refine awp_rseq [3,4,8,9,10] (by rfl) fun K hK=>?_;simp+decide only[ev,putD,VM,VO,Ka,true_and,↓qG,Qb,qg qnP qcs,↓qD,qm,Ue,qf,VX,Km,Jr,Nat.reduceAdd,qB,qE,allLive,JS,r5,hmv];refine qo (v:= .agg [.bool c.left, .str c.text,mv]) (by rfl) (by rfl) a2.at qcs (by rfl) (by rfl) (by simp[]) (Js _) (show(true && (true && (mv.scal && true)))=true by rw[hms];rfl) ?_;simp only[setAt,VV,VW,Ki,Jr,Nat.reduceAdd];rw[a2.set];show QB _ _ _ _ _ (scH k1q0 B2 tb c.left c.text mv at0) _
  simp+decide only[ev,putD,VM,VO,Ka,true_and,↓qD,qm,Wv,Jr];refine qo (v:= .int .i64 0) (by rfl) (by rfl) a2.at sz3 (by rfl) (by rfl) (by simp) (Js _) (by rfl) ?_;simp only[setAt,VV,VW,Ki];rw[a2.set];show QB _ _ _ _ _ (scH k1q0 B2 tb c.left c.text mv 0) _
  simp+decide only[qa,putD,VN,Ka];apply hK;clear hK K;refine awp_rseq [3,4,7,8,9,10] (by rfl) fun K hK=>?_;refine QO (by rfl) (by rfl) (c_card wz k1q0 B2 tb c mv l a2 hm2 hcs.2 hcs.1 i4) fun x6q0 h6q0 hx6q0=>?_;obtain⟨hv6,hl6,tb',i',hh6,j1⟩:=hx6q0;obtain⟨f,hf⟩:∃f,f=(qap c l).2:=⟨_,rfl⟩
  obtain⟨H6,hH6⟩:∃H6,H6=scH k1q0 B2 tb' c.left c.text mv i':=⟨_,rfl⟩
  have hS6:Sub h H6:=by rw[hH6];exact(hBs.trans hB2s).trans j1.above
  have e06:H6 k0q1=some ⟨[.int .i64 0, .int .i64 0, .int .i64 0],0⟩:=by rw[hH6];exact j1.other (hB2s _ _ hBk)
  rw[<-hf]at hnext;rw[hv6,hh6,<-hH6,<-hf];refine Qk qbT (cs:=[.int .i64 0, .int .i64 0, .int .i64 0]) (by rfl) fun k6q1 hk6q1=>?_;try have hf_6q1:h k6q1=none:=by first|assumption|(simp only[V7]at hk6q1;simp only[hk6q1])
  refine qo (by rfl) (by rfl) zqA QK (by rfl) (by rfl) zqD (Js _) (by rfl) ?_;simp only[Vh,VV];simp+decide only[qa,ev,putD,VM,VO,VN,Ka,setAt,VW,Ki,Jr,Nat.reduceAdd,QA];apply hK;clear hK K;have hf6:=Bg hS6 hk6q1;have ne_6q1_0q1:k6q1≠k0q1:=Bh hk6q1 e06;refine awp_rseq [3,4,7,8,9,10,20] (by rfl) fun K hK=>?_;simp+decide only[qa,ev,qH,qF,putD,VM,VO,VN,Ka,true_and,↓qG,Qb,qg Xv QK,↓Qr,↓qY,ZV,evP,Vj,↓qA,ql,qZ,cond_false,YG,qna,QP,qf,VX,Km,Jr,Nat.reduceAdd,qi,allLive,JS,Ua];apply hK;clear hK K;refine qK (b:=_) rfl (fun hb2=>?_) (fun hb2=>?_)
  ·try simp only[decide_eq_false_iff_not,Ji]at hb2
   have hres:qdL cs=([],f):=by rw[hnext,if_pos hb2]
   refine Zi 2 [2,3] mixed (by kernel_rfl) (by rfl) (by rfl) fun K hK=>?_;simp+decide only[ev,qH,qF,putD,VM,VO,Ka,true_and,↓qG,Qb,qg Xv QK,↓qd,qb,QP,qf,VX,Km,Jr,Nat.reduceAdd,qi,allLive,JS];refine qo (by rfl) (by rfl) zqA QK (by rfl) (by rfl) zqD (Js _) (by rfl) ?_;simp only[VV];simp+decide only[qa,ev,putD,VO,VN,Ka,setAt,VW,Ki,Jr,Nat.reduceAdd];apply hK;clear hK K;refine qN ?_;try simp only[Qf,Qu]
   refine qW h zqB (?_) ?_
   ·simp+decide only[QC,qw,qj,VO,Ka,and_true,qw,qj,qg Xv QK,Qc,qf,VX,Km,Jr,Nat.reduceAdd,qi,allLive,JS,qf,VX,Km,Jr,Nat.reduceAdd,qi,allLive,JS]
   simp+decide only[VO,Ka,Xi,qw,qj,qg Xv QK,Qc,qf,VX,Km,Jr,Nat.reduceAdd,qi,allLive,JS,qf,VX,Km,Jr,Nat.reduceAdd,qi,allLive,JS];exact⟨none,by rw[hres];rfl,trivial,by rw[hres];rfl,rfl⟩
  ·try simp only[decide_eq_true_eq,VS]at hb2
   have hres:qdL cs=qbz (cs.drop (i+1)) (qap c l).1:=by rw[hnext,if_neg (by simpa using hb2)]
   refine qV ?_;change Awp _ _ _ _ _ _ _;refine XL [3,4,8,9,10] (by rfl) ?_;simp+decide only[qa,ev,qH,qF,putD,VM,VO,VN,Ka,true_and,↓qA,ql,qC,cond_false,qp,Xc,↓qh,qc];try simp(disch:=omega)only[wrap_i64]
   try simp only[Qi]
   exact⟨⟨i+1,(qap c l).1,tb',c.left,c.text,mv,i'⟩,rfl,(qln hB2s).trans (by rw[<-hH6];exact Vg hk6q1),⟨j1.down hB2s,hi,hres.symm,hl6⟩,by simp only;omega⟩
 ·try simp only[decide_eq_false_iff_not]at hb1
  have hres:qdL cs=(l,okF):=by rw[<-i3,Vt (by omega)];rfl
  have rx10:=fun o=>Qz wz (i1.at (lf:=lf0) (s:=s0) (mv:=mv0) (i:=at0)) o;have hbl:=QY 5 tb;have r0:=fun o=>Qz wz (i1.other (lf:=lf0) (s:=s0) (mv:=mv0) (i:=at0) hBk) o;refine XJ ?_;change Awp _ _ _ _ _ _ _;refine awp_rseq [2,3] (by rfl) fun K hK=>?_;simp+decide only[ev,putD,VM,VO,Ka,true_and,↓qD,qm,qdk,↓qG,Qb,qz UJ,VX,Km,Jr,rx10,hbl];refine qM (V:=Yd (QH 5 tb)) (by rfl) (by rfl) (qmd wz _ _ _ (i1.toks _)) ?_;simp+decide only[ev,qH,qF,putD,VM,VO,Ka,true_and,↓Qr,↓qY,ZV,evP,Vj,↓qd,qb];refine qo (v:= .agg [.int .i64 0, .int .i64 0, .int .i64 0]) (by rfl) (by rfl) (i1.other hBk) QK (by rfl) (by rfl) (by simp[]) (Js _) (by rfl) ?_;simp only[setAt,VV,VW,Ki,Jr,Nat.reduceAdd];rw[YB (i1.other hBk)];simp+decide only[qa,putD,VN,Ka];apply hK;clear hK K;refine qN ?_;refine QS (?_) ?_
  ·simp+decide only[QC,qw,qj,VO,Ka,and_true,qw,qj,qg Xv QK,qf,VX,Km,Jr,Nat.reduceAdd,qi,allLive,JS,qf,VX,Km,Jr,Nat.reduceAdd,qi,allLive,JS,r0]
  simp+decide only[VO,Ka,Xi,qw,qj,qg Xv QK,qf,VX,Km,Jr,Nat.reduceAdd,qi,allLive,JS,qf,VX,Km,Jr,Nat.reduceAdd,qi,allLive,JS,r0];have hsx:Sub h (B.set k1q0 ⟨[.bool lf0, .str s0,mv0, .int .i64 at0,QH 5 tb],0⟩):=hBs.trans (Vg i1.hk);exact⟨Qv h tb,Sub.bufBoth hsx,tb,by rw[hres];rfl,(i1.ok _).sub hsx,by rw[hres];exact i1.eq,rfl⟩
end Go.Proofs.YtlhhaagmakhilaaGreatDoor
namespace Go.Proofs.YtlhhaagmakhilaaGreatDoor
open Go.AM
open Go.Proofs
open Go.Col
open Go.Tok
open Go.RowKit (Below)
set_option maxRecDepth 100000
theorem qdb(dbg:Bool):∀(ls:List Str) (n:Int) (x:Rd) (N:Nat),RdSm N x->RdSm (N+ls.length) (Wt dbg ls n x).1
 |[],_,x,N,h=>h
 |s::ls,n,x,N,h=>by
  have hl:=(qhK (s:=s) (line:=n) (dbg:=dbg)).1;have e:N+(s::ls).length=(N+1)+ls.length:=by rw[KX];omega
  have up:∀k {y:Rd},RdSm (N+1) y->RdSm (N+1+k) y:=fun k y hy=>by
   induction k with
   |zero=>exact hy
   |succ k ih=>exact ih.next
  rw[Wt];cases hp:Um s n dbg with
  |mk r q=>
   obtain⟨cn,f⟩:=q;rw[hp]at hl;simp only;split
   ·rw[e];exact qdb dbg ls _ x (N+1) h.next
   ·split
    ·split
     ·rw[e];exact qdb dbg ls _ _ (N+1) (qdE h (by have:r.text.length<=65:=hl;omega))
     ·rw[e];exact up _ (qdE h (by have:r.text.length<=65:=hl;omega))
    ·rw[e];exact up _ h.next
theorem qfZ(text:Str)(dbg:Bool):(UD text dbg).1.length<=1048577/\∀c∈(UD text dbg).1,c.text.length<=83886160/\c.marks.length<=1048577:=by
 have h:=qdb dbg (XU (Yw text)) 1 .start 0 ⟨Js _,fun c hc=>by cases hc⟩;have h1:=qdH (Yw text);have h2:=qcS text;unfold UD;split
 ·exact⟨Js _,fun c hc=>by cases hc⟩
 ·simp only
  split
  ·exact⟨Js _,fun c hc=>by cases hc⟩
  ·split
   ·exact⟨Js _,fun c hc=>by cases hc⟩
   ·exact⟨by have:=h.many;simp only;omega,fun c hc=>by have:=h.small c hc;omega⟩
theorem qlk(text:Str)(dbg:Bool):(qeA text dbg).1.length<=65536/\∀t∈(qeA text dbg).1,t.text.length<=83886162:=by
 obtain⟨z1,z2⟩:=qfZ text dbg;unfold qeA;split
 ·exact⟨Js _,fun t ht=>by cases ht⟩
 ·refine⟨qhA _ _ (Js _),qiB _ _ (fun c hc j l hv hj h32 he=>?_) _ (fun t ht=>by cases ht)⟩
  have:=(z2 c hc).1;have:=qrE c.text j l hj;show(WH c.text j l).text.length<=_
  omega
theorem c_Source(wz:World)(hm:MaxL wz)(h:AHeap)(text:Str)(dbg:Bool)(hl:text.length<=9223372036854775807):ACall Tryz.prog wz 42 [.str text, .bool dbg] h (ScanR h (qeA text dbg)):=by
 obtain⟨z1,z2⟩:=qfZ text dbg;refine qP (n:=22) (rs:=[.tmp 4, .cell 5 35]) Tryz.func42 rfl rfl rfl rfl (VL rfl) ?_;simp only[Qd];refine awp_rseq [0,1,5] (by rfl) fun K hK=>?_;simp+decide only[ev,qH,qF,putD,VM,if_false,true_and,↓qd,qb,Jr];refine Qk qbT (cs:=[.int .i64 0, .int .i64 0, .int .i64 0]) (by rfl) fun k0q1 hk0q1=>?_;try have hf_0q1:h k0q1=none:=by first|assumption|(simp only[V7]at hk0q1;simp only[hk0q1])
 simp+decide only[qa,putD,VM,VN,Ka];apply hK;clear hK K;refine awp_rseq [5,6,7] (by rfl) fun K hK=>?_;simp+decide only[ev,putD,VM,VO,Ka,true_and,↓qh,qc];refine QO (by rfl) (by rfl) (c_Read wz hm _ text dbg hl) fun x1q2 h1q2 hx1q2=>?_;obtain⟨cv,rfl,hc,hs1⟩:=hx1q2;have hlv:=hc.liveT;obtain⟨cs,hcs⟩:∃cs,cs=(UD text dbg).1:=⟨_,rfl⟩
 obtain⟨f,hf⟩:∃f,f=(UD text dbg).2:=⟨_,rfl⟩
 have hso:qeA text dbg=if f≠okF then([],f)else qdL cs:=by rw[hf,hcs];rfl
 rw[<-hcs]at hc z1 z2;rw[<-hf];have hs_h1q2:Sub h h1q2:=BJ zqC hs1;have hr_h1q2:=hs_h1q2;have eb_0q1:=hs1 k0q1 _ zqA;simp+decide only[ev,putD,VM,VO,Ka,true_and,↓qh,qc,↓QV,QI,QT,KX,J8,VX,Km,VX,Km,Jr,Nat.reduceAdd,QA];refine Qk qbT (cs:=[.int .i64 0, .int .i64 0, .int .i64 0]) (by rfl) fun k1q6 hk1q6=>?_;have hn_1q6:h1q2 k1q6=none:=by first|assumption|(simp only[V7]at hk1q6;simp only[hk1q6])
 have hf_1q6:h k1q6=none:=Bg hs_h1q2 hn_1q6;have ne_1q6_0q1:k1q6≠k0q1:=Bh hn_1q6 eb_0q1;simp+decide only[ev,putD,VM,VO,Ka,true_and,↓qd,qb];refine qo (by rfl) (by rfl) zqA QK (by rfl) (by rfl) zqD (Js _) (by rfl) ?_;simp only[Vh,VV];simp+decide only[qa,ev,putD,VO,VN,Ka,setAt,VW,Ki,Jr,Nat.reduceAdd];apply hK;clear hK K;refine qL ?_;refine awp_rseq [5,6,7,16] (by rfl) fun K hK=>?_;simp+decide only[qa,ev,qH,qF,putD,VM,VO,VN,Ka,true_and,↓qG,Qb,qg Xv QK,↓Qr,↓qY,ZV,evP,Vj,↓qA,ql,qZ,cond_false,YG,qna,QP,qf,VX,Km,Jr,Nat.reduceAdd,qi,allLive,JS,Ua];apply hK;clear hK K;refine qK (b:=_) rfl (fun hb1=>?_) (fun hb1=>?_)
 ·try simp only[decide_eq_false_iff_not,Ji]at hb1
  rw[if_pos hb1]at hso;refine Zi 2 [4,5] mixed (by kernel_rfl) (by rfl) (by rfl) fun K hK=>?_;simp+decide only[ev,qH,qF,putD,VM,VO,Ka,true_and,↓qG,Qb,qg Xv QK,↓qd,qb,QP,qf,VX,Km,Jr,Nat.reduceAdd,qi,allLive,JS];refine qo (by rfl) (by rfl) zqA QK (by rfl) (by rfl) zqD (Js _) (by rfl) ?_;simp only[VV];simp+decide only[qa,ev,putD,VO,VN,Ka,setAt,VW,Ki,Jr,Nat.reduceAdd];apply hK;clear hK K;refine qN ?_;try simp only[Qf]
  refine qW h zqB (?_) ?_
  ·simp+decide only[QC,qw,qj,VO,Ka,and_true,qw,qj,qg Xv QK,Qc,qf,VX,Km,Jr,Nat.reduceAdd,qi,allLive,JS,qf,VX,Km,Jr,Nat.reduceAdd,qi,allLive,JS]
  simp+decide only[VO,Ka,Xi,qw,qj,qg Xv QK,Qc,qf,VX,Km,Jr,Nat.reduceAdd,qi,allLive,JS,qf,VX,Km,Jr,Nat.reduceAdd,qi,allLive,JS];exact⟨none,by rw[hso];rfl,trivial,by rw[hso];rfl,rfl⟩
 ·try simp only[decide_eq_true_eq,VS]at hb1
  rw[if_neg (by simpa using hb1)]at hso;refine qV ?_;change Awp _ _ _ _ _ _ _;refine awp_rseq [4,5] (by rfl) fun K hK=>?_;simp+decide only[ev,putD,VM,VO,Ka,true_and,↓qh,qc];refine QO (by rfl) (by rfl) (c_Scan wz _ cv cs (hc.mono zqB) (by omega) (fun c hcm=>by have:=z2 c hcm;omega)) fun x4q1 h4q1 hx4q1=>?_;obtain⟨tb,rfl,o1,o2,rfl⟩:=hx4q1;have hat:=(zqA:(h1q2.set k1q6 ⟨[.int .i64 f.e, .int .i64 f.line, .int .i64 f.col],0⟩) k0q1=some ⟨[.int .i64 0, .int .i64 0, .int .i64 0],0⟩)
  have hlb:=QY 5 tb;simp+decide only[ev,putD,VM,VO,Ka,true_and,↓QV,QI,QT,KX,J8,VX,Km,↓qd,qb,VX,Km,Jr,Nat.reduceAdd,QA];refine qo (v:=QA (qdL cs).2) (by rfl) (by rfl) (ZU o1 hat) QK (by rfl) (by rfl) (by simp[]) (Js _) (by rfl) ?_;simp only[setAt,VV,QA,VW,Ki,Jr,Nat.reduceAdd];rw[Wp o1 hat];have r0:=fun o=>Qz wz (ZU (ZT o1 hat ⟨[.int .i64 (qdL cs).2.e, .int .i64 (qdL cs).2.line, .int .i64 (qdL cs).2.col],0⟩) (Vd _ _ _)) o;simp+decide only[qa,putD,VN,Ka];apply hK;clear hK K;refine qN ?_;refine QS (?_) ?_
  ·simp+decide only[QC,qw,qj,VO,Ka,and_true,qw,qj,qg Xv QK,qf,VX,Km,Jr,Nat.reduceAdd,qi,allLive,JS,qf,VX,Km,Jr,Nat.reduceAdd,qi,allLive,JS,r0]
  simp+decide only[VO,Ka,Xi,qw,qj,qg Xv QK,qf,VX,Km,Jr,Nat.reduceAdd,qi,allLive,JS,qf,VX,Km,Jr,Nat.reduceAdd,qi,allLive,JS,r0];refine⟨Qv h tb,?_,tb,by rw[hso];rfl,o1.sub zqB,by rw[hso];exact o2,rfl⟩;exact Sub.bufBoth zqB
end Go.Proofs.YtlhhaagmakhilaaGreatDoor
namespace Go.Proofs.YtlhhaagmakhilaaGreatDoor
open Go.AM
open Go.Proofs
open Go.Col
open Go.Tok
open Go.RowKit (Below)
set_option maxRecDepth 100000
theorem qar{wz:World}{h:AHeap}{lc:AM.Loc}{o:Nat}{c:Cap}{l:List TokC}(ht:IsL wz h 5 (.slice lc o l.length c) (l.map QJ)){i:Nat}(hi:i<l.length):
 rd wz h lc (o+i*5)= .int .u8 (l.getD i ZC).kind.toNat/\rd wz h lc (o+i*5+1)= .str (l.getD i ZC).text/\rd wz h lc (o+i*5+2)= .int .i64 (l.getD i ZC).line/\rd wz h lc (o+i*5+3)= .int .i64 (l.getD i ZC).col/\rd wz h lc (o+i*5+4)= .bool (l.getD i ZC).left:=by
 have he:=ht.elem (i:=i) (by rw[Jo];exact hi);rw[getD_map ZC hi]at he;simp only[qf,QJ,List.cons.injEq,and_true]at he;exact he
theorem Wy{wz:World}{h:AHeap}{v:AVal}{l:List TokC}(ht:IsL wz h 5 v (l.map QJ))(hn:0<l.length):∃lc o c,v= .slice lc o l.length c:=by
 obtain⟨lc,o,c,e⟩:=ht.open (fun e=>by rw[VU]at e;subst e;simp at hn);rw[Jo]at e;exact⟨lc,o,c,e⟩
theorem Ze{wz:World}{h:AHeap}{v:AVal}{l:List TokC}(ht:IsL wz h 5 v (l.map QJ)):∀H:AHeap,Yn Tryz.prog H 26 v=⟨True, .int .i64 l.length⟩:=by
 intro H;have:=ht.len Tryz.underlying26 H
 rwa [Jo]at this
end Go.Proofs.YtlhhaagmakhilaaGreatDoor
namespace Go.Proofs.YtlhhaagmakhilaaGreatDoor
open Go.AM
open Go.Proofs
open Go.Col
open Go.Tok
open Go.RowKit (Below)
set_option maxRecDepth 100000
def qcu(a b:TokC):Bool:=decide (a.kind=b.kind) && decide (a.text=b.text)
def qaZ:List TokC->List TokC->Bool
 |[],[]=>true
 |a::l,b::m=>qcu a b && qaZ l m
 |_,_=>false
theorem qko:∀{l m:List TokC},l.length≠m.length->qaZ l m=false
 |[],[],h=>absurd rfl h
 |[],_::_,_=>rfl
 |_::_,[],_=>rfl
 |a::l,b::m,h=>by
  rw[qaZ,qko (l:=l) (m:=m) (fun e=>h (by simp[e])),BK]
theorem qoe{l m:List TokC}{i:Nat}(h1:i<l.length)(h2:i<m.length):qaZ (l.drop i) (m.drop i)=(qcu (l.getD i ZC) (m.getD i ZC) && qaZ (l.drop (i+1)) (m.drop (i+1))):=by
 rw[J4 h1,J4 h2,qaZ];simp[Kn,h1,h2]
theorem c_same1(wz:World)(h:AHeap)(a b:TokC):ACall Tryz.prog wz 41 [.agg (QJ a), .agg (QJ b)] h (fun v h'=>v= .bool (qcu a b)/\h'=h):=by
 unfold QJ;have ek:decide ((a.kind.toNat:Int)=b.kind.toNat)=decide (a.kind=b.kind):=decide_eq_decide.2 ⟨fun q=>BL.1 (by omega),fun q=>by rw[q]⟩;refine qP (n:=17) (rs:=[.tmp 4]) Tryz.func41 rfl rfl rfl rfl (VL rfl) ?_;simp only[Qd];refine awp_rseq [2,3] (by rfl) fun K hK=>?_;refine YN (by rfl) (by rfl) (by rfl) fun k0q0 hk0q0=>?_;try have hf_0q0:h k0q0=none:=by first|assumption|(simp only[V7]at hk0q0;simp only[hk0q0])
 skip;refine YN (by rfl) (by rfl) (by rfl) fun k0q1 hk0q1=>?_;have ne_0q1_0q0:k0q1≠k0q0:=by simp only[V7]at hk0q1;simp only[hk0q1,ne_eq,not_false_eq_true]
 try have hf_0q1:h k0q1=none:=by first|assumption|(simp only[V7]at hk0q1;simp only[hk0q1])
 skip;simp+decide only[qa,ev,qH,qF,putD,VM,VO,VN,Ka,true_and,↓qd,qb,VV,Jr];apply hK;clear hK K;refine awp_rseq [4] (by rfl) fun K hK=>?_;simp+decide only[qa,ev,qH,qF,putD,VM,VO,VN,Ka,true_and,↓qD,qm,qjl,↓qG,Qb,qz qsp,↓qA,ql,qZ,cond_false,qp,XH,↓qh,qc,↓XI,agP,Qt,qJ,qI,qy,implies_true,qag,↓Zy,Zd,Ud,qgL,qz ag9,↓Xb,XZ,qbl,Za,qbm,Zl,qgV,↓QR,Qs,Qg,Xn,Xp,↓qd,qb,QL,ne_eq,not_false_eq_true,ne_0q1_0q0.symm,QP,VX,Km,Jr,qi,qE,ek];apply hK;clear hK K;refine qN ?_;refine qW h zqC (qR (Qa)) ?_;simp+decide only[VO,if_true,and_true,Ql];rfl
theorem qnD(wz:World)(h:AHeap)(v w:AVal)(l m:List TokC)(hv:IsL wz h 5 v (l.map QJ))(hw:IsL wz h 5 w (m.map QJ))(hl:l.length<=1099511627776):
 ACall Tryz.prog wz 40 [v,w, .func 41 []] h (fun r h'=>r= .bool (qaZ l m)/\h'=h):=by
 have hlv:=hv.live;have hlw:=hw.live;have nv:=Ze hv;have nw:=Ze hw;refine qP (n:=32) (rs:=[.tmp 6]) Tryz.func40 rfl rfl rfl rfl (VL rfl) ?_;simp only[Qd];refine awp_rseq [0,1,2] (by rfl) fun K hK=>?_;simp+decide only[qa,ev,qH,qF,putD,VM,VN,Ka,true_and,↓qd,qb,Jr,Nat.reduceAdd];apply hK;clear hK K;refine qL ?_;refine awp_rseq [0,1,2,14] (by rfl) fun K hK=>?_;simp+decide only[qa,ev,putD,VM,VO,VN,Ka,true_and,↓qh,qc,↓Xt,QD,↓qA,ql,qZ,cond_false,qp,qaP,nv,nw];apply hK;clear hK K;refine qK (b:=_) rfl (fun hb1=>?_) (fun hb1=>?_)
 ·try simp only[decide_eq_false_iff_not,Ji]at hb1
  refine awp_rseq [6] (by rfl) fun K hK=>?_;simp+decide only[qa,ev,qH,qF,putD,VM,VN,Ka,true_and,↓qd,qb];apply hK;clear hK K;refine qN ?_;try simp only[Qf]
  refine qW h zqC (qR (Qa)) ?_;simp+decide only[VO,if_true,and_true,Ql];rw[qko (by omega)]
 ·try simp only[decide_eq_true_eq,VS]at hb1
  have hlen:l.length=m.length:=by omega
  refine qV ?_;change Awp _ _ _ _ _ _ _;refine qL ?_;refine awp_rseq [1,2,15,16,17] (by rfl) fun K hK=>?_;simp+decide only[qa,ev,qH,qF,putD,VM,VO,VN,Ka,true_and,↓qh,qc,↓Xt,QD,nv];apply hK;clear hK K;refine Qp ?_;refine XE [1,2,15,16,17] (fun i:Nat=>[(1,w),(2, .func 41 []),(15,v),(16, .int .i64 l.length),(17, .int .i64 i)]) (fun i:Nat=>h) (fun i:Nat=>i<=l.length/\qaZ (l.drop i) (m.drop i)=qaZ l m) (fun i:Nat=>l.length-i) 0 (by rfl) (Vl _) ⟨Js _,rfl⟩ ?_;rintro i ⟨hi,hq⟩;refine awp_rseq [1,2,15,16,17,18] (by rfl) fun K hK=>?_;simp+decide only[qa,ev,putD,VM,VO,VN,Ka,true_and,↓qA,ql,qZ,cond_false,qp,Zc];apply hK;clear hK K;refine qL (qK (b:=_) rfl (fun hb2=>?_) (fun hb2=>?_))
  ·try simp only[decide_eq_true_eq]at hb2
   have hi':i<l.length:=by omega
   obtain⟨lc,o,c,rfl⟩:=Wy hv (by omega);obtain⟨lc',o',c',rfl⟩:=Wy hw (by omega);obtain⟨e0,e1,e2,e3,e4⟩:=qar hv hi';obtain⟨a,ha⟩:∃a,a=l.getD i ZC:=⟨_,rfl⟩
   obtain⟨b,hb⟩:∃b,b=m.getD i ZC:=⟨_,rfl⟩
   have hst:=qoe (l:=l) (m:=m) hi' (by omega);rw[hq]at hst;rw[<-ha]at e0 e1 e2 e3 e4 hst;rw[<-hb]at hst;have e2':rd wz h lc (o+i*5+1+1)= .int .i64 a.line:=e2;have e3':rd wz h lc (o+i*5+1+1+1)= .int .i64 a.col:=e3;have e4':rd wz h lc (o+i*5+1+1+1+1)= .bool a.left:=e4;refine qV ?_;change Awp _ _ _ _ _ _ _;refine qL ?_;refine Qp ?_;refine awp_rseq [1,2,7,8,15,16,17] (by rfl) fun K hK=>?_;simp+decide only[ev,putD,VM,VO,Ka,true_and,↓qh,qc,↓QN,Qb,Qh Tryz.underlying26 QW,↓qG,qg XY QW,qf,qB,qi,qE,allLive,JS,e0,e1,e2',e3',e4',Vq];repeat (with_reducible refine And.intro ?_ ?_;· first|trivial|omega|(intro hg;simp only[Kw,JV,Ji,VP,VQ,VS,decide_eq_true_eq,decide_eq_false_iff_not,XT]at hg;omega))
   refine Qk UO (cs:=[.int .u8 0, .str [], .int .i64 0, .int .i64 0, .bool false]) (by rfl) fun k5q3 hk5q3=>?_;try have hf_5q3:h k5q3=none:=by first|assumption|(simp only[V7]at hk5q3;simp only[hk5q3])
   simp+decide only[ev,putD,VM,VO,Ka,true_and,↓qd,qb];refine qo (by rfl) (by rfl) zqA QW (by rfl) (by rfl) zqD (Js _) (by rfl) ?_;simp only[Vh,VV];simp+decide only[qa,ev,putD,VO,VN,Ka,setAt,VW,Ki,Jr,Nat.reduceAdd];apply hK;clear hK K;obtain⟨H,hH⟩:∃H,H=h.set k5q3 ⟨[.int .u8 a.kind.toNat, .str a.text, .int .i64 a.line, .int .i64 a.col, .bool a.left],0⟩:=⟨_,rfl⟩
   have hsH:Sub h H:=by rw[hH];exact Vg hk5q3
   obtain⟨d0,d1,d2,d3,d4⟩:=qar (hw.mono hsH) (i:=i) (by omega);rw[<-hb]at d0 d1 d2 d3 d4;have d2':rd wz H lc' (o'+i*5+1+1)= .int .i64 b.line:=d2;have d3':rd wz H lc' (o'+i*5+1+1+1)= .int .i64 b.col:=d3;have d4':rd wz H lc' (o'+i*5+1+1+1+1)= .bool b.left:=d4;rw[hH]at d0 d1 d2' d3' d4';refine awp_rseq [1,2,8,9,15,16,17] (by rfl) fun K hK=>?_;simp+decide only[ev,putD,VM,VO,Ka,true_and,↓qh,qc,↓QN,Qb,Qh Tryz.underlying26 QW,↓qG,qg XY QW,qf,qB,qi,qE,allLive,JS,d0,d1,d2',d3',d4',Vq];repeat (with_reducible refine And.intro ?_ ?_;· first|trivial|omega|(intro hg;simp only[Kw,JV,Ji,VP,VQ,VS,decide_eq_true_eq,decide_eq_false_iff_not,XT]at hg;omega))
   refine Qk UO (cs:=[.int .u8 0, .str [], .int .i64 0, .int .i64 0, .bool false]) (by rfl) fun k6q4 hk6q4=>?_;have ne_6q4_5q3:k6q4≠k5q3:=by simp only[V7]at hk6q4;simp only[hk6q4,ne_eq,not_false_eq_true]
   try have hf_6q4:h k6q4=none:=by first|assumption|(simp only[V7]at hk6q4;simp only[hk6q4])
   refine qo (by rfl) (by rfl) zqA QW (by rfl) (by rfl) zqD (Js _) (by rfl) ?_;simp only[Vh,VV];simp+decide only[qa,ev,putD,VM,VO,VN,Ka,setAt,VW,Ki,Jr,Nat.reduceAdd];apply hK;clear hK K;refine awp_rseq [1,2,15,16,17,30] (by rfl) fun K hK=>?_;simp+decide only[ev,putD,VM,VO,Ka,true_and,↓qh,qc,↓qG,Qb,qg XY QW,QL,ne_eq,not_false_eq_true,ne_6q4_5q3.symm,QP,qf,VX,Km,Jr,Nat.reduceAdd,qB,qi,qE,allLive,JS];refine qM (V:= .bool (qcu a b)) (by rfl) (by rfl) (c_same1 wz _ a b) ?_;simp+decide only[qa,ev,putD,VM,VO,VN,Ka,true_and,↓Yz,XP,Yk];apply hK;clear hK K;refine qK (b:=_) rfl (fun hb3=>?_) (fun hb3=>?_)
   ·try simp only[Ji]at hb3
    refine awp_rseq [6] (by rfl) fun K hK=>?_;simp+decide only[qa,ev,qH,qF,putD,VM,VN,Ka,true_and,↓qd,qb];apply hK;clear hK K;refine qN ?_;try simp only[Qf,Qu]
    refine qW h zqC (qR (Qa)) ?_;simp+decide only[VO,if_true,and_true,Ql];rw[hst,hb3,VZ]
   ·try simp only[VS]at hb3
    refine qV ?_;change Awp _ _ _ _ _ _ _;refine XL [1,2,15,16,17] (by rfl) ?_;simp+decide only[qa,ev,qH,qF,putD,VM,VO,VN,Ka,true_and,↓qA,ql,qC,cond_false,qp,Xc,↓qh,qc];try simp(disch:=omega)only[wrap_i64]
    try simp only[Qi]
    exact⟨i+1,rfl,zqB,⟨hi',by rw[hst,hb3,Vf]⟩,by omega⟩
  ·try simp only[decide_eq_false_iff_not]at hb2
   refine XJ ?_;change Awp _ _ _ _ _ _ _;refine awp_rseq [6] (by rfl) fun K hK=>?_;simp+decide only[qa,ev,qH,qF,putD,VM,VN,Ka,true_and,↓qd,qb];apply hK;clear hK K;refine qN ?_;refine qW h zqC (qR (Qa)) ?_;simp+decide only[VO,if_true,and_true,Ql];rw[<-hq,Vt (by omega),Vt (by omega)];rfl
theorem c_Same(wz:World)(h:AHeap)(v w:AVal)(l m:List TokC)(hv:IsL wz h 5 v (l.map QJ))(hw:IsL wz h 5 w (m.map QJ))(hl:l.length<=1099511627776):
 ACall Tryz.prog wz 18 [v,w] h (fun r h'=>r= .bool (qaZ l m)/\h'=h):=by
 have hlv:=hv.live;have hlw:=hw.live;refine qP (n:=8) (rs:=[.tmp 4]) Tryz.func18 rfl rfl rfl rfl (VL rfl) ?_;simp only[Qd];refine awp_rseq [0,1] (by rfl) fun K hK=>?_;simp+decide only[qa,ev,qH,qF,putD,VM,VN,Ka,true_and,↓qd,qb];apply hK;clear hK K;refine awp_rseq [4] (by rfl) fun K hK=>?_;simp+decide only[ev,putD,VM,VO,Ka,true_and,↓qh,qc];refine qM (V:= .bool (qaZ l m)) (by rfl) (by rfl) (qnD wz _ v w l m hv hw hl) ?_;simp+decide only[qa,ev,putD,VM,VO,VN,Ka,true_and,↓qd,qb];apply hK;clear hK K;refine qN ?_;refine qW _ (Vl _) (qR (Qa)) ?_;simp+decide only[VO,if_true,and_true,Ql];all_goals first|rfl|exact⟨rfl,rfl⟩|(simp+decide only[Ka, *];done)|(trace_state;fail)
end Go.Proofs.YtlhhaagmakhilaaGreatDoor
namespace Go.AM
open Go.RowKit (Below)
theorem XF(b:Bool):(AVal.bool b).scal=true:=rfl
theorem XV(k:IntKind)(n:Int):(AVal.int k n).scal=true:=rfl
theorem Zf(s:List UInt8):(AVal.str s).scal=true:=rfl
theorem qlm(k:Nat):(AVal.map k).scal=true:=rfl
section
variable {P:Program}
theorem qrl(t:TypeId)(x i:Operand)(ok:Bool):Zb P (.lookup t x i ok)=true:=rfl
end
section
variable {P:Program} {wz:World} {ops rest:List Oper} {s:Slots} {h:AHeap} {K:Slots->AHeap->Prop} {dst:Option Tmp} {ty:TypeId} {pos:String} {af:Array Edge}
theorem qsn(t:TypeId)(x i:Operand)(ok:Bool):
 QB P wz ops (⟨dst, .lookup t x i ok,ty,pos,af,none⟩::rest) s h K=((pop P wz h s (.lookup t x i ok)).pre/\QB P wz ops rest (putD s dst (pop P wz h s (.lookup t x i ok)).val) h K):=WR (qrl t x i ok)
theorem qmo{t:TypeId}(hk:∀k,h k=none->QB P wz ops rest (putD s dst (.map k)) (h.set k (XB 0 [])) K):QB P wz ops (⟨dst, .makeMap t none,ty,pos,af,none⟩::rest) s h K:=by
 rw[qaY];exact hk
theorem qnT{t kt et:TypeId}{m i v:Operand}{k c:Nat}{es:List AVal}(ht:P.underlying t=some (.map kt et))(hm:ev s m= .map k)(hb:h k=some (XB c es))(hok:qam P kt (ev s i)=true)(hf:qal (ev s i) es 0=some none)
 (hk:QB P wz ops rest (putD s dst (.tuple [])) (h.set k (XB (c+1) (es++[.mapE c (ev s i) (ev s v)]))) K):QB P wz ops (⟨dst, .mapUpdate t m i v,ty,pos,af,none⟩::rest) s h K:=by
 rw[qaY];simp only[eop,qbY,ht,hm,Ul hb,hf];exact⟨hok,hk⟩
end
section
variable {P:Program} {h:AHeap}
theorem qom{t kt et:TypeId}{z:Value}{k c j:Nat}{es:List AVal}{i v:AVal}{ok:Bool}(ht:P.underlying t=some (.map kt et))(hz:Uc P et=some z)(hb:h k=some (XB c es))(hok:qam P kt i=true)(hf:qal i es 0=some (some (j,v))):
 qac P h t (.map k) i ok=⟨True,qhI ok v true⟩:=by
 simp only[qac,ht,hz,Ul hb,hf,hok]
theorem qmV{t kt et:TypeId}{z:Value}{k c:Nat}{es:List AVal}{i:AVal}{ok:Bool}(ht:P.underlying t=some (.map kt et))(hz:Uc P et=some z)(hb:h k=some (XB c es))(hok:qam P kt i=true)(hf:qal i es 0=some none):
 qac P h t (.map k) i ok=⟨True,qhI ok (qH z) false⟩:=by
 simp only[qac,ht,hz,Ul hb,hf,hok]
theorem qhH(v:AVal)(b:Bool):qhI false v b=v:=rfl
end
end Go.AM
namespace Go.AM
open Go.RowKit (Below)
theorem qsF{P:Program}{fr:Frame}{cs:List Frame}{w w':World}{d:Deferred}{ds:List Deferred}{b:Builtin}{ts:Array TypeId}{t:TypeId}{ks:Array Bool}{v:Value}(hm:fr.mode≠ .run)(hd:fr.defers=d::ds)(ht:d.target= .builtin b ts t ks)
 (hi:(invoke d.target d.args).run P w= .ok (.value v) w'):step P (lone fr cs w)= .next (lone {fr with defers:=ds} cs w'):=by
 obtain⟨tg,a⟩:=d;simp only at ht hi;subst ht;refine step_lone_go ?_;cases hmode:fr.mode with
 |run=>exact absurd hmode hm
 |returning=>simp[stepG,unwind,callDeferred,hmode,hd,hi]
 |panicking chain=>simp[stepG,unwind,callDeferred,hmode,hd,hi]
def qnV(P:Program):List Deferred->World->World->Prop
 |[],w,w'=>w'=w
 |d::ds,w,w'=>∃b ts t ks v w1,d.target= .builtin b ts t ks/\(invoke d.target d.args).run P w= .ok (.value v) w1/\qnV P ds w1 w'
theorem qdM{P:Program}:∀(ds:List Deferred) (w w':World) (fr:Frame) (cs:List Frame),fr.mode≠ .run->fr.defers=ds->qnV P ds w w'->Steps P (lone fr cs w) (lone {fr with defers:=[]} cs w')
 |[],w,w',fr,cs,_,hd,h=>by
  simp only[qnV]at h;subst h;have e:({fr with defers:=[]}:Frame)=fr:=by cases fr;simp_all
  rw[e];exact Steps.refl P _
 |d::ds,w,w',fr,cs,hm,hd,h=>by
  obtain⟨b,ts,t,ks,v,w1,ht,hi,hr⟩:=h;exact .head (qsF (cs:=cs) hm hd ht hi) (qdM ds w1 w' {fr with defers:=ds} cs hm rfl hr)
def qsj(P:Program)(fn:Func)(R:Ending->World->Prop):Exit->Act->World->Prop
 | .normal,a,w| .ret,a,w=>∃w',qnV P a.defers w w'/\∃v,(results fn a.tmps).run P w'= .ok v w'/\R (.returned v) w'
 | .outgrown,_,w=>R .outgrown w
 |_,_,_=>False
theorem qia{P:Program}{f:FuncId}{fn:Func}{c:Code}{args:Array Value}{w:World}{R:Ending->World->Prop}
 (hf:P.funcs[f]?=some fn) (hb:fn.body=some c)
 (h:c.wp P (qsj P fn R) {tmps:=args++Jw (fn.ntmps-args.size) undef,defers:=[]} w):Calls P f args w R:=by
 intro cs;let b:Frame:={(default:Frame)with fn:=f,kind:= .normal}
 have henter:Frame.enter P f args .normal=
  b.at {tmps:=args++Jw (fn.ntmps-args.size) undef,defers:=[]} [.code c]:=by
  simp[Frame.enter,Frame.at,hf,hb,b]
 obtain⟨e,a',w',hq,harr⟩:=h b [] cs;rw[<-henter]at harr;cases e with
 |normal=>
  obtain⟨w'',hr,v,h1,h2⟩:=hq;have hs:=qdM a'.defers w' w'' {b.at a' []with mode:= .returning} cs (by simp) rfl hr;exact⟨.returned v,w'',_,h2,Comes.of_steps (Steps.trans harr (.one step_end)) hs,rfl,rfl,rfl,rfl,fn,hf,h1⟩
 |ret=>
  obtain⟨w'',hr,v,h1,h2⟩:=hq;obtain⟨todo,hs₀⟩:=harr;have hs:=qdM a'.defers w' w'' {b.at a' todo with mode:= .returning} cs (by simp) rfl hr;exact⟨.returned v,w'',_,h2,Comes.of_steps hs₀ hs,rfl,rfl,rfl,rfl,fn,hf,h1⟩
 |panic chain=>exact hq.elim
 |exit id=>exact hq.elim
 |goto l=>exact hq.elim
 |outgrown=>exact⟨.outgrown,w',b,hq,harr.resolve_left (by simp[b]),rfl,trivial⟩
def GD(P:Program)(wz:World)(fn:Func)(R:AVal->AHeap->Prop):Exit->PMap->Act->World->Prop:=fun e Ps a w=>
 e= .ret/\∃w',qnV P a.defers w w'/\∃v,(results fn a.tmps).run P w'= .ok v w'/\∃χ x h',Ps.le χ/\HRel wz χ h' w'/\VR χ x v/\R x h'
def qre(P:Program)(wz:World)(rs:List ResultVar)(R:AVal->AHeap->Prop)(ts:Array TypeId)(m i:AVal):Exit->Slots->AHeap->Prop
 | .ret,s,h=>qbZ P h ts m i (fun _ h'=>qdN P wz rs R .ret s h')
 |_,_,_=>False
theorem qsr{P:Program}{wz:World}{f:FuncId}{args:List AVal}{h:AHeap}{R:AVal->AHeap->Prop}{fn:Func}{c:Code}{rs:List ResultVar}{k:Nat}(hf:P.funcs[f]?=some fn)
 (hname:(fn.name== "runtime.NumGoroutine")=false) (hb:fn.body=some c) (hn:fn.ntmps=k) (hrs:fn.results=rs.toArray) (hargs:args.length<=k)
 (hc:Awp P wz ⟨k,[],GD P wz fn R⟩ c (qdN P wz rs R) (Qd 0 args) h):ACall P wz f args h R:=by
 intro fi vals w hr hv;refine .inl ⟨fn,hf,hname,by rw[hb];rfl,?_⟩;have hl:=XN hv;refine qia hf hb (wp_mono (hc fi _ w hr ⟨?_,rfl,fun i=>?_⟩) fun e a' w' q=>?_)
 ·simp[hn]
  omega
 ·have:=(qck fi args vals 0 i hv).2 undef (Js i)
  by_cases hi:i<vals.length
  ·have e:(vals.toArray++Jw (fn.ntmps-vals.toArray.size) undef).getD i undef=vals.getD i undef:=by
    simp[Kt,Jy,hi,Kn]
   rw[e];simpa using this
  ·have e:(vals.toArray++Jw (fn.ntmps-vals.toArray.size) undef).getD i undef=undef:=by
    simp[Kt,Jy,hi,Array.getElem?_replicate];split<;>simp
   rw[e];have e2:vals.getD (i-0) undef=undef:=by simp[Kn,List.getElem?_eq_none (Kr hi)]
   rw[e2]at this;exact this
 ·rcases q with q|⟨_,Ps,hl1,q⟩
  ·obtain⟨Ps,s',h',e1,e2,e3,e4⟩:=q
   cases e<;>simp only[qdN]at e4<;>first
    |exact e4.elim
    |skip
   all_goals
    obtain⟨hp,h'',hsub,hR⟩:=e4;have hrs':rs=fn.results.toList:=by rw[hrs]
    rw[hrs']at hp hR;obtain⟨v,f1,f2⟩:=qfl e2 e3 fn hp;exact⟨w',by rw[e3.defers];rfl,v,f1,v,rfl,Ps,_,h'',e1,e2.forget hsub,f2,hR⟩
  ·obtain⟨rfl,w1,g1,v,g2,χ,x,h',g3,g4,g5,g6⟩:=q
   exact⟨w1,g1,v,g2,v,rfl,χ,x,h',J6 hl1 g3,g4,g5,g6⟩
theorem qfY{P:Program}{wz:World}{rs:List ResultVar}{R:AVal->AHeap->Prop}{ts:Array TypeId}{t kt et:TypeId}{k c j:Nat}{vi x:AVal}{es:List AVal}{s:Slots}{h:AHeap}(h0:ts[0]?=some t)(ht:P.underlying t=some (.map kt et))(hb:h k=some (XB c es))(hok:qam P kt vi=true)
 (hf:qal vi es 0=some (some (j,x))) (hk:qdN P wz rs R .ret s (h.set k (XB c (es.eraseIdx j)))):qre P wz rs R ts (.map k) vi .ret s h:=by
 simp only[qre,qbZ,h0,ht,Ul hb,hf];exact⟨hok,hk⟩
end Go.AM
namespace Go.AM
open Go.RowKit (Below)
section
variable {P:Program} {wz:World} {n:FrameK}
def qcE(P:Program)(wz:World)(l:List Oper):List Oper->Nat->List Bool->Slots->AHeap->(Slots->AHeap->Prop)->Prop
 |[],_,_,s,h,K=>K s h
 |o::r,0,_,s,h,K=>QB P wz l (o::r) s h K
 |o::r,m+1,true::bs,s,h,K=>∃V,(∀g,Sub h g->QB P wz l [o] s g fun s' h'=>s'=putD s o.dst V/\h'=g)/\qcE P wz l r m bs (putD s o.dst V) h K
 |o::r,m+1,false::bs,s,h,K=>QB P wz l [o] s h fun s' h'=>Sub h h'/\qcE P wz l r m bs s' h' K
 |o::r,m+1,[],s,h,K=>QB P wz l [o] s h fun s' h'=>Sub h h'/\qcE P wz l r m [] s' h' K
theorem qng{l:List Oper}{m:Nat}{bs:List Bool}{s:Slots}{h:AHeap}{K:Slots->AHeap->Prop}:qcE P wz l [] m bs s h K=K s h:=rfl
theorem qrK{l:List Oper}{m:Nat}{bs:List Bool}{o:Oper}{r:List Oper}{s:Slots}{h:AHeap}{K:Slots->AHeap->Prop}:qcE P wz l (o::r) (m+1) (false::bs) s h K=QB P wz l [o] s h fun s' h'=>Sub h h'/\qcE P wz l r m bs s' h' K:=rfl
theorem qkF{l:List Oper}{o:Oper}{bs:List Bool}{r:List Oper}{s:Slots}{h:AHeap}{K:Slots->AHeap->Prop}:qcE P wz l (o::r) 0 bs s h K=QB P wz l (o::r) s h K:=rfl
theorem qkG{l:List Oper}{m:Nat}{bs:List Bool}(hb:bs.getD 0 false=false){o:Oper}{r:List Oper}{s:Slots}{h:AHeap}{K:Slots->AHeap->Prop}(hj:qcE P wz l (o::r) (m+1) bs s h K):QB P wz l [o] s h fun s' h'=>Sub h h'/\qcE P wz l r m (bs.drop 1) s' h' K:=by
 cases bs with
 |nil=>exact hj
 |cons b bs=>
  simp only[VX]at hb;subst hb;exact hj
theorem qrJ{l:List Oper}{m:Nat}{bs:List Bool}(hb:bs.getD 0 false=true){o:Oper}{r:List Oper}{s:Slots}{h:AHeap}{K:Slots->AHeap->Prop}(hj:qcE P wz l (o::r) (m+1) bs s h K):∃V,(∀g,Sub h g->QB P wz l [o] s g fun s' h'=>s'=putD s o.dst V/\h'=g)/\qcE P wz l r m (bs.drop 1) (putD s o.dst V) h K:=by
 cases bs with
 |nil=>simp at hb
 |cons b bs=>
  simp only[VX]at hb;subst hb;exact hj
theorem qeJ{l:List Oper}{K K':Slots->AHeap->Prop}(hk:∀s h,K s h->K' s h):∀{r:List Oper} {m:Nat} {bs:List Bool} {s:Slots} {h:AHeap},qcE P wz l r m bs s h K->qcE P wz l r m bs s h K'
 |[],m,bs,s,h,ha=>hk _ _ ha
 |o::r,0,bs,s,h,ha=>awp_rseq.aOps_mono hk ha
 |o::r,m+1,true::bs,s,h,ha=>by
  obtain⟨V,h1,h2⟩:=ha;exact⟨V,h1,qeJ hk h2⟩
 |o::r,m+1,false::bs,s,h,ha=>qbR (fun s' h' hx=>⟨hx.1,qeJ hk hx.2⟩) ha
 |o::r,m+1,[],s,h,ha=>qbR (fun s' h' hx=>⟨hx.1,qeJ hk hx.2⟩) ha
def FactC(P:Program)(wz:World)(n:FrameK)(l:List Oper)(g:AHeap)(S:Slots)(o:Oper)(V:AVal):Prop:=
 ∀(Ps:PMap) (w:World) (a:Act) (g':AHeap) (next:Act->World->Prop) (Q:Exit->Act->World->Prop),Sub g g'->HRel wz Ps g' w->LookOk Ps n l o S a->(∀ψ' v w',Ps.le ψ'->HRel wz ψ' g' w'->(∀t,o.dst=some t->VR ψ' V v)->next (a.put o.dst v) w')->
  if Region.wanted o (yielded l.toArray a.tmps)=true then o.wp P a w next Q else next (a.put o.dst undef) w
theorem FactR.toC{l:List Oper}{g:AHeap}{S:Slots}{o:Oper}{V:AVal}(h:FactR P wz n l g S o V):FactC P wz n l g S o V:=
 fun Ps w a g' next Q h1 h2 h3 h4=>h Ps w a g' next Q h1 h2 h3 fun v hv=>h4 Ps v w Ps.le_refl h2 fun _ _=>hv
theorem FactC.sub{l:List Oper}{g g':AHeap}{S:Slots}{o:Oper}{V:AVal}(h:FactC P wz n l g S o V)(hs:Sub g g'):FactC P wz n l g' S o V:=
 fun Ps w a g₂ next Q h1 h2 h3 h4=>h Ps w a g₂ next Q (BJ hs h1) h2 h3 h4
theorem FactC.slots{l:List Oper}{g:AHeap}{S S':Slots}{o:Oper}{V:AVal}(h:FactC P wz n l g S o V)(hs:∀t∈QE l o,S'.get t=S.get t):FactC P wz n l g S' o V:=
 fun Ps w a g₂ next Q h1 h2 h3 h4=>h Ps w a g₂ next Q h1 h2 ⟨h3.1,h3.2.1,fun t ht=>by rw[<-hs t ht];exact h3.2.2 t ht⟩ h4
theorem qkO{l:List Oper}(hall:Xg n l=true){o:Oper}{S:Slots}{g:AHeap}{V:AVal}(ha:∀g',Sub g g'->QB P wz l [o] S g' fun s' h'=>s'=putD S o.dst V/\h'=g'):FactC P wz n l g S o V:=
 fun Ps w a g' next Q h1 h2 h3 h4=>qgY hall (ha g' h1) h2 h3 fun ψ' x h' v w' e1 e2 e3 ⟨e4,e5⟩=>h4 ψ' v w' e1 (e5 ▸ e2) fun t ht=>by
  have:=congrArg (fun s:Slots=>s.get t) e4;simp only[XG,ht,if_true]at this;rw[<-this];exact e3
def isJ(P:Program)(l:List Oper)(π:List Nat)(fl:List Bool)(m q:Nat):Bool:=decide (q<m) && (fl.getD q false||isF P l (π.getD q 0))
def qlL(P:Program)(l:List Oper)(π:List Nat)(fl:List Bool)(ws:List (Option Nat))(m:Nat):Bool:=
 WN l && (π.all fun i=>decide (i<l.length)) && ((KO l.length).all fun i=>π.contains i) &&
 ((KO π.length).all fun q=>(KO π.length).all fun r=>decide (q=r)|| !(π.getD q 0==π.getD r 0)) &&
 ((KO π.length).all fun q=>match ws.getD q none with
   |none=>(KO q).all fun c=>isJ P l π fl m c
   |some r=>decide (r<q) && Region.waitsFor .any l.toArray (π.getD q 0) (π.getD r 0) && (KO q).all fun c=>decide (c<=r)||isJ P l π fl m c) &&
 ((KO π.length).all fun q=>match l[π.getD q 0]? with
   |none=>true
   |some o=>(KO π.length).all fun r=>match l[π.getD r 0]? with
    |none=>true
    |some oj=>(match oj.dst with
     |none=>true
     |some t=> !(QE l o).contains t||(decide (q<r) && decide (m<=r))||(decide (r<q) && Region.waitsFor .any l.toArray (π.getD q 0) (π.getD r 0)))) &&
 decide (m<=π.length) && ((KO π.length).all fun q=>decide (q<m)|| !isJ P l π fl m q) &&
 (decide (m=π.length)||(KO m).all fun q=>(KO (m+1)).any fun r=>decide (q<r) && Region.waitsFor .any l.toArray (π.getD r 0) (π.getD q 0))
structure FloatJ(P:Program)(l:List Oper)(π:List Nat)(fl:List Bool)(m:Nat):Prop where
 order:WN l=true
 inr:∀q,q<π.length->π.getD q 0<l.length
 onto:∀i,i<l.length->∃q,q<π.length/\π.getD q 0=i
 inj:∀q r,q<π.length->r<π.length->π.getD q 0=π.getD r 0->q=r
 wait:∀q c,q<π.length->c<q->isJ P l π fl m c=false->∃r,c<=r/\r<q/\Region.waitsFor .any l.toArray (π.getD q 0) (π.getD r 0)=true
 data:∀q r o oj t,q<π.length->r<π.length->l[π.getD q 0]?=some o->l[π.getD r 0]?=some oj->oj.dst=some t->t∈QE l o->(q<r/\m<=r)\/(r<q/\Region.waitsFor .any l.toArray (π.getD q 0) (π.getD r 0)=true)
 mle:m<=π.length
 tail:∀q,m<=q->q<π.length->isJ P l π fl m q=false
 sink:m<π.length->∀q,q<m->∃r,q<r/\r<=m/\Region.waitsFor .any l.toArray (π.getD r 0) (π.getD q 0)=true
theorem qnl{l:List Oper}{π:List Nat}{fl:List Bool}{ws:List (Option Nat)}{m:Nat}(h:qlL P l π fl ws m=true):FloatJ P l π fl m:=by
 unfold qlL at h;simp only[Kw]at h;obtain⟨⟨⟨⟨⟨⟨⟨⟨h1,h2⟩,h3⟩,h4⟩,h5⟩,h6⟩,h7⟩,h8⟩,h9⟩:=h;simp only[JC,JD]at h2 h3 h4 h5 h6 h8;refine⟨h1,fun q hq=>?_,fun i hi=>?_,fun q r hq hr e=>?_,fun q c hq hc hf=>?_,fun q r o oj t hq hr ho hoj hd ht=>?_,by simpa using h7,fun q hm hq=>?_,fun hm q hq=>?_⟩
 ·have:=h2 (π.getD q 0) (by rw[Kn,Jz hq];exact VH hq)
  simpa using this
 ·have:=h3 i hi
  rw[JW]at this;obtain⟨q,hq,e⟩:=BM this;exact⟨q,hq,by rw[Kn,Jz hq];exact e⟩
 ·have:=h4 q hq r hr
  rw[JV,decide_eq_true_eq]at this;rcases this with e'|e'
  ·exact e'
  ·rw[e]at e';simp at e'
 ·have:=h5 q hq
  split at this
  ·rw[JC]at this
   rw[this c (JD.2 hc)]at hf;cases hf
  ·rename_i r _
   simp only[Kw,decide_eq_true_eq,JC,JD,JV]at this;obtain⟨⟨t1,t2⟩,t3⟩:=this;rcases t3 c hc with e|e
   ·exact⟨r,e,t1,t2⟩
   ·rw[e]at hf;cases hf
 ·have:=h6 q hq
  rw[ho]at this;simp only[JC,JD]at this;have:=this r hr;rw[hoj]at this;simp only[hd,JV,Kw,decide_eq_true_eq,Ji]at this;rcases this with(e|e)|e
  ·have hm:(QE l o).contains t=true:=by simpa using ht
   rw[hm]at e;cases e
  ·exact .inl e
  ·exact .inr e
 ·have:=h8 q hq
  simp only[JV,decide_eq_true_eq,Ji]at this;rcases this with e|e
  ·omega
  ·exact e
 ·rw[JV,decide_eq_true_eq]at h9
  rcases h9 with e|e
  ·omega
  ·rw[JC]at e
   have:=e q (JD.2 hq);rw[JX]at this;obtain⟨r,hr,hw⟩:=this;rw[JD]at hr;simp only[Kw,decide_eq_true_eq]at hw;exact⟨r,hw.1,by omega,hw.2⟩
theorem qnS{l:List Oper}(hall:Xg n l=true){π:List Nat}{fl:List Bool}{m:Nat}(F:FloatJ P l π fl m){K:Slots->AHeap->Prop}{g:AHeap}:∀(d p:Nat) (S:Slots),π.length-p=d->p<=π.length->qcE P wz l ((Zk l π).drop p) (m-p) (fl.drop p) S g K->
 ∃p' S',p<=p'/\p'<=π.length/\(p'<π.length->isJ P l π fl m p'=false)/\(∀q,p<=q->q<p'->isJ P l π fl m q=true)/\qcE P wz l ((Zk l π).drop p') (m-p') (fl.drop p') S' g K/\
  (∀q o,p<=q->q<p'->l[π.getD q 0]?=some o->∃V,(∀t,o.dst=some t->S'.get t=V)/\FactC P wz n l g S' o V)/\
  (∀t,(∀q o,p<=q->q<p'->l[π.getD q 0]?=some o->o.dst≠some t)->S'.get t=S.get t):=by
 intro d;induction d with
 |zero=>
  intro p S hd hp ha;exact⟨p,S,KJ _,hp,fun h=>by omega,fun q h1 h2=>by omega,ha,fun q o h1 h2=>by omega,fun t _=>rfl⟩
 |succ d ih=>
  intro p S hd hp ha;have hpl:p<π.length:=by omega
  cases hf:isJ P l π fl m p with
  |false=>exact⟨p,S,KJ _,hp,fun _=>hf,fun q h1 h2=>by omega,ha,fun q o h1 h2=>by omega,fun t _=>rfl⟩
  |true=>
   have hpm:p<m:=by
    refine JO fun h=>?_;rw[F.tail p h hpl]at hf;cases hf
   obtain⟨o,ho⟩:∃o,l[π.getD p 0]?=some o:=⟨_,Jz (F.inr p hpl)⟩
   rw[YJ F.inr hpl ho,show m-p=(m-(p+1))+1 by omega]at ha;have hfl:(fl.drop p).getD 0 false=fl.getD p false:=by simp[Kn,Ko]
   have hfd:(fl.drop p).drop 1=fl.drop (p+1):=by rw[BN]
   obtain⟨V,hv,hfact⟩:∃V,qcE P wz l ((Zk l π).drop (p+1)) (m-(p+1)) (fl.drop (p+1)) (putD S o.dst V) g K/\FactC P wz n l g S o V:=by
    cases hb:fl.getD p false with
    |true=>
     obtain⟨V,h1,h2⟩:=qrJ (by rw[hfl,hb]) ha;rw[hfd]at h2;exact⟨V,h2,qkO hall h1⟩
    |false=>
     have hk2:Ya P o.op=2:=by
      unfold isJ isF at hf;rw[ho,hb]at hf;simp only[Kw,BO]at hf;simpa using hf.2
     have ha:=qkG (by rw[hfl,hb]) ha;rw[hfd]at ha;obtain⟨V,⟨_,hv⟩,hfact⟩:=qgo hall hk2 ha;exact⟨V,hv,hfact.toC⟩
   obtain⟨p',S',a1,a2,a3,a4,a5,a6,a7⟩:=ih (p+1) (putD S o.dst V) (by omega) (by omega) hv;have notlook:∀q oq t,p<=q->q<p'->l[π.getD q 0]?=some oq->oq.dst=some t->t∉QE l o:=fun q oq t h1 h2 h3 h4 ht=>by
    rcases F.data p q o oq t hpl (by omega) ho h3 h4 ht with⟨c1,c2⟩|⟨c1,_⟩
    ·have:=a4 q (by omega) h2
     rw[F.tail q c2 (by omega)]at this;cases this
    ·omega
   have uniq:∀q oq t,p<q->q<π.length->l[π.getD q 0]?=some oq->oq.dst=some t->o.dst≠some t:=fun q oq t h1 h2 h3 h4 e=>by
    have:=((XC F.order ho).2 _ oq t h3 h4).1 e;have:=F.inj p q hpl h2 this;omega
   refine⟨p',S',by omega,a2,a3,fun q h1 h2=>?_,a5,fun q oq h1 h2 hq=>?_,fun t ht=>?_⟩
   ·rcases JB h1 with e|e
    ·rw[<-e];exact hf
    ·exact a4 q e h2
   ·rcases JB h1 with e|e
    ·subst e
     rw[ho]at hq;obtain rfl:=Option.some.inj hq;refine⟨V,fun t ht=>?_,hfact.slots fun t ht=>?_⟩
     ·rw[a7 t fun q oq h3 h4 h5 h6=>uniq q oq t h3 (by omega) h5 h6 ht,XG,if_pos ht]
     ·rw[a7 t fun q oq h3 h4 h5 h6=>notlook q oq t (by omega) (by omega) h5 h6 ht,XG,if_neg fun e=>notlook p o t (KJ _) (by omega) ho e ht]
    ·exact a6 q oq e h2 hq
   ·rw[a7 t fun q oq h3 h4 h5=>ht q oq (by omega) h4 h5,XG,if_neg (ht p o (KJ _) (by omega) ho)]
def PhaseJ(P:Program)(wz:World)(n:FrameK)(l:List Oper)(π:List Nat)(fl:List Bool)(m:Nat)(K:Slots->AHeap->Prop)(listed:Array Bool)(Ps:PMap)(a:Act)(w:World):Prop:=
 listed.size=l.length/\(∀j oj,l[j]?=some oj->listed.getD j false=true->∀e∈oj.after,Region.binds .any e=true->listed.getD e.on false=true)/\a.tmps.size=n/\a.defers=n.dfr/\
 ∃p S g,p<=π.length/\(p<π.length->isJ P l π fl m p=false)/\(∀q,p<=q->q<π.length->listed.getD (π.getD q 0) false=false)/\(∀q,q<p->isJ P l π fl m q=false->listed.getD (π.getD q 0) false=true)/\
  (m<p->∀q,q<p->listed.getD (π.getD q 0) false=true)/\HRel wz Ps g w/\qcE P wz l ((Zk l π).drop p) (m-p) (fl.drop p) S g K/\
  (∀q o,q<p->l[π.getD q 0]?=some o->listed.getD (π.getD q 0) false=false->∃V,(∀t,o.dst=some t->S.get t=V)/\FactC P wz n l g S o V)/\
  ∀t,(∃q o,q<p/\l[π.getD q 0]?=some o/\o.dst=some t/\listed.getD (π.getD q 0) false=false)\/VR Ps (S.get t) (a.tmps.getD t undef)
theorem YA{l:List Oper}{listed:Array Bool}{i j:Nat}{o:Oper}(ho:l[i]?=some o)(hedges:∀e∈o.after,Region.binds .any e=true->listed.getD e.on false=true)(hw:Region.waitsFor .any l.toArray i j=true):listed.getD j false=true:=by
 obtain⟨oi,g1,e,g2,g3,g4⟩:=Region.waitsFor_spec hw;have g1':l[i]?=some oi:=by simpa using g1
 rw[ho]at g1';obtain rfl:=Option.some.inj g1';rw[<-g4];exact hedges e g2 g3
theorem any_okJ{l:List Oper}(hall:Xg n l=true){π:List Nat}{fl:List Bool}{m:Nat}(F:FloatJ P l π fl m){K:Slots->AHeap->Prop}{fi:PMap}{Q:Exit->Act->World->Prop}
 (hq:∀Ps S g a w,fi.le Ps->HRel wz Ps g w->SRel Ps n S a->K S g->Q .normal a w):∀(fuel:Nat) (listed:Array Bool) (a:Act) (w:World) (Ps:PMap),fi.le Ps->PhaseJ P wz n l π fl m K listed Ps a w->
 (listed.toList.filter (!·)).length<=fuel->wpAny P .any l.toArray Q fuel listed a w:=by
 have hB:=F.order;have fin:∀(listed:Array Bool) (a:Act) (w:World) (Ps:PMap),fi.le Ps->PhaseJ P wz n l π fl m K listed Ps a w->Region.ready .any l.toArray listed=[]->Q .normal a w:=by
  rintro listed a w Ps hle ⟨i1,i2,i3,i4,p,S,g,p1,p2,p3,p4,p5,p6,p7,p8,p9⟩ hrd;have hal:=qaE hB i1 hrd;have hp:p=π.length:=by
   rcases JB p1 with e|e
   ·exact e
   ·have:=p3 p (KJ _) e
    rw[hal _ (F.inr p e)]at this;cases this
  subst hp;rw[show(Zk l π).drop π.length=[] by rw[<-qab F.inr];simp,qng]at p7;refine hq Ps S g a w hle p6 ⟨i3,i4,fun t=>?_⟩ p7;rcases p9 t with⟨q,o,c1,c2,c3,c4⟩|c
  ·rw[hal _ (F.inr q c1)]at c4;cases c4
  ·exact c
 intro fuel;induction fuel with
 |zero=>
  intro listed a w Ps hle inv hc;have hrd:Region.ready .any l.toArray listed=[]:=by
   cases hrd:Region.ready .any l.toArray listed with
   |nil=>rfl
   |cons i r=>
    exfalso;have hm:i∈Region.ready .any l.toArray listed:=by rw[hrd];exact Je
    obtain⟨h1,o,ho,_⟩:=mem_ready.1 hm;have hi:i<listed.size:=by
     have:l[i]?=some o:=by simpa using ho
     rw[inv.1];exact(JA.1 this).1
    have h2:listed.toList[i]?=some false:=by
     simp[JE,hi]at h1;simp[hi,h1]
    have:=JZ h2;have hmem:false∈listed.toList.filter (!·):=by simp[List.mem_filter,this]
    have:=List.length_pos_of_mem hmem;omega
  exact⟨hrd,fin listed a w Ps hle inv hrd⟩
 |succ fuel ih=>
  intro listed a w Ps hle inv hc;refine⟨fun hrd=>fin listed a w Ps hle inv hrd,fun i hi=>?_⟩;obtain⟨i1,i2,i3,i4,p,S,g,p1,p2,p3,p4,p5,p6,p7,p8,p9⟩:=inv;obtain⟨h1,o,ho,hedges⟩:=mem_ready.1 hi;have hol:l[i]?=some o:=by simpa using ho
  have hilt:i<l.length:=(JA.1 hol).1;have hisz:i<listed.size:=by rw[i1];exact hilt
  have hif:listed.getD i false=false:=by simp[JE,hisz]at h1|-;exact h1
  have hcount:((listed.setIfInBounds i true).toList.filter (!·)).length<=fuel:=by
   have h2:listed.toList[i]?=some false:=by
    simp[JE,hisz]at h1;simp[hisz,h1]
   have:=qaB listed.toList i h2;have e:(listed.setIfInBounds i true).toList=listed.toList.set i true:=by simp
   rw[e];omega
  have hdn:∀d,o.dst=some d->d<n:=fun d hd=>qbF l i d hall (by rw[Yf,hol];exact hd);obtain⟨q,hql,hqi⟩:=F.onto i hilt;have hoq:l[π.getD q 0]?=some o:=by rw[hqi];exact hol
  have looks:LookOk Ps n l o S a:=⟨i3,i4,fun t ht=>by
   rcases p9 t with⟨r,oj,c1,c2,c3,c4⟩|c
   ·exfalso
    rcases F.data q r o oj t hql (by omega) hoq c2 c3 ht with⟨d1,d2⟩|⟨_,this⟩
    ·rw[p5 (by omega) r c1]at c4
     cases c4
    ·rw[hqi]at this
     rw[YA hol hedges this]at c4;cases c4
   ·exact c⟩
  have closed':∀j oj,l[j]?=some oj->(listed.setIfInBounds i true).getD j false=true->∀e∈oj.after,Region.binds .any e=true->(listed.setIfInBounds i true).getD e.on false=true:=fun j oj hj hl e he hb=>by
   by_cases e1:e.on=i
   ·rw[e1];exact set_self hisz
   ·rw[Xy e1]
    by_cases e2:j=i
    ·subst e2
     rw[hol]at hj;obtain rfl:=Option.some.inj hj;exact hedges e he hb
    ·rw[Xy e2]at hl
     exact i2 j oj hj hl e he hb
  have other:∀r,r<π.length->r≠q->(listed.setIfInBounds i true).getD (π.getD r 0) false=listed.getD (π.getD r 0) false:=fun r hr hne=>Xy fun e=>hne (F.inj r q hr hql (by rw[e,hqi]));have nobehind:p<q->False:=fun hpq=>by
   obtain⟨r,r1,r2,r3⟩:=F.wait q p hql hpq (p2 (by omega));rw[hqi]at r3;have:=YA hol hedges r3;rw[p3 r r1 (by omega)]at this;cases this
  have goal:(if Region.wanted o (yielded l.toArray a.tmps)=true then o.wp P a w (wpAny P .any l.toArray Q fuel (listed.setIfInBounds i true)) Q else wpAny P .any l.toArray Q fuel (listed.setIfInBounds i true) (a.put o.dst undef) w):=by
   rcases KT q p with hqp|hqp
   ·
    obtain⟨V,v1,v2⟩:=p8 q o hqp hoq (by rw[hqi];exact hif);refine v2 Ps w a g _ Q (Vl g) p6 looks fun ψ₂ v wx hle₂ hr₂ hv=>?_;refine ih _ _ _ ψ₂ (J6 hle hle₂) ⟨by simp[i1],closed',by rw[UG];exact i3,by rw[put_defers];exact i4,p,S,g,p1,p2,fun r r1 r2=>?_,fun r r1 r2=>?_,fun hm r r1=>?_,hr₂,p7,fun r oj r1 r2 r3=>?_,fun t=>?_⟩ hcount
    ·rw[other r r2 (by omega)];exact p3 r r1 r2
    ·by_cases e:r=q
     ·rw[e,hqi];exact set_self hisz
     ·rw[other r (by omega) e];exact p4 r r1 r2
    ·by_cases e:r=q
     ·rw[e,hqi];exact set_self hisz
     ·rw[other r (by omega) e];exact p5 hm r r1
    ·by_cases e:r=q
     ·rw[e,hqi,set_self hisz]at r3;cases r3
     ·rw[other r (by omega) e]at r3
      exact p8 r oj r1 r2 r3
    ·by_cases hod:o.dst=some t
     ·right
      rw[v1 t hod,Yr a hod (by rw[i3];exact hdn t hod)];exact hv t hod
     ·rcases p9 t with⟨r,oj,c1,c2,c3,c4⟩|c
      ·refine .inl ⟨r,oj,c1,c2,c3,?_⟩
       rw[other r (by omega) fun e=>by subst e;rw[hoq]at c2;obtain rfl:=Option.some.inj c2;exact hod c3];exact c4
      ·right
       rw[Zz a hod];exact Yj hle₂ _ _ c
   ·have hqe:q=p:=by
     rcases JB hqp with e|e
     ·exact e.symm
     ·exact(nobehind e).elim
    subst hqe;have all_m:m<=q->∀r,r<q->listed.getD (π.getD r 0) false=true:=fun hm r hr=>by
     rcases JB hm with e|e
     ·subst e
      have key:∀d r,r+d=m->r<m->listed.getD (π.getD r 0) false=true:=by
       intro d;induction d using Nat.strongRecOn with
       |ind d ihd=>
        intro r hd hr;obtain⟨r',s1,s2,s3⟩:=F.sink hql r hr;rcases JB s2 with e|e
        ·subst e
         rw[hqi]at s3;exact YA hol hedges s3
        ·have hl:=ihd (m-r') (by omega) r' (by omega) e
         obtain⟨oj,hoj⟩:∃oj,l[π.getD r' 0]?=some oj:=⟨_,Jz (F.inr r' (by omega))⟩
         exact YA hoj (i2 _ oj hoj hl) s3
      exact key (m-r) r (by omega) hr
     ·exact p5 e r hr
    obtain⟨K',ha,hnext⟩:∃K':Slots->AHeap->Prop,QB P wz l [o] S g K'/\∀s' h',K' s' h'->(q<m->Sub g h')/\qcE P wz l ((Zk l π).drop (q+1)) (m-(q+1)) (fl.drop (q+1)) s' h' K:=by
     rw[YJ F.inr hql hoq]at p7;have hfl:(fl.drop q).getD 0 false=fl.getD q false:=by simp[Kn,Ko]
     have hfd:(fl.drop q).drop 1=fl.drop (q+1):=by rw[BN]
     have hfb:q<m->fl.getD q false=false:=fun c=>by
      have:=p2 hql;unfold isJ at this;rw[decide_eq_true c,Vf,VQ]at this;exact this.1
     by_cases c:q<m
     ·rw[show m-q=(m-(q+1))+1 by omega]at p7
      have p7:=qkG (by rw[hfl,hfb c]) p7;rw[hfd]at p7;exact⟨_,p7,fun s' h' hx=>⟨fun _=>hx.1,hx.2⟩⟩
     ·rw[show m-q=0 by omega,qkF]at p7
      refine⟨_,qjS p7,fun s' h' hx=>⟨fun hc=>absurd hc c,?_⟩⟩;rw[show m-(q+1)=0 by omega];cases hdr:(Zk l π).drop (q+1)with
      |nil=>rw[hdr]at hx;rw[qng];exact hx
      |cons o' r'=>rw[hdr]at hx;exact hx
    refine qgY hall ha p6 looks fun ψ' x h' v w' e1 e2 e3 hk=>?_;obtain⟨k1,k2⟩:=hnext _ _ hk;obtain⟨p',S',a1,a2,a3,a4,a5,a6,a7⟩:=qnS hall F (π.length-(q+1)) (q+1) (putD S o.dst x) rfl (by omega) k2;have keep:∀r or t,r<q->l[π.getD r 0]?=some or->listed.getD (π.getD r 0) false=false->(or.dst=some t\/t∈QE l or)->S'.get t=S.get t:=fun r or t hr hor hun ht=>by
     have nd:∀u ou,q<=u->u<max p' (q+1)->u<π.length->l[π.getD u 0]?=some ou->ou.dst≠some t:=fun u ou h1 hup h2 h3 h4=>by
      rcases ht with ht|ht
      ·have:=((XC hB hor).2 _ ou t h3 h4).1 ht
       have:=F.inj r u (by omega) h2 this;omega
      ·rcases F.data r u or ou t (by omega) h2 hor h3 h4 ht with⟨c1,c2⟩|⟨c1,_⟩
       ·rcases JB h1 with e|e
        ·subst e
         rw[all_m c2 r hr]at hun;cases hun
        ·have:=a4 u e (by omega)
         rw[F.tail u c2 h2]at this;cases this
       ·omega
     rw[a7 t fun u ou h1 h2 h3=>nd u ou (by omega) (by omega) (by omega) h3,XG,if_neg (nd q o (KJ _) (by omega) hql hoq)]
    refine ih _ _ _ ψ' (J6 hle e1) ⟨by simp[i1],closed',by rw[UG];exact i3,by rw[put_defers];exact i4,p',S',h',a2,a3,fun r r1 r2=>?_,fun r r1 r2=>?_,fun hm r r1=>?_,e2,a5,fun r oj r1 r2 r3=>?_,fun t=>?_⟩ hcount
    ·rw[other r r2 (by omega)];exact p3 r (by omega) r2
    ·by_cases e:r=q
     ·rw[e,hqi];exact set_self hisz
     ·rw[other r (by omega) e]
      rcases KT r q with c|c
      ·exact p4 r c r2
      ·rw[a4 r (by omega) r1]at r2;cases r2
    ·have hmq:m<=q:=by
      refine Kr fun hc=>?_;have hmp:m<π.length:=by omega
      have:=a4 m (by omega) hm;rw[F.tail m (KJ _) hmp]at this;cases this
     by_cases e:r=q
     ·rw[e,hqi];exact set_self hisz
     ·rw[other r (by omega) e]
      rcases KT r q with c|c
      ·exact all_m hmq r c
      ·have:=a4 r (by omega) r1
       rw[F.tail r (by omega) (by omega)]at this;cases this
    ·by_cases e:r=q
     ·rw[e,hqi,set_self hisz]at r3;cases r3
     ·rw[other r (by omega) e]at r3
      rcases KT r q with c|c
      ·obtain⟨V,v1,v2⟩:=p8 r oj c r2 r3
       have hqm:q<m:=by
        refine JO fun hm=>?_;rw[all_m hm r c]at r3;cases r3
       exact⟨V,fun t ht=>(keep r oj t c r2 r3 (.inl ht)).trans (v1 t ht),(v2.sub (k1 hqm)).slots fun t ht=>keep r oj t c r2 r3 (.inr ht)⟩
      ·exact a6 r oj (by omega) r1 r2
    ·by_cases hod:o.dst=some t
     ·right
      rw[a7 t fun u ou h1 h2 h3 h4=>by
       have:=((XC hB hoq).2 _ ou t h3 h4).1 hod;have:=F.inj q u hql (by omega) this;omega,XG,if_pos hod,Yr a hod (by rw[i3];exact hdn t hod)]
      exact e3
     ·by_cases hw:∃r or,q+1<=r/\r<p'/\l[π.getD r 0]?=some or/\or.dst=some t
      ·obtain⟨r,or,w1,w2,w3,w4⟩:=hw
       exact .inl ⟨r,or,w2,w3,w4,by rw[other r (by omega) (by omega)];exact p3 r (by omega) (by omega)⟩
      ·have hS:S'.get t=S.get t:=by
        rw[a7 t fun u ou h1 h2 h3 h4=>hw ⟨u,ou,h1,h2,h3,h4⟩,XG,if_neg hod]
       rcases p9 t with⟨r,oj,c1,c2,c3,c4⟩|c
       ·exact .inl ⟨r,oj,by omega,c2,c3,by rw[other r (by omega) (by omega)];exact c4⟩
       ·right
        rw[hS,Zz a hod];exact Yj e1 _ _ c
  simp only[wpOp,ho];split
  ·rename_i hw
   rw[if_pos hw]at goal;exact .inl goal
  ·rename_i hw
   rw[if_neg hw]at goal;exact goal
theorem qpj{Q:Exit->Slots->AHeap->Prop}{s:Slots}{h:AHeap}{id:Nat}{l:List Oper}(π:List Nat)(fl:List Bool)(ws:List (Option Nat))(m:Nat)(hm:P.follows .mixedOrders=true)(hB:qlL P l π fl ws m=true)(hd:Xg n l=true)
 (hc:qcE P wz l (Zk l π) m fl s h fun s' h'=>Q .normal s' h'):Awp P wz n (.region id l.toArray true) Q s h:=by
 refine Awp.of0 ?_;intro fi a w hr hs;have F:=qnl hB;refine wp_region_any hm ?_;have hf:∀j,(Jw l.toArray.size false).getD j false=false:=fun j=>by simp[JE]
 obtain⟨p',S',a1,a2,a3,a4,a5,a6,a7⟩:=qnS hd F π.length 0 s rfl (Js _) (by rw[Nat.sub_zero,KP];exact hc);refine any_okJ (fi:=fi) hd F (K:=fun s' h'=>Q .normal s' h') (fun Ps S g a' w' hle h1 h2 h3=>⟨Ps,S,g,hle,h1,h2,h3⟩) _ _ _ _ fi fi.le_refl
  ⟨by simp,fun j oj _ hl=>(by rw[hf]at hl;cases hl),hs.size,hs.defers,p',S',h,a2,a3,fun r _ _=>hf _,fun r r1 r2=>?_,fun hm' r r1=>?_,hr.drew,a5,fun r oj r1 r2 _=>a6 r oj (Js _) r1 r2,fun t=>?_⟩ ?_
 ·rw[a4 r (Js _) r1]at r2;cases r2
 ·have:=a4 m (Js _) hm'
  rw[F.tail m (KJ _) (by omega)]at this;cases this
 ·by_cases hw:∃r or,r<p'/\l[π.getD r 0]?=some or/\or.dst=some t
  ·obtain⟨r,or,w2,w3,w4⟩:=hw
   exact .inl ⟨r,or,w2,w3,w4,hf _⟩
  ·right
   rw[a7 t fun u ou _ h2 h3 h4=>hw ⟨u,ou,h2,h3,h4⟩];exact hs.val t
 ·have:=List.length_filter_le (!·) (Jw l.toArray.size false).toList
  simpa using this
theorem qpg{Q:Exit->Slots->AHeap->Prop}{s:Slots}{h:AHeap}{id:Nat}{l:List Oper}{y:Code}(π:List Nat)(fl:List Bool)(ws:List (Option Nat))(m:Nat)(L:List Nat)(hm:P.follows .mixedOrders=true)(hB:qlL P l π fl ws m=true)(hd:Xg n l=true)
 (hc:∀K:Slots->AHeap->Prop,(∀s h,Awp P wz n y Q s h->K s h)->qcE P wz l (Zk l π) m fl s h fun s' h'=>K (s'.keep L) h'):Awp P wz n (.seq (.region id l.toArray true) y) Q s h:=
 qL (qpj π fl ws m hm hB hd (qeJ (fun _ _ hk=>Va L hk) (hc (fun s h=>Awp P wz n y Q s h) (fun _ _ hk=>hk))))
end
end Go.AM
namespace Go.AM
section
variable {P:Program} {wz:World} {ops rest:List Oper} {s:Slots} {h:AHeap} {K:Slots->AHeap->Prop} {dst:Option Tmp} {ty:TypeId} {pos:String} {af:Array Edge}
theorem qmv{fo:Operand}{args:List Operand}{ts:Array TypeId}{j:Nat}{want:Bool}(hg:gv s ops j= .bool (!want))(hr:Yg P wz ops rest (putD s dst (.tuple [])) h K):
 Yg P wz ops (⟨dst, .call ⟨.value fo,args.toArray,ts⟩,ty,pos,af,some (j,want)⟩::rest) s h K:=by
 refine qcR (V:= .dead) (f:=0) (cap:=[]) (xs:=[]) (by rw[hg];rfl) (fun e=>?_) (fun e=>?_) ?_
 ·rw[hg]at e;cases want<;>cases e
 ·rw[hg]at e;cases want<;>cases e
 ·rw[hg];cases want<;>exact hr
theorem fOps_gno{hZ:AHeap}{fo:Operand}{args:List Operand}{ts:Array TypeId}{j:Nat}{want:Bool}(hg:gv s ops j= .bool (!want))(hr:ZL P wz ops hZ rest (putD s dst (.tuple [])) h K):
 ZL P wz ops hZ (⟨dst, .call ⟨.value fo,args.toArray,ts⟩,ty,pos,af,some (j,want)⟩::rest) s h K:=by
 refine qfw (V:= .bool true) (f:=0) (cap:=[]) (xs:=[]) (by rw[hg];rfl) (fun e=>?_) trivial (fun e=>?_) ?_
 ·rw[hg]at e;cases want<;>cases e
 ·rw[hg]at e;cases want<;>cases e
 ·rw[hg];cases want<;>exact hr
theorem qhV{t:TypeId}{n:Nat}{ps:List (Nat×Operand)}{cs:List AVal}{j:Nat}{want:Bool}{g:AVal}(hg:gv s ops j=g)(hkn:Wo g=true)(hb:Xa g want=true->UV P t n (evP s ps)=some cs)
 (hk:∀k H,Sub h H->(Xa g want=true->H k=some ⟨cs,0⟩)->QB P wz ops rest (putD s dst (Qw (Xa g want) (.slice (.own k) 0 n (.exact n)))) H K):
 QB P wz ops (⟨dst, .buildSlice t n ps.toArray,ty,pos,af,some (j,want)⟩::rest) s h K:=by
 subst hg;have h0:qJ ops j=none->False:=fun hj=>by unfold gv at hkn;rw[hj]at hkn;cases hkn
 cases hj:qJ ops j with
 |none=>exact(h0 hj).elim
 |some d=>
  have e:gv s ops j=s.get d:=by unfold gv;rw[hj]
  rw[e]at hkn hb hk;refine qim hj rfl hkn (fun q=>?_) (fun q=>?_)
  ·refine Qn (hb q) fun k hk'=>?_
   have:=hk k (h.set k ⟨cs,0⟩) (Vg hk') (fun _=>Vd _ _ _);rw[q,Qw]at this;exact this
  ·have:=hk 0 h (Vl _) (fun z=>by rw[q]at z;cases z)
   rw[q,Qw]at this;exact this
end
theorem qic{P:Program}{wz:World}{k id:Nat}{l pre:List Oper}{m i:Operand}{ts:Array TypeId}{ty:TypeId}{pos:String}{af:Array Edge}{rest:Code}{s:Slots}{h:AHeap}{fn:Func}{rs:List ResultVar}{R:AVal->AHeap->Prop}{Q:Exit->Slots->AHeap->Prop}{vm vi:AVal}(L:List Nat)
 (hl:l=pre++[⟨none, .defer ⟨.builtin .delete,[m,i].toArray,ts⟩,ty,pos,af,none⟩]) (hd:Xg k l=true) (hrs:fn.results=rs.toArray) (hmx:P.follows .mixedOrders=true) (hB:Region.lexTailB .any l.toArray pre.length=true) (hp:(pre.all fun o=>Zb P o.op)=true)
 (hc:∀K:Slots->AHeap->Prop,(∀s h,(∀d,Awp P wz ⟨k,[d],fun _ _ _ _=>False⟩ rest (qre P wz rs R ts vm vi) s h)->K s h)->QB P wz l pre s h (fun s' h'=>ev s' m=vm/\ev s' i=vi/\K (s'.keep L) h')):
 Awp P wz ⟨k,[],GD P wz fn R⟩ (.seq (.region id l.toArray true) rest) Q s h:=by
 have hdp:Xg k pre=true:=by
  have:∀(p q:List Oper),Xg k (p++q)=true->Xg k p=true:=by
   intro p q hp;induction p with
   |nil=>rfl
   |cons o p ih=>
    simp only[Kg,Xg,Kw]at hp|-
    exact⟨hp.1,ih hp.2⟩
  exact this pre _ (hl ▸ hd)
 have hc':=hc (fun s h=>∀d,Awp P wz ⟨k,[d],fun _ _ _ _=>False⟩ rest (qre P wz rs R ts vm vi) s h) (fun _ _ hk=>hk);have htake:l.take pre.length=pre:=by rw[hl];simp
 have hdrop:l.drop pre.length=[⟨none, .defer ⟨.builtin .delete,[m,i].toArray,ts⟩,ty,pos,af,none⟩]:=by rw[hl];simp
 intro fi a w hr hs;refine wp_seq (wp_region_still_tail (w:=w) pre.length hmx hB ?_);rw[htake,hdrop];refine qfU (w:=w.drew) (n:=⟨k,[],GD P wz fn R⟩) l hd hr.drew _ _ pre [] s a hp hdp (by simpa using hc') hs fun s' a' hs' hk=>?_;obtain⟨em,ei,hk⟩:=hk;simp only[wpList];rw[if_pos (by simp[Region.wanted])];have hvm:=hs'.ev m;have hvi:=hs'.ev i;rw[em]at hvm;rw[ei]at hvi;generalize hdd:({target:= .builtin .delete ts ty (([m,i].toArray).map fun| .const _=>true|_=>false),args:=([m,i].toArray).map a'.eval}:Deferred)=d;have hx:(execOp a'.eval ⟨none, .defer ⟨.builtin .delete,[m,i].toArray,ts⟩,ty,pos,af,none⟩).run P w.drew= .ok (.defer d) w.drew:=by
  subst hdd;simp[execOp,resolve];exact⟨by cases m<;>rfl,by cases i<;>rfl⟩
 refine .inl ?_;show Oper.wp P _ a' w.drew _ _
 simp only[Oper.wp,hx,Oper.upon_defer,Act.put,Exit.then];refine wp_mono (Va L (hk d) fi _ w.drew hr.drew ⟨hs'.size,by rw[hs'.defers],hs'.val⟩) fun e a'' w'' q=>?_;rcases q with⟨χ,s'',h'',e1,e2,e3,e4⟩|⟨_,χ,_,q⟩
 ·cases e<;>simp only[qre]at e4<;>first
   |exact e4.elim
   |skip
  obtain⟨w3,h3,f1,f2,f3⟩:=qkS (ty:=ty) e4 e2 (Yj e1 _ _ hvm) (Yj e1 _ _ hvi);obtain⟨hp,h4,hsub,hR⟩:=f3;have hrs':rs=fn.results.toList:=by rw[hrs]
  rw[hrs']at hp hR;obtain⟨v,g1,g2⟩:=qfl f2 e3 fn hp;refine .inr ⟨trivial,χ,e1,rfl,w3,?_,v,g1,χ,_,h4,χ.le_refl,f2.forget hsub,g2,hR⟩;rw[e3.defers];subst hdd;exact⟨.delete,ts,ty,_,undef,w3,rfl,by simpa[invoke,builtin]using Zh f1,rfl⟩
 ·exact q.elim
theorem qib{P:Program}{wz:World}{k id:Nat}{l:List Oper}{m i:Operand}{ts:Array TypeId}{ty:TypeId}{pos:String}{af:Array Edge}{rest:Code}{s:Slots}{h:AHeap}{fn:Func}{rs:List ResultVar}{R:AVal->AHeap->Prop}{Q:Exit->Slots->AHeap->Prop}{vm vi:AVal}(L:List Nat)(m0:Nat)
 (hl:l.drop m0=[⟨none, .defer ⟨.builtin .delete,[m,i].toArray,ts⟩,ty,pos,af,none⟩]) (hd:Xg k l=true) (hrs:fn.results=rs.toArray) (hmx:P.follows .mixedOrders=true) (hB:Region.lexTailB .any l.toArray m0=true) (hp:((l.take m0).all fun o=>Zb P o.op)=true)
 (hc:∀K:Slots->AHeap->Prop,(∀s h,(∀d,Awp P wz ⟨k,[d],fun _ _ _ _=>False⟩ rest (qre P wz rs R ts vm vi) s h)->K s h)->QB P wz l (l.take m0) s h (fun s' h'=>ev s' m=vm/\ev s' i=vi/\K (s'.keep L) h')):
 Awp P wz ⟨k,[],GD P wz fn R⟩ (.seq (.region id l.toArray true) rest) Q s h:=by
 have hlen:(l.take m0).length=m0:=by
  have:=congrArg BP hl;rw[K5,JR]at this;rw[K4];omega
 exact qic L (pre:=l.take m0) (by rw[<-hl,Bo]) hd hrs hmx (by rw[hlen];exact hB) hp hc
theorem WJ{P:Program}{wz:World}{ops rest:List Oper}{s:Slots}{h hZ:AHeap}{K:Slots->AHeap->Prop}{dst:Option Tmp}{ty:TypeId}{pos:String}{af:Array Edge}{t:TypeId}{n:Nat}{ps:List (Nat×Operand)}{cs:List AVal}(hb:UV P t n (evP s ps)=some cs)
 (hk:∀k,h k=none->ZL P wz ops hZ rest (putD s dst (.slice (.own k) 0 n (.exact n))) (h.set k ⟨cs,0⟩) K):ZL P wz ops hZ (⟨dst, .buildSlice t n ps.toArray,ty,pos,af,none⟩::rest) s h K:=by
 refine qcG rfl ?_;refine Qn hb fun k hk0=>?_;rw[qa];exact hk k hk0
end Go.AM
namespace Go.Cop
open Go.Col (Str FaultC okF)
open Go.Tok
set_option maxRecDepth 100000
def noT:TokC:=⟨0,[],0,0,false⟩
def alike:List TokC->List TokC->Bool
 |[],[]=>true
 |a::l,b::m=>(decide (a.kind=b.kind) && decide (a.text=b.text)) && alike l m
 |_,_=>false
def COPY:Str:=[67,79,80,89]
def BY:Str:=[66,89]
def Yo:Str:=[82,69,80,76,65,67,73,78,71]
structure RepC where
 old:List TokC
 new:List TokC
structure MemC where
 name:Str
 toks:List TokC
def ZB(l old:List TokC):Bool:=decide (old.length<=l.length) && alike old (l.take old.length)
def qiG(r:List RepC):Nat->List TokC->List TokC
 |0,_=>[]
 |_+1,[]=>[]
 |f+1,t::l=>match r.find? (fun x=>ZB (t::l) x.old)with
  |none=>t::qiG r f l
  |some x=>x.new++qiG r f ((t::l).drop x.old.length)
def WB(r:List RepC)(l:List TokC):List TokC:=qiG r l.length l
def UF(l:List TokC)(r:List RepC):List TokC×Int:=
 if r.any (fun x=>decide (x.old=[]))=true then([],1)
 else if 65536<(WB r l).length then([],3)else(WB r l,0)
def Zo(l:List TokC)(i:Nat)(ks:List UInt8):Bool:=decide (i<l.length) && ks.contains (l.getD i noT).kind
def Yp(l:List TokC)(i:Nat)(s:Str):Bool:=Zo l i [1] && decide ((l.getD i noT).text=s)
structure Opd where
 ok:Bool
 lo:Nat
 hi:Nat
 at_:Nat
def ZE(l:List TokC)(i:Nat):Nat:=i+((l.drop i).takeWhile (fun t=> !decide (t.kind=7))).length
def Xd(l:List TokC)(i:Nat)(empty:Bool):Opd:=
 if Zo l i [1,2,3]=true then⟨true,i,i+1,i+1⟩
 else if Zo l i [7]=false then⟨false,0,0,i⟩
 else if ZE l (i+1)=l.length\/(empty=false/\ZE l (i+1)=i+1)then⟨false,0,0,ZE l (i+1)⟩
 else⟨true,i+1,ZE l (i+1),ZE l (i+1)+1⟩
def qcl(l:List TokC)(i j:Nat):List TokC:=(l.drop i).take (j-i)
structure Pair where
 ok:Bool
 rep:RepC
 at_:Nat
def YU(l:List TokC)(i:Nat):Pair:=
 let a:=Xd l i false
 if a.ok=false then⟨false,⟨[],[]⟩,a.at_⟩
 else if Yp l a.at_ BY=false then⟨false,⟨[],[]⟩,a.at_⟩
 else
  let b:=Xd l (a.at_+1) true
  ⟨b.ok,⟨qcl l a.lo a.hi,qcl l b.lo b.hi⟩,b.at_⟩
structure Pairs where
 ok:Bool
 reps:List RepC
 at_:Nat
def YT(l:List TokC):Nat->Nat->Bool->List RepC->Pairs
 |0,i,_,acc=>⟨true,acc,i⟩
 |f+1,i,first,acc=>
  if first=true\/(i<l.length/\Zo l i [6]=false)then
   (let p:=YU l i
   if p.ok=false then⟨false,[],p.at_⟩else YT l f p.at_ false (acc++[p.rep]))
  else⟨true,acc,i⟩
structure Stm where
 ok:Bool
 name:TokC
 reps:List RepC
 at_:Nat
def qiT(i:Nat):Stm:=⟨false,noT,[],i⟩
def UM(l:List TokC)(name:TokC)(p:Pairs):Stm:=
 if p.ok=false then qiT p.at_
 else if Zo l p.at_ [6]=false then qiT p.at_
 else⟨true,name,p.reps,p.at_+1⟩
def Xo(l:List TokC)(i:Nat):Stm:=
 if Zo l i [1,3]=false then qiT i
 else UM l (l.getD i noT) (if Yp l (i+1) Yo=true then YT l (l.length+2) (i+2) true []else⟨true,[],i+1⟩)
def XR(l:List TokC)(i:Nat):Nat:=i+((l.drop i).takeWhile (fun t=> !(decide (t.kind=1) && decide (t.text=COPY)))).length
def qdj(l:List TokC)(copies at_:Nat):FaultC:=
 if at_<l.length then⟨4,(l.getD at_ noT).line,(l.getD at_ noT).col⟩else⟨4,(l.getD copies noT).line,(l.getD copies noT).col⟩
def addE(names:List Str)(s:Str):List Str:=if names.contains s=true then names else names++[s]
structure Xs where
 names:List Str
 copies:Nat
inductive Xr where
 |bad (f:FaultC)
 |ok (out:List TokC) (st:Xs)
def qcT(lim:Bool)(l:List TokC):Bool:=lim && decide (65536<l.length)
def qbe(lim:Bool)(mem:List MemC)(op:List Str)(rec:List TokC->List Str->Xs->Xr)(s:Stm)(st:Xs):Xr:=
 match mem.find? (fun m=>decide (m.name=s.name.text))with
 |none=> .bad ⟨7,s.name.line,s.name.col⟩
 |some m=>
  if op.contains s.name.text=true then .bad ⟨10,s.name.line,s.name.col⟩
  else if 8<=op.length\/(lim=true/\4096<st.copies+1)then .bad ⟨3,s.name.line,s.name.col⟩
  else match rec m.toks (op++[s.name.text]) ⟨addE st.names s.name.text,st.copies+1⟩with
   | .bad f=> .bad f
   | .ok l st'=>if qcT lim l=true then .bad ⟨3,s.name.line,s.name.col⟩else if qcT lim (WB s.reps l)=true then .bad ⟨3,s.name.line,s.name.col⟩else .ok (WB s.reps l) st'
def qbI(lim:Bool)(mem:List MemC)(op:List Str)(rec:List TokC->List Str->Xs->Xr)(l:List TokC):Nat->Nat->List TokC->Xs->Xr
 |0,_,out,st=> .ok out st
 |f+1,i,out,st=>
  let c:=XR l i
  if l.length<=c then .ok (out++l.drop i) st
  else
   let s:=Xo l (c+1)
   if s.ok=false then .bad (qdj l c s.at_)
   else match qbe lim mem op rec s st with
    | .bad f=> .bad f
    | .ok inner st'=>if qcT lim (out++qcl l i c++inner)=true then .bad ⟨3,s.name.line,s.name.col⟩else qbI lim mem op rec l f s.at_ (out++qcl l i c++inner) st'
def qne(lim:Bool)(mem:List MemC):Nat->List TokC->List Str->Xs->Xr
 |0,l,op,st=>qbI lim mem op (fun _ _ st=> .ok [] st) l (l.length+1) 0 [] st
 |d+1,l,op,st=>qbI lim mem op (qne lim mem d) l (l.length+1) 0 [] st
def qbk(lim:Bool)(l:List TokC)(mem:List MemC):Xr:=qne lim mem 8 l [] ⟨[],0⟩
end Go.Cop
namespace Go.Cop
open Go.Col (Str FaultC okF)
open Go.Tok
set_option maxRecDepth 100000
theorem qeR{α:Type}(d:α){l:List α}{i:Nat}(hi:i<l.length):l.drop i=l.getD i d::l.drop (i+1):=by
 rw[J4 hi];simp[Kn,hi]
theorem qkM{l o:List TokC}(h:ZB l o=true):o.length<=l.length:=by
 unfold ZB at h;simp only[Kw,decide_eq_true_eq]at h;exact h.1
theorem qfm{r:List RepC}(hr:∀x∈r,x.old≠[]):∀(f g:Nat) (l:List TokC),l.length<=f->l.length<=g->qiG r f l=qiG r g l
 |0,g,l,hf,_=>by
  rw[Ke (by omega:l.length=0)];cases g<;>rfl
 |f+1,0,l,_,hg=>by
  rw[Ke (by omega:l.length=0)];rfl
 |f+1,g+1,[],_,_=>rfl
 |f+1,g+1,t::l,hf,hg=>by
  simp only[KX]at hf hg;simp only[qiG];cases hq:r.find? (fun x=>ZB (t::l) x.old)with
  |none=>simp only;rw[qfm hr f g l (by omega) (by omega)]
  |some x=>
   simp only;have hx:0<x.old.length:=BQ.2 (hr x (BR hq));have hd:((t::l).drop x.old.length).length<=l.length:=by simp;omega
   rw[qfm hr f g _ (by omega) (by omega)]
theorem qsI(r:List RepC):WB r []=[]:=rfl
theorem qcw{r:List RepC}(hr:∀x∈r,x.old≠[]){l:List TokC}{i:Nat}(hi:i<l.length):WB r (l.drop i)=match r.find? (fun x=>ZB (l.drop i) x.old)with
 |none=>l.getD i noT::WB r (l.drop (i+1))
 |some x=>x.new++WB r (l.drop (i+x.old.length)):=by
 unfold WB;have e:=qeR noT hi;rw[show(l.drop i).length=(l.drop (i+1)).length+1 by simp;omega];rw[e];simp only[qiG];rw[<-e];cases hq:r.find? (fun x=>ZB (l.drop i) x.old)with
 |none=>rfl
 |some x=>
  simp only;have hx:0<x.old.length:=BQ.2 (hr x (BR hq));rw[BN,qfm hr _ _ (l.drop (i+x.old.length)) (by simp;omega) (KJ _)]
theorem qjk{r:List RepC}{p:RepC->Bool}:(r.findIdx? p=none/\r.find? p=none)\/∃i x,r.findIdx? p=some i/\r.find? p=some x/\i<r.length/\r[i]?=some x:=by
 cases h:r.findIdx? p with
 |none=>
  left;refine⟨rfl,?_⟩;rw[BS]at h;rw[List.find?_eq_none];intro x hx;simp[h x hx]
 |some i=>
  right;rw[BU]at h;obtain⟨h1,h2,h3⟩:=h;refine⟨i,r[i],rfl,?_,h1,by simp[h1]⟩;rw[BV];exact⟨h2,i,h1,rfl,fun j hj=>by simpa using h3 j hj⟩
theorem qlf:∀{l m l' m':List TokC},alike l m=true->alike l' m'=true->alike (l++l') (m++m')=true
 |[],[],_,_,_,h=>h
 |[],_::_,_,_,h,_=>by cases h
 |_::_,[],_,_,h,_=>by cases h
 |a::l,b::m,_,_,h,h'=>by
  simp only[alike,Kw,Kg]at h|-
  exact⟨h.1,qlf h.2 h'⟩
theorem qgT{r:List RepC}(hr:∀x∈r,x.old≠[])(hn:∀x∈r,x.new=x.old):∀(n:Nat) (l:List TokC),l.length<=n->alike (WB r l) l=true
 |0,l,h=>by rw[Ke (by omega:l.length=0)];rfl
 |n+1,l,h=>by
  cases hl:l with
  |nil=>rfl
  |cons t l'=>
   rw[<-hl];have hpos:0<l.length:=by rw[hl];simp
   have hs:=qcw hr hpos;rw[KP]at hs;rw[hs];cases hq:r.find? (fun x=>ZB l x.old)with
   |none=>
    simp only[Jr];have e:=qeR noT hpos;rw[KP,Jr]at e;conv=>lhs;rhs;rw[e]
    simp only[alike,decide_true,Bool.and_self,Vf];exact qgT hr hn n _ (by simp;omega)
   |some x=>
    simp only[Jr];have hm:=BR hq;have hf:=BX hq;have hx:0<x.old.length:=BQ.2 (hr x hm);unfold ZB at hf;simp only[Kw,decide_eq_true_eq]at hf;rw[hn x hm];conv=>lhs;rhs;rw[<-Bo x.old.length l]
    exact qlf hf.2 (qgT hr hn n _ (by simp;omega))
theorem qiH{r:List RepC}(hr:∀x∈r,x.old≠[]){k:Nat}(hk:1<=k)(hn:∀x∈r,x.new.length<=k):∀(n:Nat) (l:List TokC),l.length<=n->(WB r l).length<=k*l.length
 |0,l,h=>by rw[Ke (by omega:l.length=0)];exact Js _
 |n+1,l,h=>by
  cases hl:l with
  |nil=>exact Js _
  |cons t l'=>
   rw[<-hl];have hpos:0<l.length:=by rw[hl];simp
   have hs:=qcw hr hpos;rw[KP]at hs;rw[hs];cases hq:r.find? (fun x=>ZB l x.old)with
   |none=>
    simp only[Jr,KX];have:=qiH hr hk hn n (l.drop 1) (by simp;omega);rw[K5]at this;have e:k*l.length=k*(l.length-1)+k:=by rw[<-BZ];congr 1;omega
    omega
   |some x=>
    simp only[Jr,Jb];have hm:=BR hq;have h1:=hn x hm;have hx:0<x.old.length:=BQ.2 (hr x hm);have hf:=BX hq;have h2:=qkM (show ZB l x.old=true from hf);have:=qiH hr hk hn n (l.drop x.old.length) (by simp;omega);rw[K5]at this;have e:k*(l.length-x.old.length)+k<=k*l.length:=by
     rw[<-BZ];exact Nat.mul_le_mul_left _ (by omega)
    omega
theorem Uz{l:List TokC}{i:Nat}{ks:List UInt8}(h:Zo l i ks=true):i<l.length:=by
 unfold Zo at h;simp only[Kw,decide_eq_true_eq]at h;exact h.1
theorem qcf{α:Type}(p:α->Bool):∀l:List α,(l.takeWhile p).length<=l.length
 |[]=>KJ _
 |a::l=>by
  rw[Ea];split
  ·simp;exact qcf p l
  ·simp
theorem qlu{l:List TokC}{i:Nat}(h:i<=l.length):i<=ZE l i/\ZE l i<=l.length:=by
 unfold ZE;have:=qcf (fun t:TokC=> !decide (t.kind=7)) (l.drop i);rw[K5]at this;omega
theorem qhl{l:List TokC}{i:Nat}(h:i<=l.length):i<=XR l i/\XR l i<=l.length:=by
 unfold XR;have:=qcf (fun t:TokC=> !(decide (t.kind=1) && decide (t.text=COPY))) (l.drop i);rw[K5]at this;omega
theorem qdh{l:List TokC}{i:Nat}{e:Bool}(h:i<=l.length):i<=(Xd l i e).at_/\(Xd l i e).at_<=l.length/\((Xd l i e).ok=true->i<(Xd l i e).at_/\(Xd l i e).lo<=(Xd l i e).hi/\(Xd l i e).hi<=l.length/\(e=false->(Xd l i e).lo<(Xd l i e).hi)):=by
 unfold Xd;split
 ·rename_i h1
  have:=Uz h1;exact⟨by simp only;omega,by simp only;omega,fun _=>⟨by simp only;omega,by simp only;omega,by simp only;omega,fun _=>by simp only;omega⟩⟩
 ·split
  ·exact⟨KJ _,h,fun q=>by cases q⟩
  ·rename_i h2
   have h2':Zo l i [7]=true:=by simpa using h2
   have hl:=Uz h2';obtain⟨p1,p2⟩:=qlu (l:=l) (i:=i+1) (by omega);split
   ·exact⟨by simp only;omega,p2,fun q=>by cases q⟩
   ·rename_i h3
    have hne:ZE l (i+1)≠l.length:=fun q=>h3 (.inl q);refine⟨by simp only;omega,by simp only;omega,fun _=>⟨by simp only;omega,p1,p2,fun he=>?_⟩⟩;simp only;have:ZE l (i+1)≠i+1:=fun q=>h3 (.inr ⟨he,q⟩);omega
theorem qii{l:List TokC}{i:Nat}(h:i<=l.length):i<=(YU l i).at_/\(YU l i).at_<=l.length/\((YU l i).ok=true->i<(YU l i).at_/\(YU l i).rep.old≠[]):=by
 obtain⟨a1,a2,a3⟩:=qdh (e:=false) h;unfold YU;simp only;split
 ·exact⟨a1,a2,fun q=>by cases q⟩
 ·rename_i h1
  have h1':(Xd l i false).ok=true:=by simpa using h1
  obtain⟨b1,b2,b3,b4⟩:=a3 h1';split
  ·exact⟨a1,a2,fun q=>by cases q⟩
  ·rename_i h2
   have h2':Yp l (Xd l i false).at_ BY=true:=by simpa using h2
   have hl:(Xd l i false).at_<l.length:=by
    unfold Yp at h2';simp only[Kw]at h2';exact Uz h2'.1
   obtain⟨c1,c2,c3⟩:=qdh (l:=l) (i:=(Xd l i false).at_+1) (e:=true) (by omega);refine⟨by simp only;omega,c2,fun _=>⟨by simp only;omega,?_⟩⟩;simp only[qcl];intro q;have:=congrArg BP q;have:=b4 rfl;simp at*
   omega
theorem qmU{l:List TokC}:∀(f i:Nat) (first:Bool) (acc:List RepC),i<=l.length->(∀x∈acc,x.old≠[])->i<=(YT l f i first acc).at_/\(YT l f i first acc).at_<=l.length/\∀x∈(YT l f i first acc).reps,x.old≠[]
 |0,i,first,acc,h,ha=>⟨KJ _,h,ha⟩
 |f+1,i,first,acc,h,ha=>by
  rw[YT];split
  ·obtain⟨p1,p2,p3⟩:=qii h
   simp only;split
   ·exact⟨p1,p2,fun x hx=>by cases hx⟩
   ·rename_i hok
    obtain⟨p4,p5⟩:=p3 (by simpa using hok);obtain⟨q1,q2,q3⟩:=qmU f (YU l i).at_ false (acc++[(YU l i).rep]) p2 (fun x hx=>by
     rcases JI.1 hx with hx|hx
     ·exact ha x hx
     ·rw[BD.1 hx];exact p5)
    exact⟨by omega,q2,q3⟩
  ·exact⟨KJ _,h,ha⟩
theorem qgP{l:List TokC}{i:Nat}{s:Str}(h:Yp l i s=true):i<l.length:=by
 unfold Yp at h;simp only[Kw]at h;exact Uz h.1
theorem qbd{l:List TokC}{i:Nat}(h:i<=l.length):i<=(Xo l i).at_/\(Xo l i).at_<=l.length/\((Xo l i).ok=true->i<(Xo l i).at_)/\∀x∈(Xo l i).reps,x.old≠[]:=by
 unfold Xo;split
 ·exact⟨KJ _,h,(fun q=>by cases q),(fun x hx=>by cases hx)⟩
 ·rename_i h1
  have hl:=Uz (show Zo l i [1,3]=true by simpa using h1);have key:∀p:Pairs,i+1<=p.at_->p.at_<=l.length->(∀x∈p.reps,x.old≠[])->i<=(UM l (l.getD i noT) p).at_/\(UM l (l.getD i noT) p).at_<=l.length/\((UM l (l.getD i noT) p).ok=true->i<(UM l (l.getD i noT) p).at_)/\∀x∈(UM l (l.getD i noT) p).reps,x.old≠[]:=by
   intro p p1 p2 p3;unfold UM;split
   ·exact⟨by simp only[qiT];omega,p2,(fun q=>by cases q),(fun x hx=>by cases hx)⟩
   ·split
    ·exact⟨by simp only[qiT];omega,p2,(fun q=>by cases q),(fun x hx=>by cases hx)⟩
    ·rename_i h3
     have:=Uz (show Zo l p.at_ [6]=true by simpa using h3);exact⟨by simp only;omega,by simp only;omega,fun _=>by simp only;omega,p3⟩
  split
  ·rename_i h2
   have hw:=qgP h2;obtain⟨q1,q2,q3⟩:=qmU (l:=l) (l.length+2) (i+2) true [] (by omega) (fun x hx=>by cases hx);exact key _ (by omega) q2 q3
  ·exact key _ (KJ _) (by simp only;omega) (fun x hx=>by cases hx)
end Go.Cop
namespace Go.Cop
open Go.Col (Str FaultC okF)
open Go.Tok
set_option maxRecDepth 100000
theorem qoC(l:List TokC)(c a:Nat):qdj l c a≠okF:=by
 unfold qdj;split<;>simp[okF]
section
variable {lim:Bool} {mem:List MemC}
end
end Go.Cop
namespace Go.Cop
open Go.Col (Str FaultC okF)
open Go.Tok
set_option maxRecDepth 100000
section
variable {lim:Bool} {mem:List MemC}
def memOf(mem:List MemC)(s:Str):Option MemC:=mem.find? (fun m=>decide (m.name=s))
end
end Go.Cop
namespace Go.Cop
open Go.Col (Str FaultC okF)
open Go.Tok
set_option maxRecDepth 100000
def isCopy(t:TokC):Bool:=decide (t.kind=1) && decide (t.text=COPY)
section
variable {lim:Bool} {mem:List MemC}
end
end Go.Cop
namespace Go.Cop
open Go.Col (Str FaultC okF)
open Go.Tok
set_option maxRecDepth 100000
theorem qfo(l:List TokC):∀(f g i:Nat) (first:Bool) (acc:List RepC),i<=l.length->l.length+1<=f+i->l.length+1<=g+i->YT l f i first acc=YT l g i first acc
 |0,g,i,first,acc,h,hf,hg=>by omega
 |f+1,0,i,first,acc,h,hf,hg=>by omega
 |f+1,g+1,i,first,acc,h,hf,hg=>by
  rw[YT,YT];split
  ·obtain⟨p1,p2,p3⟩:=qii h
   simp only;split
   ·rfl
   ·rename_i hok
    obtain⟨p4,_⟩:=p3 (by simpa using hok);exact qfo l f g _ _ _ p2 (by omega) (by omega)
  ·rfl
section
variable {c b:List TokC}
end
end Go.Cop
namespace Go.Cop
open Go.Col (Str FaultC okF)
open Go.Tok
set_option maxRecDepth 100000
def wd(s:Str):TokC:=⟨1,s,0,0,false⟩
def qmS:TokC:=⟨6,[46],0,0,false⟩
def psC:TokC:=⟨7,[61,61],0,0,false⟩
def numC:TokC:=⟨2,[53],0,0,false⟩
def quoC(s:Str):TokC:=⟨3,s,0,0,false⟩
def plainC:List TokC:=[wd [65],wd [66],wd [67],wd BY,numC,quoC [65],qmS,⟨5,[40],0,0,false⟩]
def pairsC:List (List TokC):=[
 [wd [65],wd BY,wd [66]],
 [wd [66],wd BY,wd [65],wd [65],wd BY,wd [67]],
 [psC,wd [65],wd [66],psC,wd BY,psC,psC],
 [psC,wd [65],psC,wd BY,psC,wd [65],wd [65],psC],
 [numC,wd BY,psC,wd COPY,wd [77,49],qmS,psC],
 [psC,qmS,psC,wd BY,quoC [88],psC,wd [67],psC,wd BY,wd [67]]]
def qpE(n:Nat):Str:=if n=255 then[77,57]else[77,UInt8.ofNat (48+n%8)]
def qcm(n:Nat):List TokC:=
 if n<160 then[plainC.getD (n%8) noT]
 else wd COPY::wd (qpE n)::((if 200<=n then wd Yo::pairsC.getD (n%6) []else[])++(if n=254 then[]else[qmS]))
def qcg(ns:List Nat):List TokC:=ns.flatMap qcm
theorem qrj(n:Nat)(ns:List Nat):qcg (n::ns)=qcm n++qcg ns:=List.flatMap_cons
theorem qsP(a b:List Nat):qcg (a++b)=qcg a++qcg b:=List.flatMap_append
def clsT(t:TokC):Bool:=(decide (t.kind=1) && [[65],[66],[67],BY].contains t.text)||(decide (t.kind=2) && decide (t.text=[53]))||(decide (t.kind=3) && decide (t.text=[65]))
def W:Nat->TokC->Nat
 |0,_=>1
 |j+1,t=>if clsT t=true then 3*2^j else 1
end Go.Cop
namespace Go.Cop
open Go.Col (Str FaultC okF)
open Go.Tok
set_option maxRecDepth 100000
end Go.Cop
namespace Go.Cop
open Go.Col (Str FaultC okF)
open Go.Tok
set_option maxRecDepth 100000
def strip(t:TokC):TokC:=⟨t.kind,t.text,0,0,false⟩
section
variable (l:List TokC)
end
def X:Nat->Nat
 |0=>6144
 |1=>768
 |2=>96
 |_=>12
def Y:Nat->Nat
 |0=>73
 |1=>9
 |2=>1
 |_=>0
structure Lib(mem:List MemC):Prop where
 few:∀op:List Str,op.Nodup->(∀x∈op,memOf mem x≠none)->op.length<=3
 raw:∀n m,memOf mem n=some m->∃ns,m.toks.map strip=qcg ns/\ns.length<=8/\∀n∈ns,n<256
section
variable {mem:List MemC} (hL:Lib mem)
include hL
end
end Go.Cop
namespace Go.Cop
open Go.Col (Str FaultC okF)
open Go.Tok
set_option maxRecDepth 100000
def atT(i:Nat)(t:TokC):TokC:=⟨t.kind,t.text,1+(i / 8:Nat),8+(i%8:Nat),false⟩
def qau(l:List TokC):List TokC:=l.mapIdx atT
def qdi(x:List UInt8):List Nat:=(x.take 60).map UInt8.toNat
def lOf(x:List UInt8):List TokC:=qau (qcg (qdi x))
theorem qlA(x:List UInt8):∀n∈qdi x,n<256:=by
 intro n hn;obtain⟨b,_,rfl⟩:=JG.1 hn;exact b.toNat_lt
theorem nats_len(x:List UInt8):(qdi x).length<=x.length/\(qdi x).length<=60:=by
 unfold qdi;rw[Jo,K4];omega
theorem qmO(l:List TokC):(qau l).map strip=l.map strip:=by
 unfold qau;apply List.ext_getElem?;intro i;rw[Eb,List.getElem?_mapIdx,Eb];cases l[i]?<;>rfl
theorem qnw:∀k:Fin 256,(qcm k.val).map strip=qcm k.val/\(qcm k.val).length<=14:=by decide+kernel
theorem qcy:∀{ns:List Nat},(∀n∈ns,n<256)->(qcg ns).map strip=qcg ns/\(qcg ns).length<=14*ns.length
 |[],_=>⟨rfl,KJ _⟩
 |n::ns,h=>by
  obtain⟨h1,h2⟩:=qcy (ns:=ns) fun x hx=>h x (List.mem_cons_of_mem _ hx);obtain⟨g1,g2⟩:=qnw ⟨n,h n Je⟩;rw[qrj,Ba,h1,Jb,KX];simp only at g1 g2;rw[g1];exact⟨rfl,by omega⟩
theorem qrI(x:List UInt8):(lOf x).map strip=qcg (qdi x):=by
 unfold lOf;rw[qmO,(qcy (qlA x)).1]
theorem qlE(x:List UInt8):(lOf x).length<=14*x.length/\(lOf x).length<=840:=by
 have h:=congrArg BP (qrI x);rw[Jo]at h;have h1:=(qcy (qlA x)).2;obtain⟨h2,h3⟩:=nats_len x;omega
end Go.Cop
namespace Go.Cop
open Go.Col (Str FaultC okF sp)
open Go.Tok
set_option maxRecDepth 100000
section
variable {c n p:TokC} (hc:isCopy c=true) (hst:Xo [c,n,p] 1=⟨true,n,[],3⟩)
include hc hst
end
end Go.Cop
namespace Go.Cop
open Go.Col (Str FaultC okF sp)
open Go.Tok
set_option maxRecDepth 100000
def qby(s:Str):List TokC:=(qeA (sp 11++s) false).1
def qcI:List MemC:=[⟨[65],qby [48,53,32,88,32,80,73,67,32,57,40,51,41,46]⟩,⟨[66],qby [48,49,32,82,46,32,67,79,80,89,32,65,32,82,69,80,76,65,67,73,78,71,32,88,32,66,89,32,89,46]⟩]
end Go.Cop
namespace Go.Cop
open Go.Col Go.Tok
end Go.Cop
namespace Go.Proofs.YtlhhaagmakhilaaGreatDoor
open Go.AM
open Go.Proofs
open Go.Col
open Go.Tok
open Go.Cop
open Go.RowKit (Below)
set_option maxRecDepth 100000
theorem noT_bad:noT=ZC:=rfl
def qcj(k:UInt8):List AVal:=[.int .u8 k.toNat]
theorem kin_len{wz:World}{h:AHeap}{v:AVal}{ks:List UInt8}(hv:IsL wz h 1 v (ks.map qcj)):∀H:AHeap,Yn Tryz.prog H 159 v=⟨True, .int .i64 ks.length⟩:=by
 have:=hv.len Tryz.underlying159
 rwa [Jo]at this
theorem kin_open{wz:World}{h:AHeap}{v:AVal}{ks:List UInt8}(hv:IsL wz h 1 v (ks.map qcj))(hn:0<ks.length):∃lc o c,v= .slice lc o ks.length c:=by
 obtain⟨lc,o,c,e⟩:=hv.open (fun e=>by rw[VU]at e;subst e;simp at hn);rw[Jo]at e;exact⟨lc,o,c,e⟩
theorem kin_at{wz:World}{h:AHeap}{ks:List UInt8}{lc:AM.Loc}{o:Nat}{c:Cap}(hv:IsL wz h 1 (.slice lc o ks.length c) (ks.map qcj)){i:Nat}(hi:i<ks.length):rd wz h lc (o+i*1)= .int .u8 (ks.getD i 0).toNat:=by
 have he:=hv.at0 (i:=i) (by rw[Jo];exact hi) (by decide);rw[getD_map (ys:=ks) 0 hi]at he;exact he
theorem c_indexK(wz:World)(h:AHeap)(v:AVal)(ks:List UInt8)(x:UInt8)(hv:IsL wz h 1 v (ks.map qcj))(hl:ks.length<=1000):
 ACall Tryz.prog wz 114 [v, .int .u8 x.toNat] h (fun r h'=>(∃n:Int,r= .int .i64 n/\decide (0<=n)=ks.contains x)/\h'=h):=by
 have hlv:=hv.live;have nv:=kin_len hv;refine qP (n:=19) (rs:=[.tmp 4]) Tryz.func114 rfl rfl rfl rfl (VL rfl) ?_;simp only[Qd];refine awp_rseq [0,1] (by rfl) fun K hK=>?_;simp+decide only[qa,ev,qH,qF,putD,VM,VN,Ka,true_and,↓qd,qb,Jr];apply hK;clear hK K;refine qL ?_;refine awp_rseq [0,1,7,8] (by rfl) fun K hK=>?_;simp+decide only[qa,ev,qH,qF,putD,VM,VO,VN,Ka,true_and,↓qh,qc,↓Xt,QD,nv];apply hK;clear hK K;refine Qp ?_;refine XE [0,1,7,8] (fun i:Nat=>[(0,v),(1, .int .u8 x.toNat),(7, .int .i64 ks.length),(8, .int .i64 i)]) (fun i:Nat=>h) (fun i:Nat=>i<=ks.length/\(ks.take i).contains x=false) (fun i:Nat=>ks.length-i) 0 (by rfl) (Vl _) ⟨Js _,by simp⟩ ?_;rintro i ⟨hi,hq⟩;refine awp_rseq [0,1,7,8,9] (by rfl) fun K hK=>?_;simp+decide only[qa,ev,putD,VM,VO,VN,Ka,true_and,↓qA,ql,qZ,cond_false,qp,Zc];apply hK;clear hK K;refine qL (qK (b:=_) rfl (fun hb1=>?_) (fun hb1=>?_))
 ·try simp only[decide_eq_true_eq]at hb1
  have hi':i<ks.length:=by omega
  obtain⟨lc,o,c,rfl⟩:=kin_open hv (by omega);have e0:=kin_at hv hi';rw[BI]at e0;refine qV ?_;change Awp _ _ _ _ _ _ _;refine qL ?_;refine Qp ?_;refine awp_rseq [0,1,5,7,8] (by rfl) fun K hK=>?_;simp+decide only[qa,ev,putD,VM,VO,VN,Ka,true_and,↓qh,qc,↓qd,qb];apply hK;clear hK K;refine awp_rseq [0,1,5,7,8,16] (by rfl) fun K hK=>?_;simp+decide only[qa,ev,putD,VM,VO,VN,Ka,true_and,↓qh,qc,↓QN,Qb,Qh Tryz.underlying159 sz52,↓qG,qz qsp,↓qA,ql,qZ,cond_false,qp,XH,qi,e0,Vq,BI];repeat (with_reducible refine And.intro ?_ ?_;· first|trivial|omega|(intro hg;simp only[Kw,JV,Ji,VP,VQ,VS,decide_eq_true_eq,decide_eq_false_iff_not,XT]at hg;omega))
  apply hK;clear hK K;refine qK (b:=_) rfl (fun hb2=>?_) (fun hb2=>?_)
  ·try simp only[decide_eq_true_eq]at hb2
   refine awp_rseq [4] (by rfl) fun K hK=>?_;simp+decide only[qa,ev,putD,VM,VO,VN,Ka,true_and,↓qh,qc,↓qd,qb];apply hK;clear hK K;refine qN ?_;try simp only[Qf,Qu]
   refine qW h zqC (qR (Qa)) ?_;simp+decide only[VO,if_true,and_true,Ql];refine⟨i,rfl,?_⟩;have hx:x=ks.getD i 0:=BL.1 (by omega);have hm:ks.contains x=true:=by
    rw[JW,hx,Kn,Jz hi'];exact VH hi'
   rw[hm,decide_eq_true_eq];omega
  ·try simp only[decide_eq_false_iff_not]at hb2
   refine qV ?_;change Awp _ _ _ _ _ _ _;refine XL [0,1,7,8] (by rfl) ?_;simp+decide only[qa,ev,qH,qF,putD,VM,VO,VN,Ka,true_and,↓qA,ql,qC,cond_false,qp,Xc,↓qh,qc];try simp(disch:=omega)only[wrap_i64]
   try simp only[Qi]
   refine⟨i+1,rfl,Vl _,⟨hi',?_⟩,by omega⟩;rw[List.take_add_one,Jz hi'];have hx:ks[i]≠x:=fun e=>hb2 (by rw[Kn,Jz hi',<-e];rfl);simp only[Option.toList_some,List.contains_eq_mem,JI,BD,decide_eq_false_iff_not,not_or]at hq|-
   exact⟨hq,fun e=>hx e.symm⟩
 ·try simp only[decide_eq_false_iff_not]at hb1
  refine XJ ?_;change Awp _ _ _ _ _ _ _;refine awp_rseq [4] (by rfl) fun K hK=>?_;simp+decide only[qa,ev,qH,qF,putD,VM,VN,Ka,true_and,↓qd,qb];apply hK;clear hK K;refine qN ?_;refine qW h zqC (qR (Qa)) ?_;simp+decide only[VO,if_true,and_true,Ql];refine⟨-1,rfl,?_⟩;rw[Jq (by omega)]at hq;rw[hq];rfl
theorem qnF(wz:World)(h:AHeap)(v:AVal)(ks:List UInt8)(x:UInt8)(hv:IsL wz h 1 v (ks.map qcj))(hl:ks.length<=1000):
 ACall Tryz.prog wz 84 [v, .int .u8 x.toNat] h (fun r h'=>r= .bool (ks.contains x)/\h'=h):=by
 have hlv:=hv.live;refine qP (n:=9) (rs:=[.tmp 4]) Tryz.func84 rfl rfl rfl rfl (VL rfl) ?_;simp only[Qd];refine awp_rseq [0,1] (by rfl) fun K hK=>?_;simp+decide only[qa,ev,qH,qF,putD,VM,VN,Ka,true_and,↓qd,qb,Jr];apply hK;clear hK K;refine awp_rseq [4] (by rfl) fun K hK=>?_;simp+decide only[ev,putD,VM,VO,Ka,true_and,↓qh,qc];refine QO (by rfl) (by rfl) (c_indexK wz _ v ks x hv hl) fun x1q2 h1q2 hx1q2=>?_;obtain⟨⟨n,rfl,hn⟩,he⟩:=hx1q2;subst h1q2;simp+decide only[qa,ev,qH,qF,putD,VM,VO,VN,Ka,true_and,↓qA,ql,qC,cond_false,qp,qav,↓qd,qb];apply hK;clear hK K;refine qN ?_;refine qW h zqC (qR (Qa)) ?_;simp+decide only[VO,if_true,and_true,Ql];rw[<-hn]
def qta(v:AVal)(i:Nat):Blk:=⟨[v, .int .i64 i],0⟩
theorem c_isIn(wz:World)(h:AHeap)(kp:Nat)(v:AVal)(l:List TokC)(i:Nat)(kv:AVal)(ks:List UInt8)(hk:h kp=some (qta v i))(hv:IsL wz h 5 v (l.map QJ))(hkv:IsL wz h 1 kv (ks.map qcj))(hks:ks.length<=1000)(hi:i<l.length):
 ACall Tryz.prog wz 66 [.ptr (.own kp) 0,kv] h (fun r h'=>r= .bool (Zo l i ks)/\h'=h):=by
 have rx:=fun o=>Qz wz hk o;unfold qta at rx;have hlv:=hv.live;have hlk:=hkv.live;have nv:=Ze hv;obtain⟨lc,o,c,rfl⟩:=Wy hv (by omega);obtain⟨e0,-,-,-,-⟩:=qar hv hi;have hki:Zo l i ks=ks.contains (l.getD i noT).kind:=by unfold Zo;rw[decide_eq_true hi,Vf]
 rw[hki,noT_bad];refine qP (n:=30) (rs:=[.tmp 4]) Tryz.func66 rfl rfl rfl rfl (VL rfl) ?_;simp only[Qd];refine awp_rseq [0,1] (by rfl) fun K hK=>?_;simp+decide only[qa,ev,qH,qF,putD,VM,VN,Ka,true_and,↓qd,qb,Jr];apply hK;clear hK K;refine WP [4] mixed (by kernel_rfl) (by rfl) fun K hK=>?_;simp+decide only[ev,putD,VM,VO,Ka,true_and,↓qcP,qc,↓qbU,qO,Qm,↓Uu,qm,YL,↓qev,Xz,qz ag3,UT,qz UJ,↓qlg,QD,ZK Tryz.underlying26,↓qfI,ql,qZ,cond_false,qp,Zc,↓qlh,vgP,qcp,qJ,qI,qy,implies_true,↓qdC,qbM,qbN,↓UY,ZH,ZI,↓qfK,WZ,qpN,qpO,↓qfL,Qh Tryz.underlying26 QW,qrT,qrS,qrW,qrV,qjl,qz qsp,VX,Km,Jr,qi,rx,hlv,e0,Vq,K6];repeat (with_reducible refine And.intro ?_ ?_;· first|trivial|omega|(intro hg;simp only[Kw,JV,Ji,VP,VQ,VS,decide_eq_true_eq,decide_eq_false_iff_not,XT]at hg;omega))
 refine qcR (V:= .bool (ks.contains (l.getD i ZC).kind)) (f:=_) (cap:=_) (xs:=_) (by first|rfl|(simp+decide only[gv,qJ,VO,Ka,QZ,qI])) (fun hg=>⟨rfl,?_⟩) (fun hg=>qnF wz _ kv ks _ hkv hks) ?_
 ·try simp+decide only[gv,qJ,VO,Ka,qy]at hg
  simp+decide only[evs,ev,VO,Ka,hg,Qy,Be,Kc,Vj]
 simp+decide only[qbw,ev,qH,qF,putD,VM,VO,VN,Ka,true_and,gv,qJ,qy,↓qfG,Qs,Qg,Xn,Xp,↓qco,qb];apply hK;clear hK K;refine qN ?_;refine qW h zqC (qR (Qa)) ?_;simp+decide only[VO,if_true,and_true,Ql];rw[decide_eq_true (by omega),Vf]
theorem c_isOut(wz:World)(h:AHeap)(kp:Nat)(v:AVal)(l:List TokC)(i:Nat)(kv:AVal)(ks:List UInt8)(hk:h kp=some (qta v i))(hv:IsL wz h 5 v (l.map QJ))(hlk:kv.live=true)(hi:¬i<l.length):
 ACall Tryz.prog wz 66 [.ptr (.own kp) 0,kv] h (fun r h'=>r= .bool (Zo l i ks)/\h'=h):=by
 have rx:=fun o=>Qz wz hk o;unfold qta at rx;have hlv:=hv.live;have nv:=Ze hv;have hki:Zo l i ks=false:=by unfold Zo;rw[decide_eq_false hi,VZ]
 rw[hki];have hge:¬((i:Int)<l.length):=by omega
 refine qP (n:=30) (rs:=[.tmp 4]) Tryz.func66 rfl rfl rfl rfl (VL rfl) ?_;simp only[Qd];refine awp_rseq [0,1] (by rfl) fun K hK=>?_;simp+decide only[qa,ev,qH,qF,putD,VM,VN,Ka,true_and,↓qd,qb,Jr];apply hK;clear hK K;refine WP [4] mixed (by kernel_rfl) (by rfl) fun K hK=>?_;simp+decide only[ev,putD,VM,VO,Ka,true_and,↓qcP,qc,↓qbU,qO,Qm,↓Uu,qm,YL,↓qev,Xz,qz ag3,UT,qz UJ,↓qlg,QD,↓qfI,ql,qZ,cond_false,qp,Zc,↓qlh,vgP,qcp,qJ,qI,qy,implies_true,decide_false,ZM,false_implies,↓qdC,↓UY,↓qfK,WZ,↓qfL,VX,Km,Jr,qi,rx,hlv,nv,hge];refine qmv (by rfl) ?_;simp+decide only[qbw,ev,qH,qF,putD,VM,VO,VN,Ka,true_and,↓qfG,Qs,Qg,↓qco,qb];apply hK;clear hK K;refine qN ?_;refine qW h zqC (qR (Qa)) ?_;simp+decide only[VO,if_true,and_true,Ql];all_goals first|rfl|exact⟨rfl,rfl⟩|(simp+decide only[Ka, *];done)|(trace_state;fail)
theorem qma(wz:World)(h:AHeap)(kp:Nat)(v:AVal)(l:List TokC)(i:Nat)(kv:AVal)(ks:List UInt8)(hk:h kp=some (qta v i))(hv:IsL wz h 5 v (l.map QJ))(hkv:IsL wz h 1 kv (ks.map qcj))(hks:ks.length<=1000):
 ACall Tryz.prog wz 66 [.ptr (.own kp) 0,kv] h (fun r h'=>r= .bool (Zo l i ks)/\h'=h):=by
 by_cases hi:i<l.length
 ·exact c_isIn wz h kp v l i kv ks hk hv hkv hks hi
 ·exact c_isOut wz h kp v l i kv ks hk hv hkv.live hi
end Go.Proofs.YtlhhaagmakhilaaGreatDoor
namespace Go.Proofs.YtlhhaagmakhilaaGreatDoor
open Go.AM
open Go.Proofs
open Go.Col
open Go.Tok
open Go.Cop
open Go.RowKit (Below)
set_option maxRecDepth 100000
theorem qll{h:AHeap}{k:Nat}{b:Blk}(hk:h k=some b):h.set k b=h:=by
 funext j;by_cases e:j=k
 ·subst e;rw[Vd,hk]
 ·rw[Vb _ _ e]
theorem qbg{wz:World}{H:AHeap}{k:Nat}{ks:List UInt8}(hk:H k=some ⟨byteCells ks,0⟩):IsL wz H 1 (.slice (.own k) 0 ks.length (.exact ks.length)) (ks.map qcj):=by
 have hw:∀x∈ks.map qcj,x.length=1:=fun x hx=>by obtain⟨y,_,rfl⟩:=JG.1 hx;rfl
 have hc:byteCells ks=(ks.map qcj).flatten:=by
  clear hk hw;induction ks with
  |nil=>rfl
  |cons k ks ih=>rw[Kc,List.flatten_cons,<-ih];rfl
 have:=V8 (wz:=wz) (es:=1) (xs:=ks.map qcj) hk hw hc (by rw[Yc];intro x hx;obtain⟨y,_,rfl⟩:=JG.1 hx;rfl) (.exact ks.length) (by simp)
 rwa [Jo]at this
theorem qsb(wz:World)(h:AHeap)(kp:Nat)(v:AVal)(l:List TokC)(i:Nat)(s:Str)(eb_p:h kp=some ⟨[v, .int .i64 i],0⟩)(hv:IsL wz h 5 v (l.map QJ))(hl:l.length<=1099511627776)(hi:i<l.length):
 ACall Tryz.prog wz 51 [.ptr (.own kp) 0, .str s] h (fun r h'=>r= .bool (Yp l i s)/\h'=h.set kp ⟨[v, .int .i64 ((if Yp l i s=true then i+1 else i:Nat):Int)],0⟩):=by
 have hs_h:Sub h h:=Vl h;have hlv:=hv.live;have nv:=Ze hv;obtain⟨lc,o,c,rfl⟩:=Wy hv (by omega);have hki:Yp l i s=(Zo l i [1] && decide ((l.getD i ZC).text=s)):=rfl;obtain⟨kb,hkb⟩:∃kb,kb=Zo l i [1]:=⟨_,rfl⟩
 rw[<-hkb]at hki;rw[hki];refine qP (n:=31) (rs:=[.tmp 4]) Tryz.func51 rfl rfl rfl rfl (VL rfl) ?_;simp only[Qd];refine awp_rseq [0,1] (by rfl) fun K hK=>?_;simp+decide only[qa,ev,qH,qF,putD,VM,VN,Ka,true_and,↓qd,qb,Jr];apply hK;clear hK K;refine qL ?_;refine qdr [0,1,2,3,4,5,6,7,8,9,10,11,12,13,14,15,16,17,18] [none,none,some 1,some 2,some 3,some 4,some 5,some 6,some 7,some 4,some 9,some 10,some 11,some 8,some 13,some 14,some 4,some 15,some 4] 19 [0,23] mixed (by kernel_rfl) (by rfl) fun K hK=>?_;simp only[Zk,VI,Ec,Ky,KL];simp+decide only[qa,ev,putD,VM,VO,Ka,true_and,qbt,qbK,Yv,↓qh,qc];refine Qn (cs:=byteCells [1]) (by kernel_rfl) fun k1q1 hk1q1=>?_;have hn_1q1:h k1q1=none:=by first|assumption|(simp only[V7]at hk1q1;simp only[hk1q1])
 have hf_1q1:h k1q1=none:=Bg hs_h hn_1q1;have ne_1q1_p:k1q1≠kp:=Bh hn_1q1 eb_p;rw[qa];refine And.intro (by first|exact Vl _|assumption|exact Vg (by assumption)) ?_;simp+decide only[putD,VM,if_false];refine qM (V:= .bool kb) (by rfl) (by rfl) (by rw[hkb];exact qma wz _ kp _ l i _ [1] zqA (hv.mono zqB) (qbg (k:=k1q1) (ks:=[1]) zqA) (by decide)) ?_;rw[qa];refine And.intro (by first|exact Vl _|assumption|exact Vg (by assumption)) ?_;simp+decide only[qa,ev,qH,qF,putD,VM,VO,VN,Ka,true_and,Yv,↓Yz,XP,Yk,qc,↓Xe,agP,Qt,qJ,qI,Qe,implies_true,Bool.not_not,↓Ym,qO,Qm,qbM,qbN,↓XI,qm,UT,ZH,ZI,↓Zy,Zd,Ud,agL_ld5,qz UJ,YL,qz ag3,↓Yh,agL_il5,agL_ir5,Qh Tryz.underlying26 QW,qag,qz ag9,↓Xb,ql,qZ,cond_false,XZ,qbl,Za,qbm,Zl,qfr,↓QR,Qs,Qg,qfd,ZF,QL,ne_eq,not_false_eq_true,ne_1q1_p.symm,Qz wz eb_p,VX,Km,Jr,qi,qE,hlv,Vq,K6,(qar (hv.mono (Vg hn_1q1)) hi).2.1];repeat (with_reducible refine And.intro ?_ ?_;· first|trivial|omega|(intro hg;simp only[Kw,JV,Ji,VP,VQ,VS,decide_eq_true_eq,decide_eq_false_iff_not,XT]at hg;omega))
 apply hK;clear hK K;refine qK (b:=_) rfl (fun hb1=>?_) (fun hb1=>?_)
 ·try simp only[decide_eq_false_iff_not,Ji,JV]at hb1
  refine awp_rseq [4] (by rfl) fun K hK=>?_;simp+decide only[qa,ev,qH,qF,putD,VM,VN,Ka,true_and,↓qd,qb];apply hK;clear hK K;refine qN ?_;try simp only[Qf]
  refine QS (qR (Qa)) ?_;simp+decide only[VO,if_true,Ql];have hf:(kb && decide ((l.getD i ZC).text=s))=false:=by
   rcases hb1 with q|q
   ·rw[q];rfl
   ·rw[decide_eq_false q,BK]
  exact⟨h,Vg hn_1q1,by rw[hf],by rw[hf];exact(qll eb_p).symm⟩
 ·try simp only[decide_eq_true_eq,VS,VQ]at hb1
  refine qV ?_;change Awp _ _ _ _ _ _ _;refine awp_rseq [] (by rfl) fun K hK=>?_;simp+decide only[ev,qH,qF,putD,VM,VO,Ka,true_and,↓qh,qc,↓Qj,qO,Qm,↓qD,qm,YL,↓qG,Qb,qz ag3,↓qA,ql,qC,cond_false,qp,Xc,QL,ne_eq,not_false_eq_true,ne_1q1_p.symm,Qz wz eb_p,VX,Km,Jr,qi];try simp(disch:=omega)only[wrap_i64]
  refine qo (by rfl) (by rfl) zqA sz3 (by rfl) (by rfl) zqD (Js _) (by rfl) ?_;simp only[VV];simp+decide only[qa,ev,putD,VO,VN,Ka,setAt,VW,Ki];apply hK;clear hK K;refine awp_rseq [4] (by rfl) fun K hK=>?_;simp+decide only[qa,ev,qH,qF,putD,VM,VN,if_true,true_and,↓qd,qb];apply hK;clear hK K;refine qN ?_;refine QS (qR (Qa)) ?_;simp+decide only[VO,if_true,Ql];have hf:(kb && decide ((l.getD i ZC).text=s))=true:=by
   simp only[Kw,decide_eq_true_eq];simpa using hb1
  exact⟨h.set kp ⟨[.slice lc o l.length c, .int .i64 ((i+1:Nat):Int)],0⟩,V9 (Vg hn_1q1) _ _,by rw[hf],by rw[hf];rfl⟩
theorem qoO(wz:World)(h:AHeap)(kp:Nat)(v:AVal)(l:List TokC)(i:Nat)(s:Str)(eb_p:h kp=some ⟨[v, .int .i64 i],0⟩)(hv:IsL wz h 5 v (l.map QJ))(hi:¬i<l.length):
 ACall Tryz.prog wz 51 [.ptr (.own kp) 0, .str s] h (fun r h'=>r= .bool (Yp l i s)/\h'=h.set kp ⟨[v, .int .i64 ((if Yp l i s=true then i+1 else i:Nat):Int)],0⟩):=by
 have hs_h:Sub h h:=Vl h;have hlv:=hv.live;have nv:=Ze hv;have hk0:Zo l i [1]=false:=by unfold Zo;rw[decide_eq_false hi,VZ]
 have hki:Yp l i s=false:=by unfold Yp;rw[hk0,VZ]
 rw[hki];refine qP (n:=31) (rs:=[.tmp 4]) Tryz.func51 rfl rfl rfl rfl (VL rfl) ?_;simp only[Qd];refine awp_rseq [0,1] (by rfl) fun K hK=>?_;simp+decide only[qa,ev,qH,qF,putD,VM,VN,Ka,true_and,↓qd,qb,Jr];apply hK;clear hK K;refine qL ?_;refine qdr [0,1,2,3,4,5,6,7,8,9,10,11,12,13,14,15,16,17,18] [none,none,some 1,some 2,some 3,some 4,some 5,some 6,some 7,some 4,some 9,some 10,some 11,some 8,some 13,some 14,some 4,some 15,some 4] 19 [0,23] mixed (by kernel_rfl) (by rfl) fun K hK=>?_;simp only[Zk,VI,Ec,Ky,KL];simp+decide only[qa,ev,putD,VM,VO,Ka,true_and,qbt,qbK,Yv,↓qh,qc];refine Qn (cs:=byteCells [1]) (by kernel_rfl) fun k1q1 hk1q1=>?_;have hn_1q1:h k1q1=none:=by first|assumption|(simp only[V7]at hk1q1;simp only[hk1q1])
 have hf_1q1:h k1q1=none:=Bg hs_h hn_1q1;have ne_1q1_p:k1q1≠kp:=Bh hn_1q1 eb_p;rw[qa];refine And.intro (by first|exact Vl _|assumption|exact Vg (by assumption)) ?_;simp+decide only[putD,VM,if_false];refine qM (V:= .bool false) (by rfl) (by rfl) (by rw[<-hk0];exact qma wz _ kp _ l i _ [1] zqA (hv.mono zqB) (qbg (k:=k1q1) (ks:=[1]) zqA) (by decide)) ?_;rw[qa];refine And.intro (by first|exact Vl _|assumption|exact Vg (by assumption)) ?_;simp+decide only[qa,ev,qH,qF,putD,VM,VO,VN,Ka,true_and,Yv,↓Yz,XP,Yk,qc,↓Xe,agP,Qt,qJ,qI,Qe,implies_true,Ed,VY,ZM,false_implies,qde,qhu,↓Ym,qO,↓XI,qm,↓Zy,Zd,↓Yh,↓Xb,ql,qZ,cond_false,↓QR,Qs,Qg];apply hK;clear hK K;refine qK (b:=_) rfl (fun hb1=>?_) (fun hb1=>?_)
 ·try simp only at hb1
  refine awp_rseq [4] (by rfl) fun K hK=>?_;simp+decide only[qa,ev,qH,qF,putD,VM,VN,Ka,true_and,↓qd,qb];apply hK;clear hK K;refine qN ?_;try simp only[Qf]
  refine qW h zqC (qR (Qa)) ?_;simp+decide only[VO,Ka,true_and,Ql];exact(qll eb_p).symm
 ·exact absurd hb1 (by decide)
theorem c_wordP(wz:World)(h:AHeap)(kp:Nat)(v:AVal)(l:List TokC)(i:Nat)(s:Str)(eb_p:h kp=some ⟨[v, .int .i64 i],0⟩)(hv:IsL wz h 5 v (l.map QJ))(hl:l.length<=1099511627776):
 ACall Tryz.prog wz 51 [.ptr (.own kp) 0, .str s] h (fun r h'=>r= .bool (Yp l i s)/\h'=h.set kp ⟨[v, .int .i64 ((if Yp l i s=true then i+1 else i:Nat):Int)],0⟩):=by
 by_cases hi:i<l.length
 ·exact qsb wz h kp v l i s eb_p hv hl hi
 ·exact qoO wz h kp v l i s eb_p hv hi
end Go.Proofs.YtlhhaagmakhilaaGreatDoor
namespace Go.Proofs.YtlhhaagmakhilaaGreatDoor
open Go.AM
open Go.Proofs
open Go.Col
open Go.Tok
open Go.Cop
open Go.RowKit (Below)
set_option maxRecDepth 100000
def qfe(v:AVal)(o:Opd):AVal:=if o.ok=true then qfR 5 v o.lo o.hi else .nilSlice
theorem qhE{l:List TokC}{i:Nat}(hi:i<l.length):(ZE l i=if (l.getD i noT).kind=7 then i else ZE l (i+1)):=by
 unfold ZE;rw[qeR noT hi,Ea];split
 ·rename_i h
  rw[if_neg (by simpa using h),KX];omega
 ·rename_i h
  rw[if_pos (by simpa using h)];rfl
theorem qoi{l:List TokC}{i:Nat}(hi:l.length<=i):ZE l i=i:=by
 unfold ZE;rw[Vt hi];rfl
theorem qjc{l:List TokC}{i:Nat}(hi:i<l.length):Zo l i [7]=decide ((l.getD i noT).kind=7):=by
 unfold Zo;rw[decide_eq_true hi,Vf];simp
set_option maxHeartbeats 1000000 in
theorem qoV(wz:World)(B:AHeap)(kp:Nat)(v:AVal)(l:List TokC)(i:Nat)(e:Bool)(hb:B kp=none)(hv:IsL wz B 5 v (l.map QJ))(hl:l.length<=1099511627776)(hi:i<=l.length):
 ACall Tryz.prog wz 85 [.ptr (.own kp) 0, .bool e] (B.set kp ⟨[v, .int .i64 i],0⟩) (fun r h'=>r= .tuple [qfe v (Xd l i e), .bool (Xd l i e).ok]/\h'=B.set kp ⟨[v, .int .i64 (Xd l i e).at_],0⟩):=by
 have hlv:=hv.live;have nv:=Ze hv;obtain⟨H0,hH0⟩:∃H0,H0=B.set kp ⟨[v, .int .i64 i],0⟩:=⟨_,rfl⟩
 have hs_H0:Sub B H0:=by rw[hH0];exact Vg hb
 have eb_p:H0 kp=some ⟨[v, .int .i64 i],0⟩:=by rw[hH0];exact Vd _ _ _
 rw[<-hH0];obtain⟨k1,hk1⟩:∃k,k=Zo l i [1,2,3]:=⟨_,rfl⟩
 obtain⟨k2,hk2⟩:∃k,k=Zo l i [7]:=⟨_,rfl⟩
 obtain⟨O,ho⟩:∃O,O=Xd l i e:=⟨_,rfl⟩
 rw[<-ho];unfold Xd at ho;rw[<-hk1,<-hk2]at ho;refine qP (n:=107) (rs:=[.tmp 4, .tmp 5]) Tryz.func85 rfl rfl rfl rfl (VL rfl) ?_;simp only[Qd];refine awp_rseq [0,1] (by rfl) fun K hK=>?_;simp+decide only[qa,ev,qH,qF,putD,VM,VN,Ka,true_and,↓qd,qb,Jr];apply hK;clear hK K;refine awp_rseq [0,1,6] (by rfl) fun K hK=>?_;simp+decide only[qa,ev,putD,VM,VO,VN,Ka,true_and,↓qh,qc,↓Qj,qO,Qm,↓qD,qm,YL,↓qG,Qb,qz ag3,↓qd,qb,Qz wz eb_p,VX,Km,Jr,qi];apply hK;clear hK K;refine qL ?_;refine awp_rseq [0,1,6,13] (by rfl) fun K hK=>?_;simp+decide only[ev,putD,VM,VO,Ka,true_and,↓qh,qc];refine Qn (cs:=byteCells [1,2,3]) (by kernel_rfl) fun k2q1 hk2q1=>?_;have hn_2q1:H0 k2q1=none:=by first|assumption|(simp only[V7]at hk2q1;simp only[hk2q1])
 have hf_2q1:B k2q1=none:=Bg hs_H0 hn_2q1;have ne_2q1_p:k2q1≠kp:=Bh hn_2q1 eb_p;refine qM (V:= .bool k1) (by rfl) (by rfl) (by rw[hk1];exact qma wz _ kp _ l i _ [1,2,3] zqA (hv.mono zqB) (qbg (k:=k2q1) (ks:=[1,2,3]) zqA) (by decide)) ?_;simp+decide only[qa,putD,VM,VN,Ka];apply hK;clear hK K;refine qK (b:=_) rfl (fun hb1=>?_) (fun hb1=>?_)
 ·skip
  have hlt:i<l.length:=Uz (hk1.symm.trans hb1);have hsl:=hv.slice Tryz.underlying26 QW (some (.int .i64 i)) (some (.int .i64 ((i:Int)+1))) (l:=i) (r:=(i:Int)+1) rfl rfl (by omega) (by omega) (by rw[Jo];omega);refine awp_rseq [0,6] (by rfl) fun K hK=>?_;simp+decide only[ev,qH,qF,putD,VM,VO,Ka,true_and,↓qh,qc,↓Qj,qO,Qm,↓qD,qm,YL,↓qG,Qb,qz ag3,↓qA,ql,qC,cond_false,qp,Xc,QL,ne_eq,not_false_eq_true,ne_2q1_p.symm,Qz wz eb_p,VX,Km,Jr,qi];try simp(disch:=omega)only[wrap_i64]
  refine qo (by rfl) (by rfl) zqA sz3 (by rfl) (by rfl) zqD (Js _) (by rfl) ?_;simp only[VV];simp+decide only[qa,ev,putD,VO,VN,Ka,setAt,VW,Ki];apply hK;clear hK K;refine Zj [4,5] mixed (by kernel_rfl) (by rfl) (by rfl) fun K hK=>?_;simp+decide only[qa,ev,qH,qF,putD,VM,VO,VN,Ka,true_and,↓qh,qc,↓Qj,qO,Qm,↓qD,qm,UT,↓qG,Qb,qz UJ,YL,qz ag3,↓WU,Zt,evO,↓qd,qb,QP,VX,Km,Jr,qi,hlv,hsl];apply hK;clear hK K;refine qN ?_;try simp only[Qf]
  refine QS (qR (qR (Qa))) ?_;simp+decide only[VO,Ka,WA];rw[if_pos hb1]at ho;refine⟨B.set kp ⟨[v, .int .i64 ((i:Int)+1)],0⟩,?_,?_,?_⟩
  ·exact V9 zqB _ _
  ·rw[ho];rfl
  ·rw[ho];rfl
 ·skip
  refine qV ?_;change Awp _ _ _ _ _ _ _;refine qL ?_;refine awp_rseq [0,1,6,34] (by rfl) fun K hK=>?_;simp+decide only[ev,putD,VM,VO,Ka,true_and,↓qh,qc];refine Qn (cs:=byteCells [7]) (by kernel_rfl) fun k5q1 hk5q1=>?_;have ne_5q1_2q1:k5q1≠k2q1:=by simp only[V7]at hk5q1;simp only[hk5q1,ne_eq,not_false_eq_true]
  have hn_5q1:H0 k5q1=none:=by first|assumption|(simp only[V7]at hk5q1;simp only[hk5q1])
  have hf_5q1:B k5q1=none:=Bg hs_H0 hn_5q1;have ne_5q1_p:k5q1≠kp:=Bh hn_5q1 eb_p;refine qM (V:= .bool k2) (by rfl) (by rfl) (by rw[hk2];exact qma wz _ kp _ l i _ [7] zqA (hv.mono zqB) (qbg (k:=k5q1) (ks:=[7]) zqA) (by decide)) ?_;simp+decide only[qa,ev,putD,VM,VO,VN,Ka,true_and,↓Yz,XP,Yk];apply hK;clear hK K;refine qK (b:=_) rfl (fun hb2=>?_) (fun hb2=>?_)
  ·try simp only[Ji]at hb2
   refine awp_rseq [4,5] (by rfl) fun K hK=>?_;simp+decide only[qa,ev,qH,qF,putD,VM,VN,Ka,true_and,↓qd,qb];apply hK;clear hK K;refine qN ?_;try simp only[Qf]
   refine QS (qR (qR (Qa))) ?_;simp+decide only[VO,Ka,WA];rw[if_neg (by rw[hb1];decide),if_pos (by simpa using hb2)]at ho;refine⟨H0,zqB,?_,?_⟩
   ·rw[ho];rfl
   ·rw[ho];exact hH0
  ·try simp only[VS]at hb2
   have hlt:i<l.length:=Uz (ks:=[7]) (by rw[<-hk2];simpa using hb2);rw[if_neg (by rw[hb1];decide),if_neg (by simpa using hb2)]at ho;refine qV ?_;change Awp _ _ _ _ _ _ _;refine awp_rseq [0,1,6] (by rfl) fun K hK=>?_;simp+decide only[ev,qH,qF,putD,VM,VO,Ka,true_and,↓qh,qc,↓Qj,qO,Qm,↓qD,qm,YL,↓qG,Qb,qz ag3,↓qA,ql,qC,cond_false,qp,Xc,QL,ne_eq,not_false_eq_true,ne_2q1_p.symm,ne_5q1_p.symm,Qz wz eb_p,VX,Km,Jr,qi];try simp(disch:=omega)only[wrap_i64]
   refine qo (by rfl) (by rfl) zqA sz3 (by rfl) (by rfl) zqD (Js _) (by rfl) ?_;simp only[VV];simp+decide only[qa,ev,putD,VO,VN,Ka,setAt,VW,Ki];apply hK;clear hK K;refine qL ?_;refine Qp ?_;refine XE [0,1,6] (fun j:Nat=>[(0, .ptr (.own kp) 0),(1, .bool e),(6, .int .i64 i)]) (fun j:Nat=>B.set kp ⟨[v, .int .i64 j],0⟩) (fun j:Nat=>i+1<=j/\j<=l.length/\ZE l j=ZE l (i+1)) (fun j:Nat=>l.length-j) (i+1) (by rfl) (V9 zqB _ _) ⟨KJ _,hlt,rfl⟩ ?_;rintro j ⟨hj1,hj2,hj3⟩;obtain⟨H1,hH1⟩:∃H1,H1=B.set kp ⟨[v, .int .i64 j],0⟩:=⟨_,rfl⟩
   have hs_H1:Sub B H1:=by rw[hH1];exact Vg hb
   have eb_p:H1 kp=some ⟨[v, .int .i64 j],0⟩:=by rw[hH1];exact Vd _ _ _
   rw[<-hH1];refine qL ?_;refine qdr [0,1,2,3,4,5,6,7,8,9,10,11,12,13,14,15] [none,none,none,none,none,none,none,none,none,none,none,none,none,some 12,some 13,some 14] 16 [0,1,6,57] mixed (by kernel_rfl) (by rfl) fun K hK=>?_;simp only[Zk,VI,Ec,Ky,KL];simp+decide only[qa,ev,putD,VM,VO,Ka,true_and,qbt,qbK,Yv,↓qh,qc,↓Qj,qO,Qm,↓qD,qm,YL,↓qG,Qb,qz ag3,UT,qz UJ,↓Xt,QD,↓qA,ql,qZ,cond_false,qp,Zc,↓Xe,agP,Qt,qJ,qI,qy,implies_true,Qz wz eb_p,VX,Km,Jr,qi,hlv,nv];refine qhV (cs:=byteCells [7]) (g:= .bool (decide ((j:Int)<l.length))) (by rfl) (by rfl) (fun _=>by kernel_rfl) fun k8q12 h8q12 hs8 hb8=>?_;have hs_h8q12:Sub B h8q12:=BJ zqC hs8;have hr_h8q12:Sub H1 h8q12:=BJ zqC hs8;have eb_p:=hs8 kp _ zqA;rw[qa];refine And.intro (by first|exact Vl _|assumption|exact Vg (by assumption)) ?_;simp+decide only[putD,VM,if_false,qy];first
   |(refine ZY (by rfl) ?_;refine qM (V:= .bool (Zo l j [7])) (by rfl) (by rfl) (by
    have hq0:(decide ((j:Int)<l.length)==true)=true:=hg;have hq:decide ((j:Int)<l.length)=true:=by simpa using hq0
    exact qma wz _ kp _ l j _ [7] zqA (hv.mono zqB) (qbg (k:=k8q12) (ks:=[7]) (hb8 hq0)) (by decide)) ?_)
   |(refine UN (by rfl) (by rfl) ?_)
   |(refine XW (V:= .bool (Zo l j [7])) (f:=_) (cap:=_) (xs:=_) (by first|rfl|(simp+decide only[gv,qJ,VO,Ka,QZ,qI])) (fun hg=>⟨rfl,?_⟩) (fun hg=>by
    have hq0:(decide ((j:Int)<l.length)==true)=true:=hg;have hq:decide ((j:Int)<l.length)=true:=by simpa using hq0
    exact qma wz _ kp _ l j _ [7] zqA (hv.mono zqB) (qbg (k:=k8q12) (ks:=[7]) (hb8 hq0)) (by decide)) ?_;· (simp+decide only[gv,qJ,VO,Ka,qy]at hg;simp+decide only[evs,ev,VO,Ka,hg,Qy,Be,Kc,Vj]<;>try rfl))
   rw[qa];refine And.intro (by first|exact Vl _|assumption|exact Vg (by assumption)) ?_;simp+decide only[qa,ev,qH,qF,putD,VM,VO,VN,Ka,true_and,Yv,gv,qJ,qy,↓qcd,XP,agP,Qt,qI,implies_true,Yk,qkT,qkV,↓QR,Qs,Qg,Xn,Xp];apply hK;clear hK K;refine qK (b:=_) rfl (fun hb3=>?_) (fun hb3=>?_)
   ·try simp only[decide_eq_true_eq,Ji,Kw]at hb3
    have hj4:j<l.length:=by omega
    have hst:=qhE hj4;have hk8:=qjc hj4;rw[hb3.2]at hk8;rw[if_neg (by simpa using hk8.symm)]at hst;refine qV ?_;change Awp _ _ _ _ _ _ _;refine Qp ?_;refine XL [0,1,6] (by rfl) ?_;simp+decide only[ev,qH,qF,putD,VM,VO,Ka,true_and,↓qh,qc,↓Qj,qO,Qm,↓qD,qm,YL,↓qG,Qb,qz ag3,↓qA,ql,qC,cond_false,qp,Xc,Qz wz eb_p,VX,Km,Jr,qi];try simp(disch:=omega)only[wrap_i64]
    refine qo (by rfl) (by rfl) zqA sz3 (by rfl) (by rfl) zqD (Js _) (by rfl) ?_;simp only[VV];simp+decide only[qa,ev,putD,VO,VN,Ka,setAt,VW,Ki];try simp only[Qi,YO]
    exact⟨j+1,rfl,V9 zqB _ _,⟨by omega,hj4,by rw[<-hst];exact hj3⟩,by omega⟩
   ·try simp only[decide_eq_false_iff_not,VS,VP]at hb3
    have hje:ZE l (i+1)=j:=by
     rw[<-hj3];rcases KT j l.length with hj4|hj4
     ·have hk8:=qjc hj4
      rcases hb3 with q|q
      ·omega
      ·rw[q]at hk8
       rw[qhE hj4,if_pos (by simpa using hk8.symm)]
     ·exact qoi hj4
    rw[hje]at ho;refine XJ ?_;change Awp _ _ _ _ _ _ _;refine qL ?_;refine Zj [0,6,87] mixed (by kernel_rfl) (by rfl) (by rfl) fun K hK=>?_;simp+decide only[qa,ev,qH,qF,putD,VM,VO,VN,Ka,true_and,↓qh,qc,↓Qj,qO,Qm,↓qD,qm,YL,↓qG,Qb,qz ag3,UT,qz UJ,↓Xt,QD,↓qA,ql,qZ,cond_false,qp,XH,↓Xe,agP,Qt,qJ,qI,QZ,YD,qy,Qe,qnu,implies_true,↓qcd,XP,Yk,qkT,qkV,↓Ym,qbM,qbN,↓XI,ZH,ZI,↓Zy,Zd,Ud,qpW,↓Xb,qC,XZ,qbl,Za,qbm,Xc,↓qgK,Qs,Qg,XO,qgA,Xp,ZF,qgy,qgz,↓QR,Qz wz eb_p,VX,Km,Jr,qi,hlv,nv];try simp(disch:=omega)only[wrap_i64]
    apply hK;clear hK K;refine qK (b:=_) rfl (fun hb4=>?_) (fun hb4=>?_)
    ·try simp only[decide_eq_true_eq,Ji,Kw,JV]at hb4
     refine awp_rseq [4,5] (by rfl) fun K hK=>?_;simp+decide only[qa,ev,qH,qF,putD,VM,VN,Ka,true_and,↓qd,qb];apply hK;clear hK K;refine qN ?_;try simp only[Qf]
     refine QS (qR (qR (Qa))) ?_;simp+decide only[VO,Ka,WA];rw[if_pos (by
      rcases hb4 with q|⟨q1,q2⟩
      ·left;omega
      ·exact .inr ⟨q1,by omega⟩)]at ho
     refine⟨H1,zqB,?_,?_⟩
     ·rw[ho];rfl
     ·rw[ho];exact hH1
    ·try simp only[decide_eq_false_iff_not,VS,VP,VQ]at hb4
     rw[if_neg (by
      rintro(q|⟨q1,q2⟩)
      ·omega
      ·obtain⟨-,z⟩:=hb4
       rcases z with z|z
       ·rw[q1]at z;cases z
       ·omega)]at ho
     have hsl:=hv.slice Tryz.underlying26 QW (some (.int .i64 ((i:Int)+1))) (some (.int .i64 (j:Int))) (l:=(i:Int)+1) (r:=(j:Int)) rfl rfl (by omega) (by omega) (by rw[Jo];omega);refine qV ?_;change Awp _ _ _ _ _ _ _;refine awp_rseq [0,6] (by rfl) fun K hK=>?_;simp+decide only[ev,qH,qF,putD,VM,VO,Ka,true_and,↓qh,qc,↓Qj,qO,Qm,↓qD,qm,YL,↓qG,Qb,qz ag3,↓qA,ql,qC,cond_false,qp,Xc,Qz wz eb_p,VX,Km,Jr,qi];try simp(disch:=omega)only[wrap_i64]
     refine qo (by rfl) (by rfl) zqA sz3 (by rfl) (by rfl) zqD (Js _) (by rfl) ?_;simp only[VV];simp+decide only[qa,ev,putD,VO,VN,Ka,setAt,VW,Ki];apply hK;clear hK K;refine Zj [4,5] mixed (by kernel_rfl) (by rfl) (by rfl) fun K hK=>?_;simp+decide only[ev,qH,qF,putD,VM,VO,Ka,true_and,↓qh,qc,↓Qj,qO,Qm,↓qD,qm,UT,↓qG,Qb,qz UJ,↓qA,ql,qC,cond_false,qp,Xc,YL,qz ag3,qad,QP,VX,Km,Jr,qi,hlv,Int.add_sub_cancel];try simp(disch:=omega)only[wrap_i64]
     try simp+decide only[qa,ev,qH,qF,putD,VM,VO,VN,Ka,true_and,↓WU,Zt,evO,↓qd,qb,hsl]
     apply hK;clear hK K;refine qN ?_;refine QS (qR (qR (Qa))) ?_;simp+decide only[VO,Ka,WA];refine⟨B.set kp ⟨[v, .int .i64 ((j:Int)+1)],0⟩,?_,?_,?_⟩
     ·exact V9 zqB _ _
     ·rw[ho];rfl
     ·rw[ho];rfl
end Go.Proofs.YtlhhaagmakhilaaGreatDoor
namespace Go.Proofs.YtlhhaagmakhilaaGreatDoor
open Go.AM
open Go.Proofs
open Go.Col
open Go.Tok
open Go.Cop
open Go.RowKit (Below)
set_option maxRecDepth 100000
theorem qlY{H:AHeap}{k:Nat}(b:Blk):(H.del k).set k b=H.set k b:=by
 funext j;by_cases e:j=k<;>simp[Bd,Vk,e]
theorem Yb{H:AHeap}(k:Nat):H.del k k=none:=by simp[Vk]
theorem qbV{B H:AHeap}{k:Nat}(hs:Sub B H)(hb:B k=none):Sub B (H.del k):=fun j b hj=>by
 have hne:j≠k:=fun e=>by subst e;rw[hb]at hj;cases hj
 simp only[Vk,hne,if_false];exact hs j b hj
theorem Zv{B H:AHeap}{k:Nat}(hs:Sub B H)(hb:B k=none)(b:Blk):Sub B (H.set k b):=fun j c hj=>by
 have hne:j≠k:=fun e=>by subst e;rw[hb]at hj;cases hj
 rw[Vb _ _ hne];exact hs j c hj
theorem qfz(wz:World)(H B:AHeap)(kp:Nat)(v:AVal)(l:List TokC)(i:Nat)(e:Bool)(hk:H kp=some ⟨[v, .int .i64 i],0⟩)(hs:Sub B H)(hb:B kp=none)(hv:IsL wz B 5 v (l.map QJ))(hl:l.length<=1099511627776)(hi:i<=l.length):
 ACall Tryz.prog wz 85 [.ptr (.own kp) 0, .bool e] H (fun r h'=>r= .tuple [qfe v (Xd l i e), .bool (Xd l i e).ok]/\h'=H.set kp ⟨[v, .int .i64 (Xd l i e).at_],0⟩):=by
 have:=qoV wz (H.del kp) kp v l i e (Yb kp) (hv.mono (qbV hs hb)) hl hi;simp only[qlY]at this
 rwa [qll hk]at this
theorem qdW{wz:World}{h:AHeap}{v:AVal}{l:List TokC}(hv:IsL wz h 5 v (l.map QJ)){o:Opd}(h1:o.lo<=o.hi)(h2:o.hi<=l.length)(ok:o.ok=true):IsL wz h 5 (qfe v o) ((qcl l o.lo o.hi).map QJ):=by
 have:=hv.sub (i:=o.lo) (j:=o.hi) h1 (by rw[Jo];exact h2);unfold qfe qcl;rw[if_pos ok,List.map_take,List.map_drop];exact this
theorem qfu{wz:World}{h:AHeap}{v:AVal}{l:List TokC}(hv:IsL wz h 5 v (l.map QJ))(o:Opd):(qfe v o).scal=true:=by
 unfold qfe;split
 ·generalize l.map QJ=xs at hv
  cases hv with
  |nil=>rfl
  |mk lc of n c xs hn hw hc hl hcap=>cases c<;>rfl
 ·rfl
theorem isL_Sc{wz:World}{h:AHeap}{es:Nat}{v:AVal}{xs:List (List AVal)}(hv:IsL wz h es v xs):Sc v:=by
 cases hv with
 |nil=>trivial
 |mk lc o n c xs hn hw hc hl hcap=>trivial
theorem operV_Sc{wz:World}{h:AHeap}{v:AVal}{l:List TokC}(hv:IsL wz h 5 v (l.map QJ))(o:Opd):Sc (qfe v o)=True:=by
 refine eq_true ?_;unfold qfe;split
 ·generalize l.map QJ=xs at hv
  cases hv with
  |nil=>trivial
  |mk lc of n c xs hn hw hc hl hcap=>cases c<;>trivial
 ·trivial
abbrev RepQ:=RepC×AVal×AVal
def UC(q:RepQ):List AVal:=[q.2.1,q.2.2]
structure RepOk(wz:World)(h:AHeap)(q:RepQ):Prop where
 old:IsL wz h 5 q.2.1 (q.1.old.map QJ)
 new:IsL wz h 5 q.2.2 (q.1.new.map QJ)
theorem RepOk.mono{wz:World}{h h':AHeap}{q:RepQ}(hq:RepOk wz h q)(hs:Sub h h'):RepOk wz h' q:=⟨hq.old.mono hs,hq.new.mono hs⟩
def PairR(wz:World)(B:AHeap)(p:Pair)(r:AVal):Prop:=∃ov nv,r= .tuple [.agg [ov,nv], .bool p.ok]/\ov.scal=true/\nv.scal=true/\(p.ok=true->RepOk wz B (p.rep,ov,nv))
theorem qse(wz:World)(H B:AHeap)(kp:Nat)(v:AVal)(l:List TokC)(i:Nat)(eb_p:H kp=some ⟨[v, .int .i64 i],0⟩)(hs_H:Sub B H)(hb:B kp=none)(hv:IsL wz B 5 v (l.map QJ))(hl:l.length<=1099511627776)(hi:i<=l.length)(hok:(Xd l i false).ok=false):
 ACall Tryz.prog wz 67 [.ptr (.own kp) 0] H (fun r h'=>PairR wz B (YU l i) r/\h'=H.set kp ⟨[v, .int .i64 (YU l i).at_],0⟩):=by
 have hp:YU l i=⟨false,⟨[],[]⟩,(Xd l i false).at_⟩:=by unfold YU;simp only[hok,if_true]
 rw[hp];have hlv:=hv.live;have hss:=qfu hv (Xd l i false);have hsl:=YF hss;obtain⟨ov,hov⟩:∃ov,ov=qfe v (Xd l i false):=⟨_,rfl⟩
 rw[<-hov]at hss hsl;refine qP (n:=29) (rs:=[.cell 2 46, .tmp 3]) Tryz.func67 rfl rfl rfl rfl (VL rfl) ?_;simp only[Qd];refine awp_rseq [0,2] (by rfl) fun K hK=>?_;refine Qk qpY (cs:=[.nilSlice, .nilSlice]) (by rfl) fun k0q0 hk0q0=>?_;have hn_0q0:H k0q0=none:=by first|assumption|(simp only[V7]at hk0q0;simp only[hk0q0])
 have hf_0q0:B k0q0=none:=Bg hs_H hn_0q0;have ne_0q0_p:k0q0≠kp:=Bh hn_0q0 eb_p;simp+decide only[qa,ev,qH,qF,putD,VM,VN,Ka,true_and,↓qd,qb];apply hK;clear hK K;refine awp_rseq [0,2,4,5] (by rfl) fun K hK=>?_;simp+decide only[ev,putD,VM,VO,Ka,true_and,↓qh,qc];refine QO (by rfl) (by rfl) (qfz wz _ B kp v l i false zqA zqB hb hv hl hi) fun x1q1 h1q1 hx1q1=>?_;rw[<-hov,hok]at hx1q1;obtain⟨rfl,rfl⟩:=hx1q1;simp+decide only[qa,ev,putD,VM,VO,VN,Ka,true_and,↓qh,qc,↓QV,QI,QT,KX,J8,VX,Km,↓qd,qb,VX,Km,Jr,Nat.reduceAdd];apply hK;clear hK K;refine qL ?_;refine awp_rseq [0,2,4,18] (by rfl) fun K hK=>?_;simp+decide only[ev,putD,VM,VO,Ka,true_and,↓qh,qc,↓Yz,XP,Yk,↓Xe,agP,Qt,qJ,qI,Qe,implies_true,Ed,VY,ZM];refine UN (by rfl) (by rfl) ?_;simp+decide only[qa,ev,qH,qF,putD,VM,VO,VN,Ka,true_and,qJ,Qe,↓qcd,XP,agP,Qt,qI,VY,ZM,false_implies,qde,↓QR,Qs,Qg];apply hK;clear hK K;refine qK (b:=_) rfl (fun hb1=>?_) (fun hb1=>?_)
 ·try simp only at hb1
  refine awp_rseq [2,3] (by rfl) fun K hK=>?_;simp+decide only[ev,qH,qF,putD,VM,VO,if_false,true_and,↓Qr,↓qY,bld46_,evP,Vj];refine qo (by rfl) (by rfl) zqA qcr (by rfl) (by rfl) zqD (Js _) (by first|rfl|(simp+decide only[ev,putD,VM,VO,Ka,VV,QG,JS,Vf,hss])) ?_;simp only[VV];simp+decide only[qa,ev,qH,qF,putD,VM,VO,VN,Ka,true_and,↓qd,qb,setAt,VW,Ki,Jr];apply hK;clear hK K;refine qN ?_;try simp only[Qf]
  refine QS (?_) ?_
  ·simp+decide only[QC,qw,qj,VO,Ka,and_true,qw,qj,qg qnO qcr,Qc,qf,VX,Km,Jr,QU,allLive,JS,qf,VX,Km,Jr,QU,allLive,JS]
  simp+decide only[VO,Ka,Xi,qw,qj,qg qnO qcr,Qc,qf,VX,Km,Jr,QU,allLive,JS,qf,VX,Km,Jr,QU,allLive,JS];refine⟨H.set kp ⟨[v, .int .i64 (Xd l i false).at_],0⟩,V3 (V9 (Vg hn_0q0) _ _) ((Vb _ _ ne_0q0_p).trans hn_0q0),⟨.nilSlice, .nilSlice,rfl,rfl,rfl,fun q=>by cases q⟩,rfl⟩
 ·exact absurd hb1 (by decide)
theorem qlZ(wz:World)(H B:AHeap)(kp:Nat)(v:AVal)(l:List TokC)(i:Nat)(s:Str)(hk:H kp=some ⟨[v, .int .i64 i],0⟩)(hs:Sub B H)(hv:IsL wz B 5 v (l.map QJ))(hl:l.length<=1099511627776):
 ACall Tryz.prog wz 51 [.ptr (.own kp) 0, .str s] H (fun r h'=>r= .bool (Yp l i s)/\h'=H.set kp ⟨[v, .int .i64 ((if Yp l i s=true then i+1 else i:Nat):Int)],0⟩):=c_wordP wz H kp v l i s hk (hv.mono hs) hl
theorem qoU(wz:World)(H B:AHeap)(kp:Nat)(v:AVal)(l:List TokC)(i:Nat)(eb_p:H kp=some ⟨[v, .int .i64 i],0⟩)(hs_H:Sub B H)(hb:B kp=none)(hv:IsL wz B 5 v (l.map QJ))(hl:l.length<=1099511627776)(hi:i<=l.length)(hok:(Xd l i false).ok=true):
 ACall Tryz.prog wz 67 [.ptr (.own kp) 0] H (fun r h'=>PairR wz B (YU l i) r/\h'=H.set kp ⟨[v, .int .i64 (YU l i).at_],0⟩):=by
 obtain⟨o1,o2,o3⟩:=qdh (e:=false) hi;obtain⟨o3,o4,o5⟩:=o3 hok;have hp:YU l i=if Yp l (Xd l i false).at_ BY=false then⟨false,⟨[],[]⟩,(Xd l i false).at_⟩else⟨(Xd l ((Xd l i false).at_+1) true).ok,⟨qcl l (Xd l i false).lo (Xd l i false).hi,qcl l (Xd l ((Xd l i false).at_+1) true).lo (Xd l ((Xd l i false).at_+1) true).hi⟩,(Xd l ((Xd l i false).at_+1) true).at_⟩:=by
  conv=>lhs;unfold YU
  simp only[hok];rfl
 have hlv:=hv.live;have hsc:=fun o=>qfu hv o;have hsl:=fun o=>YF (hsc o);have hSc:=fun o=>operV_Sc hv o;obtain⟨a,ha⟩:∃a,a=Xd l i false:=⟨_,rfl⟩
 rw[<-ha]at hok hp o1 o2 o3 o4 o5;obtain⟨W,hW⟩:∃W,W=Yp l a.at_ BY:=⟨_,rfl⟩
 refine qP (n:=29) (rs:=[.cell 2 46, .tmp 3]) Tryz.func67 rfl rfl rfl rfl (VL rfl) ?_;simp only[Qd];refine awp_rseq [0,2] (by rfl) fun K hK=>?_;refine Qk qpY (cs:=[.nilSlice, .nilSlice]) (by rfl) fun k0q0 hk0q0=>?_;have hn_0q0:H k0q0=none:=by first|assumption|(simp only[V7]at hk0q0;simp only[hk0q0])
 have hf_0q0:B k0q0=none:=Bg hs_H hn_0q0;have ne_0q0_p:k0q0≠kp:=Bh hn_0q0 eb_p;simp+decide only[qa,ev,qH,qF,putD,VM,VN,Ka,true_and,↓qd,qb];apply hK;clear hK K;refine awp_rseq [0,2,4,5] (by rfl) fun K hK=>?_;simp+decide only[ev,putD,VM,VO,Ka,true_and,↓qh,qc];refine QO (by rfl) (by rfl) (qfz wz _ B kp v l i false zqA zqB hb hv hl hi) fun x1q1 h1q1 hx1q1=>?_;rw[<-ha,hok]at hx1q1;obtain⟨rfl,rfl⟩:=hx1q1;simp+decide only[qa,ev,putD,VM,VO,VN,Ka,true_and,↓qh,qc,↓QV,QI,QT,KX,J8,VX,Km,↓qd,qb,VX,Km,Jr,Nat.reduceAdd];apply hK;clear hK K;refine qL ?_;refine awp_rseq [0,2,4,18] (by rfl) fun K hK=>?_;simp+decide only[ev,putD,VM,VO,Ka,true_and,↓qh,qc,↓Yz,XP,Yk,↓Xe,agP,Qt,qJ,qI,Qe,implies_true,Ed,VY,Qy];refine ZY (by rfl) ?_;refine QO (by rfl) (by rfl) (qlZ wz _ B kp v l a.at_ BY (Vd _ _ _) zqB hv hl) fun x2q4 h2q4 hx2q4=>?_;obtain⟨rfl,rfl⟩:=hx2q4;rw[<-hW];simp+decide only[qa,ev,qH,qF,putD,VM,VO,VN,Ka,true_and,qJ,Qe,↓qcd,XP,agP,Qt,qI,implies_true,Ed,Qy,BO,Yk,↓QR,Qs,Qg,ZF];apply hK;clear hK K;refine qK (b:=_) rfl (fun hb1=>?_) (fun hb1=>?_)
 ·try simp only[Ji]at hb1
  refine awp_rseq [2,3] (by rfl) fun K hK=>?_;simp+decide only[ev,qH,qF,putD,VM,VO,if_false,true_and,↓Qr,↓qY,bld46_,evP,Vj];refine qo (by rfl) (by rfl) zqA qcr (by rfl) (by rfl) zqD (Js _) (by first|rfl|(simp+decide only[ev,putD,VM,VO,Ka,VV,QG,JS,Vf,hsc])) ?_;simp only[Vh,VV];simp+decide only[qa,ev,qH,qF,putD,VM,VO,VN,Ka,true_and,↓qd,qb,setAt,VW,Ki,Jr];apply hK;clear hK K;refine qN ?_;try simp only[Qf]
  refine QS (?_) ?_
  ·simp+decide only[QC,qw,qj,VO,Ka,and_true,qw,qj,qg qnO qcr,Qc,qf,VX,Km,Jr,QU,allLive,JS,qf,VX,Km,Jr,QU,allLive,JS]
  simp+decide only[VO,Ka,Xi,qw,qj,qg qnO qcr,Qc,qf,VX,Km,Jr,QU,allLive,JS,qf,VX,Km,Jr,QU,allLive,JS];rw[if_pos (by rw[<-hW];exact hb1)]at hp;rw[hp];simp only[hb1,KV,if_false];exact⟨H.set kp ⟨[v, .int .i64 a.at_],0⟩,V3 (V9 (Vg hn_0q0) _ _) ((Vb _ _ ne_0q0_p).trans hn_0q0),⟨.nilSlice, .nilSlice,rfl,rfl,rfl,fun q=>by cases q⟩,rfl⟩
 ·try simp only[VS]at hb1
  rw[if_neg (by rw[<-hW,hb1];decide)]at hp;have hwl:a.at_<l.length:=qgP (hW.symm.trans hb1);rw[hb1,if_pos rfl];obtain⟨p1,p2,p3⟩:=qdh (l:=l) (i:=a.at_+1) (e:=true) (by omega);obtain⟨b,hbo⟩:∃b,b=Xd l (a.at_+1) true:=⟨_,rfl⟩
  rw[<-hbo]at hp p1 p2 p3;refine qV ?_;change Awp _ _ _ _ _ _ _;refine awp_rseq [2,4,5,6] (by rfl) fun K hK=>?_;simp+decide only[ev,putD,VM,VO,Ka,true_and,↓qh,qc];refine QO (by rfl) (by rfl) (qfz wz _ B kp v l (a.at_+1) true zqA zqB hb hv hl (by omega)) fun x4q1 h4q1 hx4q1=>?_;rw[<-hbo]at hx4q1;obtain⟨rfl,rfl⟩:=hx4q1;simp+decide only[qa,ev,putD,VM,VO,VN,Ka,true_and,↓qh,qc,↓QV,QI,QT,KX,J8,VX,Km,↓qd,qb,VX,Km,Jr,Nat.reduceAdd];apply hK;clear hK K;refine awp_rseq [2,3] (by rfl) fun K hK=>?_;simp+decide only[ev,qH,qF,putD,VM,VO,Ka,true_and,↓qh,qc,↓Qr,↓qY,qhr,evP,Kc,Vj,hSc];refine qo (by rfl) (by rfl) zqA qcr (by rfl) (by rfl) zqD (Js _) (by first|rfl|(simp+decide only[ev,VO,Ka,VV,QG,JS,hsc])) ?_;simp only[Vh,VV];simp+decide only[qa,ev,putD,VM,VO,VN,Ka,true_and,↓qd,qb,setAt,VW,Ki,Jr];apply hK;clear hK K;refine qN ?_;refine QS (?_) ?_
  ·simp+decide only[QC,qw,qj,VO,Ka,and_true,qw,qj,qg qnO qcr,Qc,qf,VX,Km,Jr,allLive,JS,qf,VX,Km,Jr,allLive,JS,hsl]
  simp+decide only[VO,Ka,Xi,qw,qj,qg qnO qcr,Qc,qf,VX,Km,Jr,allLive,JS,qf,VX,Km,Jr,allLive,JS,hsl];rw[hp];exact⟨H.set kp ⟨[v, .int .i64 b.at_],0⟩,V3 (V9 (Vg hn_0q0) _ _) ((Vb _ _ ne_0q0_p).trans hn_0q0),⟨_,_,rfl,hsc _,hsc _,fun q=>⟨qdW hv o4 o5.1 hok,qdW hv (p3 q).2.1 (p3 q).2.2.1 q⟩⟩,rfl⟩
theorem c_pair(wz:World)(H B:AHeap)(kp:Nat)(v:AVal)(l:List TokC)(i:Nat)(eb_p:H kp=some ⟨[v, .int .i64 i],0⟩)(hs_H:Sub B H)(hb:B kp=none)(hv:IsL wz B 5 v (l.map QJ))(hl:l.length<=1099511627776)(hi:i<=l.length):
 ACall Tryz.prog wz 67 [.ptr (.own kp) 0] H (fun r h'=>PairR wz B (YU l i) r/\h'=H.set kp ⟨[v, .int .i64 (YU l i).at_],0⟩):=by
 cases hok:(Xd l i false).ok with
 |false=>exact qse wz H B kp v l i eb_p hs_H hb hv hl hi hok
 |true=>exact qoU wz H B kp v l i eb_p hs_H hb hv hl hi hok
end Go.Proofs.YtlhhaagmakhilaaGreatDoor
namespace Go.Proofs.YtlhhaagmakhilaaGreatDoor
open Go.AM
open Go.Proofs
open Go.Col
open Go.Tok
open Go.Cop
open Go.RowKit (Below)
set_option maxRecDepth 100000
def qiM(l:List TokC)(i:Nat)(first:Bool)(acc:List RepC):Pairs:=YT l (l.length+2-i) i first acc
theorem qhF{l:List TokC}{i:Nat}(hi:i<=l.length)(first:Bool)(acc:List RepC):qiM l i first acc=if first=true\/(i<l.length/\Zo l i [6]=false)then(if (YU l i).ok=false then⟨false,[],(YU l i).at_⟩else qiM l (YU l i).at_ false (acc++[(YU l i).rep]))else⟨true,acc,i⟩:=by
 unfold qiM;rw[show l.length+2-i=(l.length+1-i)+1 by omega,YT];split
 ·simp only
  split
  ·rfl
  ·rename_i h1 h2
   obtain⟨p1,p2,p3⟩:=qii hi;have h3:(YU l i).ok=true:=by simpa using h2
   have:=(p3 h3).1;exact qfo l _ _ _ _ _ p2 (by omega) (by omega)
 ·rfl
def IsReps(wz:World)(h:AHeap)(v:AVal)(rs:List RepC):Prop:=∃qs:List RepQ,rs=qs.map (·.1)/\IsL wz h 2 v (qs.map UC)/\∀q∈qs,RepOk wz h q
theorem IsReps.mono{wz:World}{h h':AHeap}{v:AVal}{rs:List RepC}(hv:IsReps wz h v rs)(hs:Sub h h'):IsReps wz h' v rs:=by
 obtain⟨qs,h1,h2,h3⟩:=hv;exact⟨qs,h1,h2.mono hs,fun q hq=>(h3 q hq).mono hs⟩
theorem IsReps.none{wz:World}{h:AHeap}:IsReps wz h .nilSlice []:=⟨[],rfl, .nil,fun q hq=>by cases hq⟩
theorem qat{qs:List RepQ}:∀x∈qs.map UC,x.length=2:=fun x hx=>by obtain⟨y,_,rfl⟩:=JG.1 hx;rfl
theorem qaC(es:Nat)(b:Option Buf):(QH es b).cells=[QH es b]:=by cases b<;>rfl
def qlj(t:TokC)(rv:AVal):List AVal:=[.int .u8 t.kind.toNat, .str t.text, .int .i64 t.line, .int .i64 t.col, .bool t.left,rv]
structure NewE(B H E:AHeap):Prop where
 sub:Sub B E
 off:∀j,H j≠none->B j=none->E j=none
theorem NewE.refl(B H:AHeap):NewE B H B:=⟨Vl _,fun _ _ h=>h⟩
theorem newE_buf{B H G:AHeap}{es kp:Nat}{pb:Option Buf}{c:Blk}(hok:bufOk G es pb)(hg:Sub (H.del kp) G)(hp:G kp=some c):NewE B H (Qv B pb)\/¬bufOk B es pb:=by
 by_cases hb:bufOk B es pb
 ·refine .inl ⟨BH hb,fun j h1 h2=>?_⟩
  cases pb with
  |none=>exact h2
  |some b=>
   have hne:j≠b.blk:=fun e=>by
    have h0:G b.blk=none:=hok.1;subst e;by_cases e2:b.blk=kp
    ·rw[e2,hp]at h0;cases h0
    ·cases hj:H b.blk with
     |none=>exact h1 hj
     |some d=>
      have:=hg b.blk d (by simp only[Vk,e2,if_false];exact hj);rw[h0]at this;cases this
   exact(Vb _ _ hne).trans h2
 ·exact .inr hb
def StmR(wz:World)(H B:AHeap)(kp:Nat)(v:AVal)(s:Stm)(r:AVal)(h':AHeap):Prop:=
 Sub (H.del kp) h'/\h' kp=some ⟨[v, .int .i64 s.at_],0⟩/\∃rv E,r= .tuple [.agg (qlj s.name rv), .bool s.ok]/\NewE B H E/\Sub E h'/\IsReps wz E rv s.reps
structure StG where
 at_:Nat
 G:AHeap
 pb:Option Buf
 qs:List RepQ
structure StOk(wz:World)(H B:AHeap)(kp k0 k3:Nat)(v:AVal)(l:List TokC)(t:TokC)(s:StG):Prop where
 at_:s.at_<=l.length
 sub:Sub (H.del kp) s.G
 par:s.G kp=some ⟨[v, .int .i64 s.at_],0⟩
 res:s.G k0=some ⟨[.int .u8 0, .str [], .int .i64 0, .int .i64 0, .bool false, .nilSlice],0⟩
 stm:s.G k3=some ⟨[.int .u8 t.kind.toNat, .str t.text, .int .i64 t.line, .int .i64 t.col, .bool t.left,QH 2 s.pb],0⟩
 ok:bufOk s.G 2 s.pb
 eq:Ws s.pb=(s.qs.map UC).flatten
 reps:∀q∈s.qs,RepOk wz B q
 few:s.qs.length<=s.at_
set_option maxHeartbeats 2000000 in
theorem qny(wz:World)(H B:AHeap)(kp:Nat)(v:AVal)(l:List TokC)(i:Nat)(eb_p:H kp=some ⟨[v, .int .i64 i],0⟩)(hs_H:Sub B H)(hb:B kp=none)(hv:IsL wz B 5 v (l.map QJ))(hl:l.length<=1000000)(hi:i<=l.length):
 ACall Tryz.prog wz 52 [.ptr (.own kp) 0] H (fun r h'=>StmR wz H B kp v (Xo l i) r h'):=by
 have hlv:=hv.live;have nv:=Ze hv;obtain⟨k1,hk1⟩:∃k,k=Zo l i [1,3]:=⟨_,rfl⟩
 obtain⟨W,hW⟩:∃W,W=Yp l (i+1) Yo:=⟨_,rfl⟩
 obtain⟨O,ho⟩:∃O,O=Xo l i:=⟨_,rfl⟩
 rw[<-ho];unfold Xo at ho;rw[<-hk1,<-hW]at ho;have hdel:Sub (H.del kp) H:=fun j b hj=>by
  by_cases e:j=kp
  ·subst e;rw[Yb]at hj;cases hj
  ·simpa[Vk,e]using hj
 have hsB:Sub B (H.del kp):=qbV hs_H hb;have hso:(AVal.bool true).scal=true:=rfl;have hsn:(AVal.bool true).scal=true:=rfl;have hlo:(AVal.bool true).live=true:=rfl;have hln:(AVal.bool true).live=true:=rfl;have hSo:Sc .nilSlice=True:=eq_true trivial;have hSn:Sc .nilSlice=True:=eq_true trivial;have hbl:=QY 2 none;refine qP (n:=79) (rs:=[.cell 2 91, .tmp 3]) Tryz.func52 rfl rfl rfl rfl (VL rfl) ?_;simp only[Qd];refine awp_rseq [0,2] (by rfl) fun K hK=>?_;refine Qk qst (cs:=[.int .u8 0, .str [], .int .i64 0, .int .i64 0, .bool false, .nilSlice]) (by rfl) fun k0q0 hk0q0=>?_;have hn_0q0:H k0q0=none:=by first|assumption|(simp only[V7]at hk0q0;simp only[hk0q0])
 have hf_0q0:B k0q0=none:=Bg hs_H hn_0q0;have ne_0q0_p:k0q0≠kp:=Bh hn_0q0 eb_p;simp+decide only[qa,ev,qH,qF,putD,VM,VN,Ka,true_and,↓qd,qb];apply hK;clear hK K;refine qL ?_;refine awp_rseq [0,2,11] (by rfl) fun K hK=>?_;simp+decide only[ev,putD,VM,VO,Ka,true_and,↓qh,qc];refine Qn (cs:=byteCells [1,3]) (by kernel_rfl) fun k1q1 hk1q1=>?_;have ne_1q1_0q0:k1q1≠k0q0:=by simp only[V7]at hk1q1;simp only[hk1q1,ne_eq,not_false_eq_true]
 have hn_1q1:H k1q1=none:=by first|assumption|(simp only[V7]at hk1q1;simp only[hk1q1])
 have hf_1q1:B k1q1=none:=Bg hs_H hn_1q1;have ne_1q1_p:k1q1≠kp:=Bh hn_1q1 eb_p;refine qM (V:= .bool k1) (by rfl) (by rfl) (by rw[hk1];exact qma wz _ kp _ l i _ [1,3] zqA (hv.mono zqB) (qbg (k:=k1q1) (ks:=[1,3]) zqA) (by decide)) ?_;simp+decide only[qa,ev,putD,VM,VO,VN,Ka,true_and,↓Yz,XP,Yk];apply hK;clear hK K;refine qK (b:=_) rfl (fun hb1=>?_) (fun hb1=>?_)
 ·try simp only[Ji]at hb1
  refine awp_rseq [2,3] (by rfl) fun K hK=>?_;simp+decide only[ev,qH,qF,putD,VM,VO,if_false,true_and,↓Qr,↓qY,qhp,evP,Vj];refine qo (by rfl) (by rfl) zqA UW (by rfl) (by rfl) zqD (Js _) (by first|rfl|(simp+decide only[ev,putD,VM,VO,Ka,VV,QG,JS,Vf,hso,hsn,WF,XV,Zf,XF])) ?_;simp only[VV];simp+decide only[qa,ev,qH,qF,putD,VM,VO,VN,Ka,true_and,↓qd,qb,setAt,VW,Ki,Jr,Nat.reduceAdd];apply hK;clear hK K;refine qN ?_;try simp only[Qf]
  refine QS (?_) ?_
  ·simp+decide only[QC,qw,qj,VO,Ka,and_true,qw,qj,qg qdt UW,Qc,qf,VX,Km,Jr,Nat.reduceAdd,qB,qi,qE,QU,allLive,JS,qf,VX,Km,Jr,Nat.reduceAdd,qB,qi,qE,QU,allLive,JS]
  simp+decide only[VO,Ka,Xi,qw,qj,qg qdt UW,Qc,qf,VX,Km,Jr,Nat.reduceAdd,qB,qi,qE,QU,allLive,JS,qf,VX,Km,Jr,Nat.reduceAdd,qB,qi,qE,QU,allLive,JS];rw[if_pos hb1]at ho;rw[ho];exact⟨H,zqB,hdel,eb_p, .nilSlice,B,rfl,NewE.refl _ _,hs_H,IsReps.none⟩
 ·try simp only[VS]at hb1
  rw[if_neg (by rw[hb1];decide)]at ho;have hlt:i<l.length:=Uz (hk1.symm.trans hb1);obtain⟨lc,o,c,rfl⟩:=Wy hv (by omega);obtain⟨t,ht⟩:∃t,t=l.getD i ZC:=⟨_,rfl⟩
  rw[show l.getD i noT=t from ht.symm]at ho;have hd0:(H.del kp) k0q0=none:=by simp[Vk,ne_0q0_p,hn_0q0]
  refine qV ?_;change Awp _ _ _ _ _ _ _;obtain⟨H3,hH3⟩:∃H3,H3=H.set k0q0 ⟨[.int .u8 0, .str [], .int .i64 0, .int .i64 0, .bool false, .nilSlice],0⟩:=⟨_,rfl⟩
  refine BG (h':=H3) (by rw[hH3];exact zqB) ?_;have hs_H3:Sub B H3:=by rw[hH3];exact zqB
  have hd3:Sub (H.del kp) H3:=by rw[hH3];exact hdel.trans (Vg hn_0q0)
  have eb_p:H3 kp=some ⟨[.slice lc o l.length c, .int .i64 i],0⟩:=by rw[hH3];exact zqA
  have eb_0q0:H3 k0q0=some ⟨[.int .u8 0, .str [], .int .i64 0, .int .i64 0, .bool false, .nilSlice],0⟩:=by rw[hH3];exact Vd _ _ _
  obtain⟨e0,e1,e2,e3,e4⟩:=qar (hv.mono hs_H3) hlt;rw[<-ht]at e0 e1 e2 e3 e4;have e2':rd wz H3 lc (o+i*5+1+1)= .int .i64 t.line:=e2;have e3':rd wz H3 lc (o+i*5+1+1+1)= .int .i64 t.col:=e3;have e4':rd wz H3 lc (o+i*5+1+1+1+1)= .bool t.left:=e4;refine YM 12 [] [0,2,4] mixed (by kernel_rfl) (by rfl) fun K hK=>?_;simp only[Kh,V6,VB,KP];simp+decide only[ev,qH,qF,putD,VM,VO,Ka,true_and,↓XD,qc,↓WI,qO,Qm,↓ZG,qm,UT,↓Zn,Xz,qz UJ,YL,qz ag3,↓qbh,Qh Tryz.underlying26 QW,WZ,qg XY QW,↓Un,↓qY,bld91_0,evP,Kc,Vj,Qz wz eb_p,qf,VX,Km,Jr,qB,qi,qE,allLive,JS,hlv,e0,e1,e2',e3',e4',Vq];repeat (with_reducible refine And.intro ?_ ?_;· first|trivial|omega|(intro hg;simp only[Kw,JV,Ji,VP,VQ,VS,decide_eq_true_eq,decide_eq_false_iff_not,XT]at hg;omega))
  refine qcG (by rfl) ?_;refine Qk qst (cs:=[.int .u8 0, .str [], .int .i64 0, .int .i64 0, .bool false, .nilSlice]) (by rfl) fun k3q11 hk3q11=>?_;have hn_3q11:H3 k3q11=none:=by first|assumption|(simp only[V7]at hk3q11;simp only[hk3q11])
  have hf_3q11:B k3q11=none:=Bg hs_H3 hn_3q11;have ne_3q11_p:k3q11≠kp:=Bh hn_3q11 eb_p;have ne_3q11_0q0:k3q11≠k0q0:=Bh hn_3q11 eb_0q0;rw[qa];try simp only[Yl]
  refine qo (by rfl) (by rfl) zqA UW (by rfl) (by rfl) zqD (Js _) (by first|rfl|(simp+decide only[ev,putD,VM,VO,Ka,VV,QG,JS,Vf,hso,hsn,WF,XV,Zf,XF])) ?_;simp only[Vh,VV];simp+decide only[qa,ev,putD,VM,VO,VN,Ka,setAt,VW,Ki,Jr,Nat.reduceAdd];apply hK;clear hK K;refine awp_rseq [0,2,4] (by rfl) fun K hK=>?_;simp+decide only[ev,qH,qF,putD,VM,VO,Ka,true_and,↓qh,qc,↓Qj,qO,Qm,↓qD,qm,YL,↓qG,Qb,qz ag3,↓qA,ql,qC,cond_false,qp,Xc,QL,ne_eq,not_false_eq_true,ne_3q11_p.symm,Qz wz eb_p,VX,Km,Jr,qi];try simp(disch:=omega)only[wrap_i64]
  refine qo (by rfl) (by rfl) zqA sz3 (by rfl) (by rfl) zqD (Js _) (by first|rfl|(simp+decide only[ev,putD,VM,VO,Ka,VV,QG,JS,Vf,hso,hsn,WF,XV,Zf,XF])) ?_;simp only[VV];simp+decide only[qa,ev,putD,VO,VN,Ka,setAt,VW,Ki];apply hK;clear hK K;refine qL ?_;refine awp_rseq [0,2,4,32] (by rfl) fun K hK=>?_;simp+decide only[ev,putD,VM,VO,Ka,true_and,↓qh,qc];refine QO (by rfl) (by rfl) (qlZ wz _ B kp _ l (i+1) Yo zqA zqB hv (by omega)) fun x5q1 h5q1 hx5q1=>?_;rw[<-hW]at hx5q1;obtain⟨rfl,rfl⟩:=hx5q1;have hn3H:H k3q11=none:=by
   have:=hn_3q11;rw[hH3,Vb _ _ ne_3q11_0q0]at this;exact this
  obtain⟨P,hP⟩:∃P:Pairs,P=(if W=true then YT l (l.length+2) (i+2) true []else⟨true,[],i+1⟩):=⟨_,rfl⟩
  rw[<-hP]at ho;simp+decide only[qa,putD,VM,VN,Ka];apply hK;clear hK K;refine Ub [0,2,4] (fun s:StG=>[(0, .ptr (.own kp) 0),(2, .ptr (.own k0q0) 0),(4, .ptr (.own k3q11) 0)]) (fun s:StG=>Qv s.G s.pb) (fun s:StG=>StOk wz H B kp k0q0 k3q11 (.slice lc o l.length c) l t s/\P=⟨true,s.qs.map (·.1),s.at_⟩) ?_ ?_
  ·refine qK (b:=_) rfl (fun hb2=>?_) (fun hb2=>?_)
   ·skip
    rw[if_pos hb2]at hP;have hlt2:i+1<l.length:=qgP (hW.symm.trans hb2);have hPr:P=qiM l (i+2) true []:=hP.trans (qfo l _ _ _ _ _ (by omega) (by omega) (by omega));rw[hb2,if_pos rfl];obtain⟨G0,hG0⟩:∃G0,G0=(H3.set k3q11 ⟨[.int .u8 t.kind.toNat, .str t.text, .int .i64 t.line, .int .i64 t.col, .bool t.left, .nilSlice],0⟩).set kp ⟨[.slice lc o l.length c, .int .i64 ((i+2:Nat):Int)],0⟩:=⟨_,rfl⟩
    refine BG (h':=G0) (by rw[hG0];first|exact Vl _|(rw[Vh];exact Vl _)) ?_;have hs_G0:Sub B G0:=by rw[hG0];exact zqB
    have eb_p:G0 kp=some ⟨[.slice lc o l.length c, .int .i64 ((i+2:Nat):Int)],0⟩:=by rw[hG0];exact Vd _ _ _
    have eb_0q0:G0 k0q0=some ⟨[.int .u8 0, .str [], .int .i64 0, .int .i64 0, .bool false, .nilSlice],0⟩:=by rw[hG0];exact zqA
    have eb_3q11:G0 k3q11=some ⟨[.int .u8 t.kind.toNat, .str t.text, .int .i64 t.line, .int .i64 t.col, .bool t.left, .nilSlice],0⟩:=by rw[hG0];exact zqA
    have hdG0:Sub (H.del kp) G0:=by rw[hG0];exact Zv (hd3.trans (Vg hn_3q11)) (Yb kp) _
    clear hG0;refine awp_rseq [0,2,4,5] (by rfl) fun K hK=>?_;simp+decide only[qa,ev,qH,qF,putD,VM,VN,Ka,true_and,↓qd,qb];apply hK;clear hK K;refine Qp ?_;refine XE [0,2,4,5] (fun g:Bool×StG=>[(0, .ptr (.own kp) 0),(2, .ptr (.own k0q0) 0),(4, .ptr (.own k3q11) 0),(5, .bool g.1)]) (fun g:Bool×StG=>Qv g.2.G g.2.pb) (fun g:Bool×StG=>StOk wz H B kp k0q0 k3q11 (.slice lc o l.length c) l t g.2/\P=qiM l g.2.at_ g.1 (g.2.qs.map (·.1))) (fun g:Bool×StG=>l.length-g.2.at_) ⟨true,⟨i+2,G0,none,[]⟩⟩ (by rfl) (Vl _) ⟨⟨by simp only;omega,hdG0,eb_p,eb_0q0,eb_3q11,trivial,rfl,(fun q hq=>by cases hq),Js _⟩,hPr⟩ ?_;rintro⟨first,⟨at_,G,pb,qs⟩⟩ ⟨⟨g1,g2,g3,g4,g5,g6,g7,g8,g9⟩,hPr⟩;simp only at g1 g2 g3 g4 g5 g6 g7 g8 g9 hPr|-
    obtain⟨H7,hH7⟩:∃H7,H7=Qv G pb:=⟨_,rfl⟩
    have hs_H7:Sub B H7:=by rw[hH7];exact(hsB.trans g2).trans (BH g6)
    have eb_p:H7 kp=some ⟨[.slice lc o l.length c, .int .i64 at_],0⟩:=by rw[hH7];exact ZU g6 g3
    have eb_0q0:H7 k0q0=some ⟨[.int .u8 0, .str [], .int .i64 0, .int .i64 0, .bool false, .nilSlice],0⟩:=by rw[hH7];exact ZU g6 g4
    have eb_3q11:H7 k3q11=some ⟨[.int .u8 t.kind.toNat, .str t.text, .int .i64 t.line, .int .i64 t.col, .bool t.left,QH 2 pb],0⟩:=by rw[hH7];exact ZU g6 g5
    have hbl:=QY 2 pb;rw[<-hH7];refine qL ?_;refine qdr [0,1,2,3,4,5,6,7,8,9,10,11,12,13,14,15,16,17,18] [none,none,none,none,none,none,none,none,none,none,none,none,none,none,none,some 14,some 15,some 16,some 17] 19 [0,2,4,51] mixed (by kernel_rfl) (by rfl) fun K hK=>?_;simp only[Zk,VI,Ec,Ky,KL];simp+decide only[qa,ev,putD,VM,VO,Ka,true_and,qbt,qbK,Yv,↓qh,qc,↓Xe,agP,Qt,qJ,qI,QZ,YD,qy,Qe,qnu,implies_true,↓Ym,qO,Qm,qbM,qbN,↓XI,qm,YL,ZH,ZI,↓Zy,Zd,Ud,qce,qz ag3,UT,qz UJ,↓qaW,QD,ZK Tryz.underlying26,qel,qem,↓Xb,ql,qZ,cond_false,XZ,qbl,Za,qbm,qp,Zc,Qz wz eb_p,VX,Km,Jr,qi,hlv];refine qhV (cs:=byteCells [6]) (g:=Qw (!first) (.bool (decide ((at_:Int)<l.length)))) (by rfl) (QZ _ _) (fun _=>by kernel_rfl) fun k7q14 h7q14 hs7 hb7=>?_;have hs_h7q14:Sub B h7q14:=BJ zqC hs7;have hr_h7q14:Sub H7 h7q14:=BJ zqC hs7;have eb_p:=hs7 kp _ zqA;have eb_0q0:=hs7 k0q0 _ zqA;have eb_3q11:=hs7 k3q11 _ zqA;rw[qa];refine And.intro (by first|exact Vl _|assumption|exact Vg (by assumption)) ?_;simp+decide only[putD,VM,if_false,qy,YD]
    (refine XW (V:= .bool (Zo l at_ [6])) (f:=_) (cap:=_) (xs:=_) (by first|rfl|(simp+decide only[gv,qJ,VO,Ka,QZ])) (fun hg=>⟨rfl,?_⟩) (fun hg=>qma wz _ kp _ l at_ _ [6] zqA (hv.mono zqB) (qbg (k:=k7q14) (ks:=[6]) (hb7 hg)) (by decide)) ?_;· (simp+decide only[gv,qJ,VO,Ka,qy,YD]at hg;simp+decide only[evs,ev,VO,Ka,hg,Qy,Be,Kc,Vj]<;>try rfl))
    rw[qa];refine And.intro (by first|exact Vl _|assumption|exact Vg (by assumption)) ?_;simp+decide only[qa,ev,qH,qF,putD,VM,VO,VN,Ka,true_and,Yv,gv,qJ,qy,Qe,YD,↓qcd,XP,agP,Qt,qI,QZ,implies_true,Yk,qkT,qkV,↓qgK,Qs,Qg,XO,qgA,Xp,ZF,qgy,qgz,↓QR];apply hK;clear hK K;refine qK (b:=_) rfl (fun hb3=>?_) (fun hb3=>?_)
    ·try simp only[decide_eq_true_eq,Ji,Kw,JV]at hb3
     have hst:=qhF g1 first (qs.map (·.1))
     have hc3:first=true\/(at_<l.length/\Zo l at_ [6]=false):=by
      rcases hb3 with q|q
      ·exact .inl q
      ·exact .inr ⟨by omega,q.2⟩
     rw[if_pos hc3]at hst;obtain⟨p1,p2,p3⟩:=qii (l:=l) (i:=at_) g1;obtain⟨p,hp⟩:∃p,p=YU l at_:=⟨_,rfl⟩
     rw[<-hp]at hst p1 p2 p3;refine qV ?_;change Awp _ _ _ _ _ _ _;refine qL ?_;refine Qp ?_;refine awp_rseq [0,2,4,6,7] (by rfl) fun K hK=>?_;simp+decide only[ev,putD,VM,VO,Ka,true_and,↓qh,qc];refine QO (by rfl) (by rfl) (c_pair wz _ B kp _ l at_ zqA zqB hb hv (by omega) g1) fun x9q1 h9q1 hx9q1=>?_;rw[<-hp]at hx9q1;obtain⟨⟨ov,nw,rfl,hso,hsn,hrep⟩,rfl⟩:=hx9q1;have hlo:=YF hso;have hln:=YF hsn;simp+decide only[ev,putD,VM,VO,Ka,true_and,↓qh,qc,↓QV,QI,QT,KX,J8,VX,Km,VX,Km,Jr,Nat.reduceAdd];refine Qk qpY (cs:=[.nilSlice, .nilSlice]) (by rfl) fun k9q5 hk9q5=>?_;have hn_9q5:h7q14 k9q5=none:=by first|assumption|(simp only[V7]at hk9q5;simp only[hk9q5])
     have hf_9q5:B k9q5=none:=Bg hs_h7q14 hn_9q5;have ne_9q5_p:k9q5≠kp:=Bh hn_9q5 eb_p;have ne_9q5_0q0:k9q5≠k0q0:=Bh hn_9q5 eb_0q0;have ne_9q5_3q11:k9q5≠k3q11:=Bh hn_9q5 eb_3q11;refine qo (by rfl) (by rfl) zqA qcr (by rfl) (by rfl) zqD (Js _) (by first|rfl|(simp+decide only[ev,putD,VM,VO,Ka,VV,QG,JS,hso,hsn])) ?_;simp only[Vh,VV];simp+decide only[qa,ev,putD,VM,VO,VN,Ka,true_and,↓qd,qb,setAt,VW,Ki,Jr];apply hK;clear hK K;refine qL ?_;refine awp_rseq [0,2,4,6,58] (by rfl) fun K hK=>?_;simp+decide only[qa,ev,putD,VM,VO,VN,Ka,true_and,↓qh,qc,↓Yz,XP,Yk];apply hK;clear hK K;refine qK (b:=_) rfl (fun hb4=>?_) (fun hb4=>?_)
     ·try simp only[Ji]at hb4
      rw[if_pos (by simpa using hb4)]at hst;rw[hPr,hst]at ho;refine awp_rseq [2,3] (by rfl) fun K hK=>?_;simp+decide only[ev,qH,qF,putD,VM,VO,if_false,true_and,↓Qr,↓qY,qhp,evP,Vj];refine qo (by rfl) (by rfl) zqA UW (by rfl) (by rfl) zqD (Js _) (by first|rfl|(simp+decide only[ev,putD,VM,VO,Ka,VV,QG,JS,Vf,hso,hsn,WF,XV,Zf,XF])) ?_;simp only[VV];simp+decide only[qa,ev,qH,qF,putD,VM,VO,VN,Ka,true_and,↓qd,qb,setAt,VW,Ki,Jr,Nat.reduceAdd];apply hK;clear hK K;refine qN ?_;try simp only[Qf,Qu]
      refine QS (?_) ?_
      ·simp+decide only[QC,qw,qj,VO,Ka,and_true,qw,qj,qg qdt UW,Qc,qf,VX,Km,Jr,Nat.reduceAdd,qB,qi,qE,QU,allLive,JS,qf,VX,Km,Jr,Nat.reduceAdd,qB,qi,qE,QU,allLive,JS]
      simp+decide only[VO,Ka,Xi,qw,qj,qg qdt UW,Qc,qf,VX,Km,Jr,Nat.reduceAdd,qB,qi,qE,QU,allLive,JS,qf,VX,Km,Jr,Nat.reduceAdd,qB,qi,qE,QU,allLive,JS];have hsG:Sub G h7q14:=(show Sub G H7 by rw[hH7];exact BH g6).trans hs7;have ho':O=qiT p.at_:=by rw[ho];rfl
      rw[ho'];refine⟨(G.set kp ⟨[.slice lc o l.length c, .int .i64 p.at_],0⟩).set k0q0 ⟨[.int .u8 0, .str [], .int .i64 0, .int .i64 0, .bool false, .nilSlice],0⟩,?_,?_⟩
      ·exact V9 (V3 (V9 hsG _ _) ((Vb _ _ ne_9q5_p).trans (Bg hsG hn_9q5))) _ _
      ·exact⟨Zv (Zv g2 (Yb kp) _) hd0 _,(Vb _ _ ne_0q0_p.symm).trans (Vd _ _ _), .nilSlice,B,rfl,NewE.refl _ _,hsB.trans (Zv (Zv g2 (Yb kp) _) hd0 _),IsReps.none⟩
     ·try simp only[VS]at hb4
      have hok:p.ok=true:=by simpa using hb4
      rw[if_neg (by rw[hok];decide)]at hst;have hsG:Sub G h7q14:=(show Sub G H7 by rw[hH7];exact BH g6).trans hs7;have hrp:=hrep hok;have p4:=(p3 hok).1;refine qV ?_;change Awp _ _ _ _ _ _ _;refine XL [0,2,4] (by rfl) ?_;simp+decide only[ev,putD,VM,VO,Ka,true_and,↓qD,qm,qoD,↓qG,Qb,qz ag43,qg qnO qcr,QL,ne_eq,not_false_eq_true,ne_9q5_3q11.symm,Qz wz eb_3q11,ne_3q11_p,QP,qf,VX,Km,Jr,allLive,JS,hbl,hlo,hln];refine Qn (cs:=[ov,nw]) (by kernel_rfl) fun k12q3 hk12q3=>?_;have ne_12q3_9q5:k12q3≠k9q5:=by simp only[V7]at hk12q3;simp only[hk12q3,ne_eq,not_false_eq_true]
      have hn_12q3:h7q14 k12q3=none:=by first|assumption|(simp only[V7]at hk12q3;simp only[hk12q3])
      have hf_12q3:B k12q3=none:=Bg hs_h7q14 hn_12q3;have ne_12q3_p:k12q3≠kp:=Bh hn_12q3 eb_p;have ne_12q3_0q0:k12q3≠k0q0:=Bh hn_12q3 eb_0q0;have ne_12q3_3q11:k12q3≠k3q11:=Bh hn_12q3 eb_3q11;refine Xw (es:=2) (zs:=qs.map UC) (xs:=[[ov,nw]]) (hZ:=G.set kp ⟨[.slice lc o l.length c, .int .i64 p.at_],0⟩) (b:=pb) (by rfl) (by rfl) Tryz.underlying43 Tryz.underlying43 (fun k e=>by cases e) qcr by46 qpY (by rfl) (by decide) (by rfl) (ZT g6 g3 _) g7 qat (by rw[<-Wp g6 g3,<-hH7];exact V3 (V3 (V9 hs7 _ _) ((Vb _ _ ne_9q5_p).trans (Bg hs7 hn_9q5))) ((Vb _ _ ne_12q3_p).trans (Bg hs7 hn_12q3))) (by rfl) (V8 (Vd _ _ _) (by simp) (by rfl) (by simp[allLive,hlo,hln]) (.exact 1) (KJ _)) (by simp[QG,hso,hsn]) (by simp;omega) (by simp;omega) fun pb2 h12 o1 o2 o3=>?_;have eb12:h12 k3q11=some ⟨[.int .u8 t.kind.toNat, .str t.text, .int .i64 t.line, .int .i64 t.col, .bool t.left,QH 2 pb],0⟩:=o3 _ _ (ZU o1 ((Vb _ _ ne_3q11_p).trans g5));simp+decide only[ev,putD,VM,VO,Ka,true_and,↓qD,qm,qoD,Jr];refine qo (v:=QH 2 pb2) (by rfl) (by rfl) eb12 sz43 (QY _ _) (by rw[qaC];rfl) (KJ _) (Js _) (by rw[qaC];simp[QG,WF]) ?_;simp only[setAt,qaC];simp+decide only[qa,putD,VN,Ka];change Awp _ _ _ _ _ _ _;refine XL [0,2,4,5] (by rfl) ?_;simp+decide only[qa,ev,qH,qF,putD,VM,VN,Ka,true_and,↓qd,qb];try simp only[Qi]
      exact⟨(false,⟨p.at_,(G.set kp ⟨[.slice lc o l.length c, .int .i64 p.at_],0⟩).set k3q11 ⟨[.int .u8 t.kind.toNat, .str t.text, .int .i64 t.line, .int .i64 t.col, .bool t.left,QH 2 pb2],0⟩,pb2,qs++[(p.rep,ov,nw)]⟩),rfl,by rw[<-Wp o1 ((Vb _ _ ne_3q11_p).trans g5)];exact V9 o3 _ _,⟨⟨p2,Zv (Zv g2 (Yb kp) _) (by simp[Vk,ne_3q11_p,hn3H]) _,(Vb _ _ ne_3q11_p.symm).trans (Vd _ _ _),(Vb _ _ ne_3q11_0q0.symm).trans ((Vb _ _ ne_0q0_p).trans g4),Vd _ _ _,ZT o1 ((Vb _ _ ne_3q11_p).trans g5) _,by rw[o2,Ba];rfl,fun q hq=>by
       rcases JI.1 hq with z|z
       ·exact g8 q z
       ·rw[BD.1 z];exact hrp,by(simp only[Jb,KX,J8];omega)⟩,by simp only;rw[hPr,hst,Ba];rfl⟩,by simp only;omega⟩
    ·try simp only[decide_eq_false_iff_not,VS,VP,VQ]at hb3
     have hst:=qhF g1 first (qs.map (·.1))
     have hc3:¬(first=true\/(at_<l.length/\Zo l at_ [6]=false)):=by
      rintro(q|⟨q1,q2⟩)
      ·rw[q]at hb3
       exact absurd hb3.1 (by decide)
      ·rcases hb3.2 with z|z
       ·omega
       ·rw[q2]at z;cases z
     rw[if_neg hc3]at hst;rw[hst]at hPr;refine XJ ?_;first
     |exact⟨⟨at_,G,pb,qs⟩,rfl,by rw[hH7]at hs7;exact hs7,⟨g1,g2,g3,g4,g5,g6,g7,g8,g9⟩,hPr⟩
     |exact⟨⟨i+1,(H3.set k3q11 ⟨[.int .u8 t.kind.toNat, .str t.text, .int .i64 t.line, .int .i64 t.col, .bool t.left, .nilSlice],0⟩).set kp ⟨[.slice lc o l.length c, .int .i64 ((i+1:Nat):Int)],0⟩,none,[]⟩,rfl,(by first|exact Vl _|(simp only[Qv,Vh];exact Vl _)),⟨by(simp only;omega),Zv (hd3.trans (Vg hn_3q11)) (Yb kp) _,Vd _ _ _,zqA,zqA,trivial,rfl,(fun q hq=>by cases hq),Js _⟩,hP⟩
   ·skip
    rw[if_neg (by rw[hb2];decide)]at hP;rw[hb2,if_neg (by decide)];refine qV ?_;try simp only[Qi]
    first
    |exact⟨⟨at_,G,pb,qs⟩,rfl,by rw[hH7]at hs7;exact hs7,⟨g1,g2,g3,g4,g5,g6,g7,g8,g9⟩,hPr⟩
    |exact⟨⟨i+1,(H3.set k3q11 ⟨[.int .u8 t.kind.toNat, .str t.text, .int .i64 t.line, .int .i64 t.col, .bool t.left, .nilSlice],0⟩).set kp ⟨[.slice lc o l.length c, .int .i64 ((i+1:Nat):Int)],0⟩,none,[]⟩,rfl,(by first|exact Vl _|(simp only[Qv,Vh];exact Vl _)),⟨by(simp only;omega),Zv (hd3.trans (Vg hn_3q11)) (Yb kp) _,Vd _ _ _,zqA,zqA,trivial,rfl,(fun q hq=>by cases hq),Js _⟩,hP⟩
  ·rintro⟨at_,G,pb,qs⟩ ⟨⟨g1,g2,g3,g4,g5,g6,g7,g8,g9⟩,hPe⟩
   simp only at g1 g2 g3 g4 g5 g6 g7 g8 g9 hPe|-
   rw[hPe]at ho;obtain⟨H7,hH7⟩:∃H7,H7=Qv G pb:=⟨_,rfl⟩
   have hs_H7:Sub B H7:=by rw[hH7];exact(hsB.trans g2).trans (BH g6)
   have hsG:Sub G H7:=by rw[hH7];exact BH g6
   have eb_p:H7 kp=some ⟨[.slice lc o l.length c, .int .i64 at_],0⟩:=by rw[hH7];exact ZU g6 g3
   have eb_0q0:H7 k0q0=some ⟨[.int .u8 0, .str [], .int .i64 0, .int .i64 0, .bool false, .nilSlice],0⟩:=by rw[hH7];exact ZU g6 g4
   have eb_3q11:H7 k3q11=some ⟨[.int .u8 t.kind.toNat, .str t.text, .int .i64 t.line, .int .i64 t.col, .bool t.left,QH 2 pb],0⟩:=by rw[hH7];exact ZU g6 g5
   have hbl:=QY 2 pb;rw[<-hH7];refine qL ?_;skip;refine awp_rseq [0,2,4,69] (by rfl) fun K hK=>?_;simp+decide only[ev,putD,VM,VO,Ka,true_and,↓qh,qc];refine Qn (cs:=byteCells [6]) (by kernel_rfl) fun k13q1 hk13q1=>?_;have hn_13q1:H7 k13q1=none:=by first|assumption|(simp only[V7]at hk13q1;simp only[hk13q1])
   have hf_13q1:B k13q1=none:=Bg hs_H7 hn_13q1;have ne_13q1_p:k13q1≠kp:=Bh hn_13q1 eb_p;have ne_13q1_0q0:k13q1≠k0q0:=Bh hn_13q1 eb_0q0;have ne_13q1_3q11:k13q1≠k3q11:=Bh hn_13q1 eb_3q11;refine qM (V:= .bool (Zo l at_ [6])) (by rfl) (by rfl) (qma wz _ kp _ l at_ _ [6] zqA (hv.mono zqB) (qbg (k:=k13q1) (ks:=[6]) zqA) (by decide)) ?_;simp+decide only[qa,ev,putD,VM,VO,VN,Ka,true_and,↓Yz,XP,Yk];apply hK;clear hK K;refine qK (b:=_) rfl (fun hb5=>?_) (fun hb5=>?_)
   ·try simp only[Ji]at hb5
    refine awp_rseq [2,3] (by rfl) fun K hK=>?_;simp+decide only[ev,qH,qF,putD,VM,VO,if_false,true_and,↓Qr,↓qY,qhp,evP,Vj];refine qo (by rfl) (by rfl) zqA UW (by rfl) (by rfl) zqD (Js _) (by first|rfl|(simp+decide only[ev,putD,VM,VO,Ka,VV,QG,JS,Vf,hso,hsn,WF,XV,Zf,XF])) ?_;simp only[VV];simp+decide only[qa,ev,qH,qF,putD,VM,VO,VN,Ka,true_and,↓qd,qb,setAt,VW,Ki,Jr,Nat.reduceAdd];apply hK;clear hK K;refine qN ?_;try simp only[Qf]
    refine QS (?_) ?_
    ·simp+decide only[QC,qw,qj,VO,Ka,and_true,qw,qj,qg qdt UW,Qc,qf,VX,Km,Jr,Nat.reduceAdd,qB,qi,qE,QU,allLive,JS,qf,VX,Km,Jr,Nat.reduceAdd,qB,qi,qE,QU,allLive,JS]
    simp+decide only[VO,Ka,Xi,qw,qj,qg qdt UW,Qc,qf,VX,Km,Jr,Nat.reduceAdd,qB,qi,qE,QU,allLive,JS,qf,VX,Km,Jr,Nat.reduceAdd,qB,qi,qE,QU,allLive,JS];have ho':O=qiT at_:=by
     rw[ho];unfold UM;simp only[hb5,if_true,Ee,if_false]
    rw[ho'];exact⟨G.set k0q0 ⟨[.int .u8 0, .str [], .int .i64 0, .int .i64 0, .bool false, .nilSlice],0⟩,V9 (V3 hsG (Bg hsG hn_13q1)) _ _,Zv g2 hd0 _,(Vb _ _ ne_0q0_p.symm).trans g3, .nilSlice,B,rfl,NewE.refl _ _,hsB.trans (Zv g2 hd0 _),IsReps.none⟩
   ·try simp only[VS]at hb5
    have ho':O=⟨true,t,qs.map (·.1),at_+1⟩:=by
     rw[ho];unfold UM;simp only[hb5,if_false,Ee]
    refine qV ?_;change Awp _ _ _ _ _ _ _;refine awp_rseq [2,4] (by rfl) fun K hK=>?_;simp+decide only[ev,qH,qF,putD,VM,VO,Ka,true_and,↓qh,qc,↓Qj,qO,Qm,↓qD,qm,YL,↓qG,Qb,qz ag3,↓qA,ql,qC,cond_false,qp,Xc,QL,ne_eq,not_false_eq_true,ne_13q1_p.symm,Qz wz eb_p,VX,Km,Jr,qi];try simp(disch:=omega)only[wrap_i64]
    refine qo (by rfl) (by rfl) zqA sz3 (by rfl) (by rfl) zqD (Js _) (by first|rfl|(simp+decide only[ev,putD,VM,VO,Ka,VV,QG,JS,Vf,hso,hsn,WF,XV,Zf,XF])) ?_;simp only[VV];simp+decide only[qa,ev,putD,VO,VN,Ka,setAt,VW,Ki];apply hK;clear hK K;refine awp_rseq [2,3] (by rfl) fun K hK=>?_;simp+decide only[ev,putD,VM,VO,Ka,true_and,↓qG,Qb,qg qdt UW,QL,ne_eq,not_false_eq_true,ne_13q1_3q11.symm,Qz wz eb_3q11,ne_3q11_p,qf,VX,Km,Jr,Nat.reduceAdd,qB,qi,qE,allLive,JS,hbl];refine qo (by rfl) (by rfl) zqA UW (by rfl) (by rfl) zqD (Js _) (by first|rfl|(simp+decide only[ev,VO,Ka,VV,QG,JS,WF,XV,Zf,XF])) ?_;simp only[VV];simp+decide only[qa,ev,qH,qF,putD,VM,VO,VN,Ka,true_and,↓qd,qb,setAt,VW,Ki,Jr,Nat.reduceAdd];apply hK;clear hK K;refine qN ?_;refine QS (?_) ?_
    ·simp+decide only[QC,qw,qj,VO,Ka,and_true,qw,qj,qg qdt UW,Qc,qf,VX,Km,Jr,Nat.reduceAdd,qB,qi,qE,allLive,JS,qf,VX,Km,Jr,Nat.reduceAdd,qB,qi,qE,allLive,JS,hbl]
    simp+decide only[VO,Ka,Xi,qw,qj,qg qdt UW,Qc,qf,VX,Km,Jr,Nat.reduceAdd,qB,qi,qE,allLive,JS,qf,VX,Km,Jr,Nat.reduceAdd,qB,qi,qE,allLive,JS,hbl];rw[ho'];have k1:bufOk ((G.set kp ⟨[.slice lc o l.length c, .int .i64 ((at_+1:Nat):Int)],0⟩).set k0q0 ⟨[.int .u8 t.kind.toNat, .str t.text, .int .i64 t.line, .int .i64 t.col, .bool t.left,QH 2 pb],0⟩) 2 pb:=ZT (ZT g6 g3 _) ((Vb _ _ ne_0q0_p).trans g4) _;have k2:bufOk B 2 pb:=g6.sub (hsB.trans g2);have k3:=(newE_buf (B:=B) g6 g2 g3).resolve_right (fun n=>n k2);refine⟨Qv ((G.set kp ⟨[.slice lc o l.length c, .int .i64 ((at_+1:Nat):Int)],0⟩).set k0q0 ⟨[.int .u8 t.kind.toNat, .str t.text, .int .i64 t.line, .int .i64 t.col, .bool t.left,QH 2 pb],0⟩) pb,?_,?_,?_,QH 2 pb,Qv B pb,rfl,k3,?_,qs,rfl,BF k2 (by decide) g7 qat (Vl _),fun q hq=>(g8 q hq).mono k3.sub⟩
    ·rw[<-Wp (ZT g6 g3 _) ((Vb _ _ ne_0q0_p).trans g4),<-Wp g6 g3,<-hH7]
     exact V9 (V9 (Vg hn_13q1) _ _) _ _
    ·exact(Zv (Zv g2 (Yb kp) _) hd0 _).trans (BH k1)
    ·exact ZU k1 ((Vb _ _ ne_0q0_p.symm).trans (Vd _ _ _))
    ·exact Sub.bufBoth (hsB.trans (Zv (Zv g2 (Yb kp) _) hd0 _))
end Go.Proofs.YtlhhaagmakhilaaGreatDoor
namespace Go.Proofs.YtlhhaagmakhilaaGreatDoor
open Go.AM
open Go.Proofs
open Go.Col
open Go.Tok
open Go.Cop
open Go.RowKit (Below)
set_option maxRecDepth 100000
theorem qrY{l:List TokC}{i:Nat}(hi:i<l.length):XR l i=if Yp l i COPY=true then i else XR l (i+1):=by
 have hw:Yp l i COPY=(decide ((l.getD i noT).kind=1) && decide ((l.getD i noT).text=COPY)):=by
  unfold Yp Zo;rw[decide_eq_true hi,Vf];congr 1;simp
 unfold XR;rw[qeR noT hi,Ea,hw];cases (decide ((l.getD i noT).kind=1) && decide ((l.getD i noT).text=COPY))with
 |true=>simp
 |false=>
  simp only[Ed,if_true,KV,if_false,KX];omega
theorem copy_end{l:List TokC}{i:Nat}(hi:l.length<=i):XR l i=i:=by
 unfold XR;rw[Vt hi];rfl
theorem NewE.none{B H E:AHeap}(h:NewE B H E){k:Nat}{c:Blk}(hk:H k=some c)(hb:B k=Option.none):E k=Option.none:=h.off k (by rw[hk];exact fun e=>by cases e) hb
def qiV(b:AVal)(t:TokC)(rv:AVal)(more:Bool)(f:FaultC):AVal:= .tuple [b, .agg (qlj t rv), .bool more,QA f]
def NextR(wz:World)(H B:AHeap)(kp:Nat)(v:AVal)(l:List TokC)(i:Nat)(r:AVal)(h':AHeap):Prop:=
 Sub (H.del kp) h'/\∃j:Nat,h' kp=some ⟨[v, .int .i64 j],0⟩/\j<=l.length/\
  ((l.length<=XR l i/\∃bv,r=qiV bv noT .nilSlice false okF/\IsL wz B 5 bv ((l.drop i).map QJ))\/
   (XR l i<l.length/\(Xo l (XR l i+1)).ok=false/\r=qiV .nilSlice noT .nilSlice false (qdj l (XR l i) (Xo l (XR l i+1)).at_))\/
   (XR l i<l.length/\(Xo l (XR l i+1)).ok=true/\j=(Xo l (XR l i+1)).at_/\∃bv rv E,r=qiV bv (Xo l (XR l i+1)).name rv true okF/\IsL wz B 5 bv ((qcl l i (XR l i)).map QJ)/\NewE B H E/\Sub E h'/\IsReps wz E rv (Xo l (XR l i+1)).reps))
set_option maxHeartbeats 2000000 in
theorem c_nextP(wz:World)(H B:AHeap)(kp:Nat)(v:AVal)(l:List TokC)(i:Nat)(eb_p:H kp=some ⟨[v, .int .i64 i],0⟩)(hs_H:Sub B H)(hb:B kp=none)(hv:IsL wz B 5 v (l.map QJ))(hl:l.length<=1000000)(hi:i<=l.length):
 ACall Tryz.prog wz 43 [.ptr (.own kp) 0] H (NextR wz H B kp v l i):=by
 have hlv:=hv.live;have nv:=Ze hv;have hdel:Sub (H.del kp) H:=fun j b hj=>by
  by_cases e:j=kp
  ·subst e;rw[Yb]at hj;cases hj
  ·simpa[Vk,e]using hj
 have hd_p:(H.del kp) kp=none:=Yb kp;have hsB:Sub B (H.del kp):=qbV hs_H hb;have hsl:∀a b,(qfR 5 v a b).live=true:=fun a b=>YF (qfu hv ⟨true,a,b,0⟩);have hrl:(AVal.bool true).live=true:=rfl;have hrc:(AVal.bool true).scal=true:=rfl;refine qP (n:=95) (rs:=[.tmp 2, .cell 3 91, .tmp 4, .cell 5 35]) Tryz.func43 rfl rfl rfl rfl (VL rfl) ?_;simp only[Qd];refine awp_rseq [0,3,5] (by rfl) fun K hK=>?_;simp+decide only[ev,qH,qF,putD,VM,if_false,true_and,↓qd,qb];refine Qk qst (cs:=[.int .u8 0, .str [], .int .i64 0, .int .i64 0, .bool false, .nilSlice]) (by rfl) fun k0q1 hk0q1=>?_;have hn_0q1:H k0q1=none:=by first|assumption|(simp only[V7]at hk0q1;simp only[hk0q1])
 have hf_0q1:B k0q1=none:=Bg hs_H hn_0q1;have ne_0q1_p:k0q1≠kp:=Bh hn_0q1 eb_p;simp+decide only[ev,qH,qF,putD,VM,if_false,true_and,↓qd,qb];refine Qk qbT (cs:=[.int .i64 0, .int .i64 0, .int .i64 0]) (by rfl) fun k0q3 hk0q3=>?_;have ne_0q3_0q1:k0q3≠k0q1:=by simp only[V7]at hk0q3;simp only[hk0q3,ne_eq,not_false_eq_true]
 have hn_0q3:H k0q3=none:=by first|assumption|(simp only[V7]at hk0q3;simp only[hk0q3])
 have hf_0q3:B k0q3=none:=Bg hs_H hn_0q3;have ne_0q3_p:k0q3≠kp:=Bh hn_0q3 eb_p;simp+decide only[qa,putD,VM,VN,Ka];apply hK;clear hK K;obtain⟨H0,hH0⟩:∃H0,H0=(H.set k0q1 ⟨[.int .u8 0, .str [], .int .i64 0, .int .i64 0, .bool false, .nilSlice],0⟩).set k0q3 ⟨[.int .i64 0, .int .i64 0, .int .i64 0],0⟩:=⟨_,rfl⟩
 refine BG (h':=H0) (by rw[hH0];exact Vl _) ?_;have hs_H0:Sub B H0:=by rw[hH0];exact zqB
 have hd0:Sub (H.del kp) H0:=by rw[hH0];exact hdel.trans (V3 (Vg hn_0q1) hn_0q3)
 have eb_p:H0 kp=some ⟨[v, .int .i64 i],0⟩:=by rw[hH0];exact zqA
 have eb_0q1:H0 k0q1=some ⟨[.int .u8 0, .str [], .int .i64 0, .int .i64 0, .bool false, .nilSlice],0⟩:=by rw[hH0];exact zqA
 have eb_0q3:H0 k0q3=some ⟨[.int .i64 0, .int .i64 0, .int .i64 0],0⟩:=by rw[hH0];exact zqA
 have hd_0q1:(H.del kp) k0q1=none:=hdel.none hn_0q1;have hd_0q3:(H.del kp) k0q3=none:=hdel.none hn_0q3;clear hH0;refine awp_rseq [0,3,5,6] (by rfl) fun K hK=>?_;simp+decide only[qa,ev,putD,VM,VO,VN,Ka,true_and,↓qh,qc,↓Qj,qO,Qm,↓qD,qm,YL,↓qG,Qb,qz ag3,↓qd,qb,Qz wz eb_p,VX,Km,Jr,qi];apply hK;clear hK K;refine qL ?_;refine Qp ?_;refine XE [0,3,5,6] (fun j:Nat=>[(0, .ptr (.own kp) 0),(3, .ptr (.own k0q1) 0),(5, .ptr (.own k0q3) 0),(6, .int .i64 i)]) (fun j:Nat=>H0.set kp ⟨[v, .int .i64 j],0⟩) (fun j:Nat=>i<=j/\j<=l.length/\XR l j=XR l i) (fun j:Nat=>l.length-j) i (by rfl) (by rw[qll eb_p];exact Vl _) ⟨KJ _,hi,rfl⟩ ?_;rintro j ⟨hj1,hj2,hj3⟩;obtain⟨H1,hH1⟩:∃H1,H1=H0.set kp ⟨[v, .int .i64 j],0⟩:=⟨_,rfl⟩
 have hs_H1:Sub B H1:=by rw[hH1];exact Zv hs_H0 hb _
 have hd1:Sub (H.del kp) H1:=by rw[hH1];exact Zv hd0 hd_p _
 have eb_p:H1 kp=some ⟨[v, .int .i64 j],0⟩:=by rw[hH1];exact Vd _ _ _
 have eb_0q1:H1 k0q1=some ⟨[.int .u8 0, .str [], .int .i64 0, .int .i64 0, .bool false, .nilSlice],0⟩:=by rw[hH1];exact zqA
 have eb_0q3:H1 k0q3=some ⟨[.int .i64 0, .int .i64 0, .int .i64 0],0⟩:=by rw[hH1];exact zqA
 rw[<-hH1];refine qL ?_;refine Zj [0,3,5,6,23] mixed (by kernel_rfl) (by rfl) (by rfl) fun K hK=>?_;simp+decide only[qa,ev,putD,VM,VO,VN,Ka,true_and,↓qh,qc,↓Qj,qO,Qm,↓qD,qm,YL,↓qG,Qb,qz ag3,UT,qz UJ,↓Xt,QD,↓qA,ql,qZ,cond_false,qp,Zc,Qz wz eb_p,VX,Km,Jr,qi,hlv,nv];apply hK;clear hK K;refine qK (b:=_) rfl (fun hb1=>?_) (fun hb1=>?_)
 ·try simp only[decide_eq_true_eq]at hb1
  have hjl:j<l.length:=by omega
  obtain⟨W,hW⟩:∃W,W=Yp l j COPY:=⟨_,rfl⟩
  have hcs:=qrY hjl;rw[<-hW]at hcs;refine qV ?_;change Awp _ _ _ _ _ _ _;refine Qp ?_;refine awp_rseq [0,3,5,6,7] (by rfl) fun K hK=>?_;simp+decide only[qa,ev,putD,VM,VO,VN,Ka,true_and,↓qh,qc,↓Qj,qO,Qm,↓qD,qm,YL,↓qG,Qb,qz ag3,↓qd,qb,Qz wz eb_p,VX,Km,Jr,qi];apply hK;clear hK K;refine qL ?_;refine awp_rseq [0,3,5,6,7,30] (by rfl) fun K hK=>?_;simp+decide only[ev,putD,VM,VO,Ka,true_and,↓qh,qc];refine QO (by rfl) (by rfl) (qlZ wz _ B kp _ l j COPY zqA zqB hv (by omega)) fun x4q1 h4q1 hx4q1=>?_;rw[<-hW]at hx4q1;obtain⟨rfl,rfl⟩:=hx4q1;simp+decide only[qa,ev,putD,VM,VO,VN,Ka,true_and,↓Yz,XP,Yk];apply hK;clear hK K;refine qK (b:=_) rfl (fun hb2=>?_) (fun hb2=>?_)
  ·try simp only[Ji]at hb2
   rw[if_neg (by simpa using hb2)]at hcs;have hWf:W=false:=by simpa using hb2
   rw[hWf,if_neg (by decide)];refine awp_rseq [0,3,5,6] (by rfl) fun K hK=>?_;simp+decide only[ev,qH,qF,putD,VM,VO,Ka,true_and,↓qh,qc,↓Qj,qO,Qm,↓qD,qm,YL,↓qG,Qb,qz ag3,↓qA,ql,qC,cond_false,qp,Xc,QP,VX,Km,Jr,qi];try simp(disch:=omega)only[wrap_i64]
   refine qo (by rfl) (by rfl) zqA sz3 (by rfl) (by rfl) zqD (Js _) (by first|rfl|(simp+decide only[ev,putD,VM,VO,Ka,VV,QG,JS,Vf,hrc,XV,Zf,XF])) ?_;simp only[Vh,VV];simp+decide only[qa,ev,putD,VO,VN,Ka,setAt,VW,Ki];apply hK;clear hK K;refine XJ ?_;exact⟨j+1,rfl,by(rw[hH1];simp only[Vh];exact Vl _),⟨by omega,hjl,by rw[<-hcs];exact hj3⟩,by omega⟩
  ·try simp only[VS]at hb2
   rw[if_pos (by simpa using hb2)]at hcs;have hci:XR l i=j:=by rw[<-hj3];exact hcs
   have hWt:W=true:=by simpa using hb2
   rw[hWt,if_pos rfl];refine qV ?_;change Awp _ _ _ _ _ _ _;refine awp_rseq [0,3,5,6,7,8,9] (by rfl) fun K hK=>?_;simp+decide only[ev,putD,VM,VO,Ka,true_and,↓qh,qc];refine QO (by rfl) (by rfl) (qny wz _ B kp v l (j+1) zqA zqB hb hv hl (by omega)) fun x6q1 h6q1 hx6q1=>?_;obtain⟨st,hst⟩:∃st,st=Xo l (j+1):=⟨_,rfl⟩
   rw[<-hst]at hx6q1;obtain⟨hsub6,eb_p,rv,E,rfl,hE6,hE6s,hrp⟩:=hx6q1;have hstm:=qbd (l:=l) (i:=j+1) (by omega);rw[<-hst]at hstm;have hd6':Sub (H.del kp) ((H1.set kp ⟨[v, .int .i64 ((j+1:Nat):Int)],0⟩).del kp):=qbV (Zv hd1 hd_p _) hd_p;have hd6:Sub (H.del kp) h6q1:=hd6'.trans hsub6;have hs_h6q1:Sub B h6q1:=(qbV (Zv hs_H1 hb _) hb).trans hsub6;have he_0q1:E k0q1=none:=hE6.none ((Vb _ _ ne_0q1_p).trans eb_0q1) hf_0q1;have he_0q3:E k0q3=none:=hE6.none ((Vb _ _ ne_0q3_p).trans eb_0q3) hf_0q3;have he_p:E kp=none:=hE6.none (Vd _ _ _) hb;have hE:NewE B H E:=⟨hE6.sub,fun q h1 h2=>hE6.off q (fun e=>by
    by_cases e2:q=kp
    ·subst e2;rw[Vd]at e;cases e
    ·have:(H.del kp) q=none:=(Zv hd1 hd_p _).none e
     simp only[Vk,e2,if_false]at this;exact h1 this) h2⟩
   have eb_0q1:h6q1 k0q1=some ⟨[.int .u8 0, .str [], .int .i64 0, .int .i64 0, .bool false, .nilSlice],0⟩:=hsub6 _ _ (by rw[Ef];simp only[Vk,ne_0q1_p,if_false];exact eb_0q1);have eb_0q3:h6q1 k0q3=some ⟨[.int .i64 0, .int .i64 0, .int .i64 0],0⟩:=hsub6 _ _ (by rw[Ef];simp only[Vk,ne_0q3_p,if_false];exact eb_0q3);have hrc:rv.scal=true:=by obtain⟨qs,-,q2,-⟩:=hrp;exact q2.scal
   have hrl:=YF hrc;unfold qlj;simp+decide only[ev,putD,VM,VO,Ka,true_and,↓qh,qc,↓QV,QI,QT,KX,J8,VX,Km,VX,Km,Jr,Nat.reduceAdd];refine Qk qst (cs:=[.int .u8 0, .str [], .int .i64 0, .int .i64 0, .bool false, .nilSlice]) (by rfl) fun k6q5 hk6q5=>?_;have hn_6q5:h6q1 k6q5=none:=by first|assumption|(simp only[V7]at hk6q5;simp only[hk6q5])
   have hf_6q5:B k6q5=none:=Bg hs_h6q1 hn_6q5;have ne_6q5_p:k6q5≠kp:=Bh hn_6q5 eb_p;have ne_6q5_0q1:k6q5≠k0q1:=Bh hn_6q5 eb_0q1;have ne_6q5_0q3:k6q5≠k0q3:=Bh hn_6q5 eb_0q3;refine qo (by rfl) (by rfl) zqA UW (by rfl) (by rfl) zqD (Js _) (by first|rfl|(simp+decide only[ev,putD,VM,VO,Ka,VV,QG,JS,hrc,XV,Zf,XF])) ?_;simp only[Vh,VV];simp+decide only[qa,ev,putD,VM,VO,VN,Ka,true_and,↓qd,qb,setAt,VW,Ki,Jr,Nat.reduceAdd];apply hK;clear hK K;refine qL ?_;refine awp_rseq [0,3,5,6,7,8,44] (by rfl) fun K hK=>?_;simp+decide only[qa,ev,putD,VM,VO,VN,Ka,true_and,↓qh,qc,↓Yz,XP,Yk];apply hK;clear hK K;refine qK (b:=_) rfl (fun hb3=>?_) (fun hb3=>?_)
   ·try simp only[Ji]at hb3
    have hok:st.ok=false:=by simpa using hb3
    obtain⟨lc,o,c,rfl⟩:=Wy hv (by omega);refine BG (h':=h6q1) (Vg hn_6q5) ?_;obtain⟨-,-,e2,e3,-⟩:=qar (hv.mono hs_h6q1) hjl;have e3':rd wz h6q1 lc (o+j*5+2+1)= .int .i64 (l.getD j ZC).col:=e3;refine awp_rseq [0,3,5] (by rfl) fun K hK=>?_;simp+decide only[ev,qH,qF,putD,VM,VO,Ka,true_and,↓qh,qc,↓Qj,qO,Qm,↓qD,qm,UT,↓qG,Qb,qz UJ,↓QN,Qh Tryz.underlying26 QW,qhf,qg qfF qbc,↓Qr,↓qY,UB,evP,Kc,Vj,Qz wz eb_p,qf,VX,Jr,qi,allLive,JS,hlv,e2,e3',Vq];repeat (with_reducible refine And.intro ?_ ?_;· first|trivial|omega|(intro hg;simp only[Kw,JV,Ji,VP,VQ,VS,decide_eq_true_eq,decide_eq_false_iff_not,XT]at hg;omega))
    refine qo (by rfl) (by rfl) zqA QK (by rfl) (by rfl) zqD (Js _) (by first|rfl|(simp+decide only[ev,putD,VM,VO,Ka,VV,QG,JS,Vf,hrc,XV,Zf,XF])) ?_;simp only[VV];simp+decide only[qa,ev,putD,VO,VN,Ka,setAt,VW,Ki,Jr,Nat.reduceAdd];apply hK;clear hK K;refine qL ?_;refine Zj [0,3,5,63] mixed (by kernel_rfl) (by rfl) (by rfl) fun K hK=>?_;simp+decide only[qa,ev,putD,VM,VO,VN,Ka,true_and,↓qh,qc,↓Qj,qO,Qm,↓qD,qm,YL,↓qG,Qb,qz ag3,UT,qz UJ,↓Xt,QD,ZK Tryz.underlying26,↓qA,ql,qZ,cond_false,qp,Zc,QL,ne_eq,not_false_eq_true,Qz wz eb_p,ne_0q3_p.symm,VX,Km,Jr,qi,hlv];apply hK;clear hK K;refine qK (b:=_) rfl (fun hb4=>?_) (fun hb4=>?_)
    ·try simp only[decide_eq_true_eq]at hb4
     have hat:st.at_<l.length:=by omega
     obtain⟨-,-,d2,d3,-⟩:=qar (hv.mono (Zv hs_h6q1 hf_0q3 ⟨[.int .i64 4, .int .i64 (l.getD j ZC).line, .int .i64 (l.getD j ZC).col],0⟩)) hat;have d3':rd wz (h6q1.set k0q3 ⟨[.int .i64 4, .int .i64 (l.getD j ZC).line, .int .i64 (l.getD j ZC).col],0⟩) lc (o+st.at_*5+2+1)= .int .i64 (l.getD st.at_ ZC).col:=d3;refine qaJ 12 mixed (by kernel_rfl) (by rfl) (by rfl) ?_;simp+decide only[ev,putD,VM,VO,Ka,true_and,↓qh,qc,↓Qj,qO,Qm,↓qD,qm,UT,↓qG,Qb,qz UJ,YL,qz ag3,↓QN,Qh Tryz.underlying26 QW,qhf,qg qfF qbc,fa35_1,QL,ne_eq,not_false_eq_true,Qz wz eb_p,ne_0q3_p.symm,qf,VX,Km,Jr,qi,allLive,JS,hlv,d2,d3',Vq];repeat (with_reducible refine And.intro ?_ ?_;· first|trivial|omega|(intro hg;simp only[Kw,JV,Ji,VP,VQ,VS,decide_eq_true_eq,decide_eq_false_iff_not,XT]at hg;omega))
     refine qo (by rfl) (by rfl) zqA qbc (by rfl) (by rfl) zqD (Js _) (by first|rfl|(simp+decide only[ev,putD,VM,VO,Ka,VV,QG,JS,Vf,hrc,XV,Zf,XF])) ?_;simp only[Vh,VV];simp+decide only[qa,ev,putD,VO,Ka,setAt,VW,Ki,Nat.reduceAdd];change Awp _ _ _ _ _ _ _;refine qfD 3 [1] [k0q3] [2,3,4,5] mixed (by kernel_rfl) (by rfl) fun K hK=>?_;simp only[Kh,V6,VB,KP];simp+decide only[Yl,ev,qH,qF,putD,VM,VO,Ka,true_and,↓Un,↓qY,qhp,evP,Vj,↓Zn,Xz,qg Xv QK,↓qay,qb,QP,qf,VX,Km,Jr,Nat.reduceAdd,qi,allLive,JS];refine And.intro (by simp(decide:=true) [qci,ev,VO]) ?_;refine qbs ?_;refine qo (by rfl) (by rfl) zqA UW (by rfl) (by rfl) zqD (Js _) (by first|rfl|(simp+decide only[ev,putD,VM,VO,Ka,VV,QG,JS,Vf,hrc,XV,Zf,XF])) ?_;simp only[VV];rw[qa];refine And.intro (by intro k hk;simp only[KW,Bj,or_false]at hk;first|rfl|(first|subst hk|(rcases hk with rfl|rfl|rfl|rfl|rfl));all_goals (simp[Bd,ne_0q3_0q1]<;>rfl)) ?_;simp+decide only[ev,qH,qF,putD,VM,VO,Ka,true_and,↓qkC,qb,setAt,VW,Ki,Jr,Nat.reduceAdd];refine qbs ?_;refine qo (by rfl) (by rfl) zqA QK (by rfl) (by rfl) zqD (Js _) (by first|rfl|(simp+decide only[ev,putD,VM,VO,Ka,VV,QG,JS,Vf,hrc,XV,Zf,XF])) ?_;simp only[VV];rw[qa];refine And.intro (by intro k hk;simp only[KW,Bj,or_false]at hk;first|rfl|(first|subst hk|(rcases hk with rfl|rfl|rfl|rfl|rfl));all_goals (simp[Bd,ne_0q3_0q1]<;>rfl)) ?_;simp+decide only[qjd,ev,putD,VO,VN,Ka,setAt,VW,Ki,Jr,Nat.reduceAdd];apply hK;clear hK K;refine qN ?_;try simp only[Qf,Qu]
     refine QS (?_) ?_
     ·simp+decide only[QC,qw,qj,VO,Ka,and_true,qw,qj,qg qdt UW,qg Xv QK,Qc,qf,VX,Km,Jr,Nat.reduceAdd,qB,qi,qE,QU,allLive,JS,QL,ne_eq,not_false_eq_true,ne_0q3_0q1.symm,qf,VX,Km,Jr,Nat.reduceAdd,qB,qi,qE,QU,allLive,JS]
     simp+decide only[VO,Ka,qbW,qw,qj,qg qdt UW,qg Xv QK,Qc,qf,VX,Km,Jr,Nat.reduceAdd,qB,qi,qE,QU,allLive,JS,QL,ne_eq,not_false_eq_true,ne_0q3_0q1.symm,qf,VX,Km,Jr,Nat.reduceAdd,qB,qi,qE,QU,allLive,JS];refine⟨_,Vl _,zqB,st.at_,zqA,hstm.2.1, .inr (.inl ⟨by rw[hci];exact hjl,by rw[hci,<-hst];exact hok,?_⟩)⟩;rw[hci,<-hst];unfold qiV QA qdj;rw[if_pos hat];rfl
    ·try simp only[decide_eq_false_iff_not]at hb4
     refine qV ?_;change Awp _ _ _ _ _ _ _;refine qfD 3 [1] [k0q3] [2,3,4,5] mixed (by kernel_rfl) (by rfl) fun K hK=>?_;simp only[Kh,V6,VB,KP];simp+decide only[Yl,ev,qH,qF,putD,VM,VO,Ka,true_and,↓Un,↓qY,qhp,evP,Vj,↓Zn,Xz,qg Xv QK,↓qay,qb,QP,qf,VX,Km,Jr,Nat.reduceAdd,qi,allLive,JS];refine And.intro (by simp(decide:=true) [qci,ev,VO]) ?_;refine qbs ?_;refine qo (by rfl) (by rfl) zqA UW (by rfl) (by rfl) zqD (Js _) (by first|rfl|(simp+decide only[ev,putD,VM,VO,Ka,VV,QG,JS,Vf,hrc,XV,Zf,XF])) ?_;simp only[VV];rw[qa];refine And.intro (by intro k hk;simp only[KW,Bj,or_false]at hk;first|rfl|(first|subst hk|(rcases hk with rfl|rfl|rfl|rfl|rfl));all_goals (simp[Bd,ne_0q3_0q1]<;>rfl)) ?_;simp+decide only[ev,qH,qF,putD,VM,VO,Ka,true_and,↓qkC,qb,setAt,VW,Ki,Jr,Nat.reduceAdd];refine qbs ?_;refine qo (by rfl) (by rfl) zqA QK (by rfl) (by rfl) zqD (Js _) (by first|rfl|(simp+decide only[ev,putD,VM,VO,Ka,VV,QG,JS,Vf,hrc,XV,Zf,XF])) ?_;simp only[VV];rw[qa];refine And.intro (by intro k hk;simp only[KW,Bj,or_false]at hk;first|rfl|(first|subst hk|(rcases hk with rfl|rfl|rfl|rfl|rfl));all_goals (simp[Bd,ne_0q3_0q1]<;>rfl)) ?_;simp+decide only[qjd,ev,putD,VO,VN,Ka,setAt,VW,Ki,Jr,Nat.reduceAdd];apply hK;clear hK K;refine qN ?_;try simp only[Qf,Qu]
     refine QS (?_) ?_
     ·simp+decide only[QC,qw,qj,VO,Ka,and_true,qw,qj,qg qdt UW,qg Xv QK,Qc,qf,VX,Km,Jr,Nat.reduceAdd,qB,qi,qE,QU,allLive,JS,QL,ne_eq,not_false_eq_true,ne_0q3_0q1.symm,qf,VX,Km,Jr,Nat.reduceAdd,qB,qi,qE,QU,allLive,JS]
     simp+decide only[VO,Ka,qbW,qw,qj,qg qdt UW,qg Xv QK,Qc,qf,VX,Km,Jr,Nat.reduceAdd,qB,qi,qE,QU,allLive,JS,QL,ne_eq,not_false_eq_true,ne_0q3_0q1.symm,qf,VX,Km,Jr,Nat.reduceAdd,qB,qi,qE,QU,allLive,JS];refine⟨_,Vl _,zqB,st.at_,zqA,hstm.2.1, .inr (.inl ⟨by rw[hci];exact hjl,by rw[hci,<-hst];exact hok,?_⟩)⟩;rw[hci,<-hst];unfold qiV QA qdj;rw[if_neg (by omega)];rfl
   ·try simp only[VS]at hb3
    have hok:st.ok=true:=by simpa using hb3
    have hsl2:=hv.slice Tryz.underlying26 QW (some (.int .i64 i)) (some (.int .i64 j)) (l:=i) (r:=j) rfl rfl (by omega) (by omega) (by rw[Jo];omega);refine qV ?_;change Awp _ _ _ _ _ _ _;refine YM 10 [8] [2,3,4,5] mixed (by kernel_rfl) (by rfl) fun K hK=>?_;simp only[Kh,V6,VB,KP];simp+decide only[Yl,ev,qH,qF,putD,VM,VO,Ka,true_and,↓XD,qc,↓WI,qO,Qm,↓ZG,qm,UT,↓Zn,Xz,qz UJ,↓qni,Zt,evO,qg qdt UW,↓Un,↓qY,ZV,evP,Vj,↓qay,qb,QL,ne_eq,not_false_eq_true,ne_6q5_p.symm,Qz wz eb_p,QP,qf,VX,Km,Jr,Nat.reduceAdd,qB,qi,qE,allLive,JS,hlv,hrl,hsl2];refine qo (by rfl) (by rfl) zqA UW (by rfl) (by rfl) zqD (Js _) (by first|rfl|(simp+decide only[ev,VO,Ka,VV,QG,JS,hrc,XV,Zf,XF])) ?_;simp only[VV];simp+decide only[ev,qH,qF,putD,VM,VO,Ka,true_and,↓qd,qb,setAt,VW,Ki,Jr,Nat.reduceAdd];refine qo (by rfl) (by rfl) zqA QK (by rfl) (by rfl) zqD (Js _) (by first|rfl|(simp+decide only[ev,putD,VM,VO,Ka,VV,QG,JS,Vf,hrc,XV,Zf,XF])) ?_;simp only[VV];simp+decide only[qa,ev,putD,VO,VN,Ka,setAt,VW,Ki,Jr,Nat.reduceAdd];apply hK;clear hK K;refine qN ?_;try simp only[Qf,Qu]
    refine QS (?_) ?_
    ·simp+decide only[QC,qw,qj,VO,Ka,and_true,qw,qj,qg qdt UW,qg Xv QK,Qc,qf,VX,Km,Jr,Nat.reduceAdd,qB,qi,qE,allLive,JS,QL,ne_eq,not_false_eq_true,ne_0q3_0q1.symm,qf,VX,Km,Jr,Nat.reduceAdd,qB,qi,qE,allLive,JS,hrl]
    simp+decide only[VO,Ka,qbW,qw,qj,qg qdt UW,qg Xv QK,Qc,qf,VX,Km,Jr,Nat.reduceAdd,qB,qi,qE,allLive,JS,QL,ne_eq,not_false_eq_true,ne_0q3_0q1.symm,qf,VX,Km,Jr,Nat.reduceAdd,qB,qi,qE,allLive,JS,hrl];have hd_6q5:(H.del kp) k6q5=none:=hd6.none hn_6q5;refine⟨_,Vl _,zqB,st.at_,zqA,hstm.2.1, .inr (.inr ⟨by rw[hci];exact hjl,by rw[hci,<-hst];exact hok,by rw[hci,<-hst],qfR 5 v i j,rv,E,?_,?_,hE,?_,?_⟩)⟩
    ·rw[hci,<-hst];rfl
    ·rw[hci];exact qdW hv (o:=⟨true,i,j,0⟩) hj1 hj2 rfl
    ·have he_6q5:E k6q5=none:=hE6s.none hn_6q5
     exact zqB
    ·rw[hci,<-hst];exact hrp
 ·try simp only[decide_eq_false_iff_not]at hb1
  have hje:j=l.length:=by omega
  have hce:XR l j=j:=copy_end (by omega);have hsl3:=hv.slice Tryz.underlying26 QW (some (.int .i64 i)) none (l:=i) (r:=l.length) rfl (by rw[Jo];rfl) (by omega) (by omega) (by rw[Jo];omega);refine XJ ?_;change Awp _ _ _ _ _ _ _;refine awp_rseq [2,3,4,5] (by rfl) fun K hK=>?_;simp+decide only[ev,qH,qF,putD,VM,VO,Ka,true_and,↓qh,qc,↓Qj,qO,Qm,↓qD,qm,UT,↓qG,Qb,qz UJ,↓WU,Zt,evO,↓Qr,↓qY,qhp,evP,Vj,ZV,↓qd,qb,Qz wz eb_p,VX,Jr,hlv,hsl3];refine qo (by rfl) (by rfl) zqA UW (by rfl) (by rfl) zqD (Js _) (by first|rfl|(simp+decide only[ev,putD,VM,VO,Ka,VV,QG,JS,Vf,hrc,XV,Zf,XF])) ?_;simp only[VV];simp+decide only[ev,qH,qF,putD,VM,VO,Ka,true_and,↓qd,qb,setAt,VW,Ki,Jr,Nat.reduceAdd];refine qo (by rfl) (by rfl) zqA QK (by rfl) (by rfl) zqD (Js _) (by first|rfl|(simp+decide only[ev,putD,VM,VO,Ka,VV,QG,JS,Vf,hrc,XV,Zf,XF])) ?_;simp only[VV];simp+decide only[qa,ev,putD,VO,VN,Ka,setAt,VW,Ki,Jr,Nat.reduceAdd];apply hK;clear hK K;refine qN ?_;refine QS (?_) ?_
  ·simp+decide only[QC,qw,qj,VO,Ka,and_true,qw,qj,qg qdt UW,qg Xv QK,Qc,qf,VX,Km,Jr,Nat.reduceAdd,qB,qi,qE,QU,allLive,JS,QL,ne_eq,not_false_eq_true,ne_0q3_0q1.symm,qf,VX,Km,Jr,Nat.reduceAdd,qB,qi,qE,QU,allLive,JS]
  simp+decide only[VO,Ka,qbW,qw,qj,qg qdt UW,qg Xv QK,Qc,qf,VX,Km,Jr,Nat.reduceAdd,qB,qi,qE,QU,allLive,JS,QL,ne_eq,not_false_eq_true,ne_0q3_0q1.symm,qf,VX,Km,Jr,Nat.reduceAdd,qB,qi,qE,QU,allLive,JS];refine⟨_,Vl _,zqB,j,zqA,hj2, .inl ⟨by rw[<-hj3,hce];omega,qfR 5 v i l.length,rfl,?_⟩⟩;have:=qdW hv (o:=⟨true,i,l.length,0⟩) hi (KJ _) rfl;unfold qcl at this;rw[Jq (by simp[K5])]at this;exact this
end Go.Proofs.YtlhhaagmakhilaaGreatDoor
namespace Go.Proofs.YtlhhaagmakhilaaGreatDoor
open Go.AM
open Go.Proofs
open Go.Col
open Go.Tok
open Go.Cop
open Go.RowKit (Below)
set_option maxRecDepth 100000
def qaU{α:Type}(p:α->Bool)(l:List α):Int:=match l.findIdx? p with
 |some i=>(i:Int)
 |none=> -1
theorem qkH{α:Type}{p:α->Bool}{l:List α}(d:α){i:Nat}(hi:i<l.length)(hp:p (l.getD i d)=true)(hn:∀j,j<i->p (l.getD j d)=false):qaU p l=i:=by
 have:l.findIdx? p=some i:=by
  rw[BU];refine⟨hi,?_,fun j hj=>?_⟩
  ·rw[Kn,Jz hi]at hp
   exact hp
  ·have:=hn j hj
   rw[Kn,Jz (by omega)]at this;simpa using this
 unfold qaU;rw[this]
theorem qkI{α:Type}{p:α->Bool}{l:List α}(d:α)(hn:∀j,j<l.length->p (l.getD j d)=false):qaU p l= -1:=by
 have:l.findIdx? p=none:=by
  rw[BS];intro x hx;obtain⟨j,hj,rfl⟩:=BM hx;have:=hn j hj;rw[Kn,Jz hj]at this;exact this
 unfold qaU;rw[this]
theorem qgi{α β:Type}(f:α->β)(p:β->Bool)(l:List α):qaU p (l.map f)=qaU (fun x=>p (f x)) l:=by
 unfold qaU;rw[Eg];rfl
abbrev MemQ:=MemC×AVal
def qgd(q:MemQ):List AVal:=[.str q.1.name,q.2]
def IsMems(wz:World)(h:AHeap)(v:AVal)(ms:List MemC):Prop:=∃qs:List MemQ,ms=qs.map (·.1)/\IsL wz h 2 v (qs.map qgd)/\∀q∈qs,IsL wz h 5 q.2 (q.1.toks.map QJ)
theorem IsMems.mono{wz:World}{h h':AHeap}{v:AVal}{ms:List MemC}(hv:IsMems wz h v ms)(hs:Sub h h'):IsMems wz h' v ms:=by
 obtain⟨qs,h1,h2,h3⟩:=hv;exact⟨qs,h1,h2.mono hs,fun q hq=>(h3 q hq).mono hs⟩
def qht:MemQ:=(⟨[],[]⟩, .nilSlice)
def qhs:RepQ:=(⟨[],[]⟩, .nilSlice, .nilSlice)
theorem qcF{α:Type}{l:List α}(d:α){i:Nat}(hi:i<l.length):l.getD i d∈l:=by
 rw[Kn,Jz hi];exact VH hi
section
variable {wz:World} {h:AHeap} {v:AVal}
theorem mem_len{qs:List MemQ}(hv:IsL wz h 2 v (qs.map qgd)):∀H:AHeap,Yn Tryz.prog H 28 v=⟨True, .int .i64 qs.length⟩:=by
 have:=hv.len Tryz.underlying28
 rwa [Jo]at this
theorem qnb{qs:List MemQ}(hv:IsL wz h 2 v (qs.map qgd))(hn:0<qs.length):∃lc o c,v= .slice lc o qs.length c:=by
 obtain⟨lc,o,c,e⟩:=hv.open (fun e=>by rw[VU]at e;subst e;simp at hn);rw[Jo]at e;exact⟨lc,o,c,e⟩
theorem mem_at{qs:List MemQ}{lc:AM.Loc}{o:Nat}{c:Cap}(hv:IsL wz h 2 (.slice lc o qs.length c) (qs.map qgd)){i:Nat}(hi:i<qs.length):rd wz h lc (o+i*2)= .str (qs.getD i qht).1.name/\rd wz h lc (o+i*2+1)=(qs.getD i qht).2:=by
 have he:=hv.elem (i:=i) (by rw[Jo];exact hi);rw[getD_map qht hi]at he;simp only[qf,qgd,List.cons.injEq,and_true]at he;exact he
theorem qlr{qs:List RepQ}(hv:IsL wz h 2 v (qs.map UC)):∀H:AHeap,Yn Tryz.prog H 43 v=⟨True, .int .i64 qs.length⟩:=by
 have:=hv.len Tryz.underlying43
 rwa [Jo]at this
theorem qiF{qs:List RepQ}(hv:IsL wz h 2 v (qs.map UC))(hn:0<qs.length):∃lc o c,v= .slice lc o qs.length c:=by
 obtain⟨lc,o,c,e⟩:=hv.open (fun e=>by rw[VU]at e;subst e;simp at hn);rw[Jo]at e;exact⟨lc,o,c,e⟩
theorem qls{qs:List RepQ}{lc:AM.Loc}{o:Nat}{c:Cap}(hv:IsL wz h 2 (.slice lc o qs.length c) (qs.map UC)){i:Nat}(hi:i<qs.length):rd wz h lc (o+i*2)=(qs.getD i qhs).2.1/\rd wz h lc (o+i*2+1)=(qs.getD i qhs).2.2:=by
 have he:=hv.elem (i:=i) (by rw[Jo];exact hi);rw[getD_map qhs hi]at he;simp only[qf,UC,List.cons.injEq,and_true]at he;exact he
end
theorem c_indexM(wz:World)(h:AHeap)(v:AVal)(qs:List MemQ)(f:FuncId)(cap:List AVal)(p:MemQ->Bool)(hv:IsL wz h 2 v (qs.map qgd))(hq:∀q∈qs,q.2.live=true)(hl:qs.length<=1099511627776)(hfl:(AVal.func f cap).live=true)
 (hf:∀q∈qs,ACall Tryz.prog wz f ([.agg (qgd q)]++cap) h (fun r h'=>r= .bool (p q)/\h'=h)):
 ACall Tryz.prog wz 57 [v, .func f cap] h (fun r h'=>r= .int .i64 (qaU p qs)/\h'=h):=by
 have hlv:=hv.live;have nv:=mem_len hv;refine qP (n:=19) (rs:=[.tmp 4]) Tryz.func57 rfl rfl rfl rfl (VL rfl) ?_;simp only[Qd];refine awp_rseq [0,1] (by rfl) fun K hK=>?_;simp+decide only[qa,ev,qH,qF,putD,VM,VN,Ka,true_and,↓qd,qb,Jr];apply hK;clear hK K;refine qL ?_;refine awp_rseq [0,1,7,8] (by rfl) fun K hK=>?_;simp+decide only[qa,ev,qH,qF,putD,VM,VO,VN,Ka,true_and,↓qh,qc,↓Xt,QD,nv];apply hK;clear hK K;refine Qp ?_;refine XE [0,1,7,8] (fun i:Nat=>[(0,v),(1, .func f cap),(7, .int .i64 qs.length),(8, .int .i64 i)]) (fun i:Nat=>h) (fun i:Nat=>i<=qs.length/\∀j,j<i->p (qs.getD j qht)=false) (fun i:Nat=>qs.length-i) 0 (by rfl) (Vl _) ⟨Js _,fun j hj=>by omega⟩ ?_;rintro i ⟨hi,hn⟩;refine awp_rseq [0,1,7,8,9] (by rfl) fun K hK=>?_;simp+decide only[qa,ev,putD,VM,VO,VN,Ka,true_and,↓qA,ql,qZ,cond_false,qp,Zc];apply hK;clear hK K;refine qL (qK (b:=_) rfl (fun hb1=>?_) (fun hb1=>?_))
 ·try simp only[decide_eq_true_eq]at hb1
  have hi':i<qs.length:=by omega
  obtain⟨lc,o,c,rfl⟩:=qnb hv (by omega);obtain⟨e0,e1⟩:=mem_at hv hi';obtain⟨q,hqe⟩:∃q,q=qs.getD i qht:=⟨_,rfl⟩
  have hqm:q∈qs:=by rw[hqe];exact qcF qht hi'
  have hql:=hq q hqm;rw[<-hqe]at e0 e1;refine qV ?_;change Awp _ _ _ _ _ _ _;refine qL ?_;refine Qp ?_;refine awp_rseq [0,1,5,7,8] (by rfl) fun K hK=>?_;simp+decide only[qa,ev,putD,VM,VO,VN,Ka,true_and,↓qh,qc,↓qd,qb];apply hK;clear hK K;refine awp_rseq [0,1,5,7,8,16] (by rfl) fun K hK=>?_;simp+decide only[ev,putD,VM,VO,Ka,true_and,↓qh,qc,↓QN,Qb,Qh Tryz.underlying28 sz57,↓qG,qg ag57 sz57,qf,qE,allLive,JS,e0,e1,hql,Vq];repeat (with_reducible refine And.intro ?_ ?_;· first|trivial|omega|(intro hg;simp only[Kw,JV,Ji,VP,VQ,VS,decide_eq_true_eq,decide_eq_false_iff_not,XT]at hg;omega))
  refine qM (V:= .bool (p q)) (by rfl) (by rfl) (hf q hqm) ?_;simp+decide only[qa,putD,VM,VN,Ka];apply hK;clear hK K;refine qK (b:=_) rfl (fun hb2=>?_) (fun hb2=>?_)
  ·skip
   refine awp_rseq [4] (by rfl) fun K hK=>?_;simp+decide only[qa,ev,putD,VM,VO,VN,Ka,true_and,↓qh,qc,↓qd,qb];apply hK;clear hK K;refine qN ?_;try simp only[Qf,Qu]
   refine qW h zqC (qR (Qa)) ?_;simp+decide only[VO,if_true,and_true,Ql];rw[qkH qht hi' (by rw[<-hqe];exact hb2) hn]
  ·skip
   refine qV ?_;change Awp _ _ _ _ _ _ _;refine XL [0,1,7,8] (by rfl) ?_;simp+decide only[qa,ev,qH,qF,putD,VM,VO,VN,Ka,true_and,↓qA,ql,qC,cond_false,qp,Xc,↓qh,qc];try simp(disch:=omega)only[wrap_i64]
   try simp only[Qi]
   exact⟨i+1,rfl,Vl _,⟨hi',fun j hj=>by
    rcases KT j i with z|z
    ·exact hn j z
    ·rw[show j=i by omega,<-hqe];exact hb2⟩,by omega⟩
 ·try simp only[decide_eq_false_iff_not]at hb1
  refine XJ ?_;change Awp _ _ _ _ _ _ _;refine awp_rseq [4] (by rfl) fun K hK=>?_;simp+decide only[qa,ev,qH,qF,putD,VM,VN,Ka,true_and,↓qd,qb];apply hK;clear hK K;refine qN ?_;refine qW h zqC (qR (Qa)) ?_;simp+decide only[VO,if_true,and_true,Ql];rw[qkI qht fun j hj=>hn j (by omega)]
theorem qnC(wz:World)(h:AHeap)(v:AVal)(qs:List RepQ)(f:FuncId)(cap:List AVal)(p:RepQ->Bool)(hv:IsL wz h 2 v (qs.map UC))(hq:∀q∈qs,q.2.1.live=true/\q.2.2.live=true)(hl:qs.length<=1099511627776)(hfl:(AVal.func f cap).live=true)
 (hf:∀q∈qs,ACall Tryz.prog wz f ([.agg (UC q)]++cap) h (fun r h'=>r= .bool (p q)/\h'=h)):
 ACall Tryz.prog wz 37 [v, .func f cap] h (fun r h'=>r= .int .i64 (qaU p qs)/\h'=h):=by
 have hlv:=hv.live;have nv:=qlr hv;refine qP (n:=19) (rs:=[.tmp 4]) Tryz.func37 rfl rfl rfl rfl (VL rfl) ?_;simp only[Qd];refine awp_rseq [0,1] (by rfl) fun K hK=>?_;simp+decide only[qa,ev,qH,qF,putD,VM,VN,Ka,true_and,↓qd,qb,Jr];apply hK;clear hK K;refine qL ?_;refine awp_rseq [0,1,7,8] (by rfl) fun K hK=>?_;simp+decide only[qa,ev,qH,qF,putD,VM,VO,VN,Ka,true_and,↓qh,qc,↓Xt,QD,nv];apply hK;clear hK K;refine Qp ?_;refine XE [0,1,7,8] (fun i:Nat=>[(0,v),(1, .func f cap),(7, .int .i64 qs.length),(8, .int .i64 i)]) (fun i:Nat=>h) (fun i:Nat=>i<=qs.length/\∀j,j<i->p (qs.getD j qhs)=false) (fun i:Nat=>qs.length-i) 0 (by rfl) (Vl _) ⟨Js _,fun j hj=>by omega⟩ ?_;rintro i ⟨hi,hn⟩;refine awp_rseq [0,1,7,8,9] (by rfl) fun K hK=>?_;simp+decide only[qa,ev,putD,VM,VO,VN,Ka,true_and,↓qA,ql,qZ,cond_false,qp,Zc];apply hK;clear hK K;refine qL (qK (b:=_) rfl (fun hb1=>?_) (fun hb1=>?_))
 ·try simp only[decide_eq_true_eq]at hb1
  have hi':i<qs.length:=by omega
  obtain⟨lc,o,c,rfl⟩:=qiF hv (by omega);obtain⟨e0,e1⟩:=qls hv hi';obtain⟨q,hqe⟩:∃q,q=qs.getD i qhs:=⟨_,rfl⟩
  have hqm:q∈qs:=by rw[hqe];exact qcF qhs hi'
  obtain⟨hql,hqr⟩:=hq q hqm;rw[<-hqe]at e0 e1;refine qV ?_;change Awp _ _ _ _ _ _ _;refine qL ?_;refine Qp ?_;refine awp_rseq [0,1,5,7,8] (by rfl) fun K hK=>?_;simp+decide only[qa,ev,putD,VM,VO,VN,Ka,true_and,↓qh,qc,↓qd,qb];apply hK;clear hK K;refine awp_rseq [0,1,5,7,8,16] (by rfl) fun K hK=>?_;simp+decide only[ev,putD,VM,VO,Ka,true_and,↓qh,qc,↓QN,Qb,Qh Tryz.underlying43 qcr,↓qG,qg qnO qcr,qf,allLive,JS,e0,e1,hql,hqr,Vq];repeat (with_reducible refine And.intro ?_ ?_;· first|trivial|omega|(intro hg;simp only[Kw,JV,Ji,VP,VQ,VS,decide_eq_true_eq,decide_eq_false_iff_not,XT]at hg;omega))
  refine qM (V:= .bool (p q)) (by rfl) (by rfl) (hf q hqm) ?_;simp+decide only[qa,putD,VM,VN,Ka];apply hK;clear hK K;refine qK (b:=_) rfl (fun hb2=>?_) (fun hb2=>?_)
  ·skip
   refine awp_rseq [4] (by rfl) fun K hK=>?_;simp+decide only[qa,ev,putD,VM,VO,VN,Ka,true_and,↓qh,qc,↓qd,qb];apply hK;clear hK K;refine qN ?_;try simp only[Qf,Qu]
   refine qW h zqC (qR (Qa)) ?_;simp+decide only[VO,if_true,and_true,Ql];rw[qkH qhs hi' (by rw[<-hqe];exact hb2) hn]
  ·skip
   refine qV ?_;change Awp _ _ _ _ _ _ _;refine XL [0,1,7,8] (by rfl) ?_;simp+decide only[qa,ev,qH,qF,putD,VM,VO,VN,Ka,true_and,↓qA,ql,qC,cond_false,qp,Xc,↓qh,qc];try simp(disch:=omega)only[wrap_i64]
   try simp only[Qi]
   exact⟨i+1,rfl,Vl _,⟨hi',fun j hj=>by
    rcases KT j i with z|z
    ·exact hn j z
    ·rw[show j=i by omega,<-hqe];exact hb2⟩,by omega⟩
 ·try simp only[decide_eq_false_iff_not]at hb1
  refine XJ ?_;change Awp _ _ _ _ _ _ _;refine awp_rseq [4] (by rfl) fun K hK=>?_;simp+decide only[qa,ev,qH,qF,putD,VM,VN,Ka,true_and,↓qd,qb];apply hK;clear hK K;refine qN ?_;refine qW h zqC (qR (Qa)) ?_;simp+decide only[VO,if_true,and_true,Ql];rw[qkI qhs fun j hj=>hn j (by omega)]
end Go.Proofs.YtlhhaagmakhilaaGreatDoor
namespace Go.Proofs.YtlhhaagmakhilaaGreatDoor
open Go.AM
open Go.Proofs
open Go.Col
open Go.Tok
open Go.Cop
open Go.RowKit (Below)
set_option maxRecDepth 100000
theorem qfk:∀l m:List TokC,qaZ l m=alike l m
 |[],[]=>rfl
 |[],_::_=>rfl
 |_::_,[]=>rfl
 |a::l,b::m=>by rw[qaZ,alike,qfk l m];rfl
theorem idxI_pos{α:Type}(p:α->Bool)(l:List α):decide (0<=qaU p l)=l.any p:=by
 unfold qaU;cases h:l.findIdx? p with
 |none=>
  rw[BS]at h;have:l.any p=false:=by rw[Eh];intro x hx;simp[h x hx]
  rw[this];rfl
 |some i=>
  rw[BU]at h;obtain⟨hi,hp,-⟩:=h;have:l.any p=true:=by rw[JX];exact⟨l[i],VH hi,hp⟩
  rw[this,decide_eq_true_eq];simp only;omega
theorem RepOk.lives{wz:World}{h:AHeap}{q:RepQ}(hq:RepOk wz h q):q.2.1.live=true/\q.2.2.live=true/\q.2.1.scal=true/\q.2.2.scal=true:=⟨hq.old.live,hq.new.live,hq.old.scal,hq.new.scal⟩
theorem c_rep1(wz:World)(h:AHeap)(q:RepQ)(hq:RepOk wz h q):
 ACall Tryz.prog wz 36 [.agg (UC q)] h (fun r h'=>r= .bool (decide (q.1.old=[]))/\h'=h):=by
 obtain⟨h1,h2,h3,h4⟩:=hq.lives;have no:=Ze hq.old;obtain⟨⟨x,y⟩,ov,nv⟩:=q;simp only at h1 h2 h3 h4 no;unfold UC;have e:decide (x=[])=decide ((x.length:Int)=0):=decide_eq_decide.2 ⟨fun e=>by rw[e];rfl,fun e=>Ke (by omega)⟩;simp only;rw[e];refine qP (n:=7) (rs:=[.tmp 2]) Tryz.func36 rfl rfl rfl rfl (VL rfl) ?_;simp only[Qd];refine awp_rseq [1] (by rfl) fun K hK=>?_;refine YN (by rfl) (by rfl) (by rfl) fun k0q0 hk0q0=>?_;try have hf_0q0:h k0q0=none:=by first|assumption|(simp only[V7]at hk0q0;simp only[hk0q0])
 skip;simp+decide only[qa,ev,qH,qF,putD,VM,VO,VN,Ka,true_and,↓qd,qb,VV];apply hK;clear hK K;refine awp_rseq [2] (by rfl) fun K hK=>?_;simp+decide only[qa,ev,qH,qF,putD,VM,VO,VN,Ka,true_and,↓qD,qm,qhg,↓qG,Qb,qz UJ,↓Xt,QD,↓qA,ql,qC,cond_false,qp,XH,↓qd,qb,QP,VX,Jr,h1,no];apply hK;clear hK K;refine qN ?_;refine qW h zqC (qR (Qa)) ?_;simp+decide only[VO,if_true,and_true,Ql];skip
theorem c_contR(wz:World)(h:AHeap)(v:AVal)(qs:List RepQ)(hv:IsL wz h 2 v (qs.map UC))(hq:∀q∈qs,RepOk wz h q)(hl:qs.length<=1099511627776):
 ACall Tryz.prog wz 35 [v, .func 36 []] h (fun r h'=>r= .bool (qs.any fun q=>decide (q.1.old=[]))/\h'=h):=by
 have hlv:=hv.live;refine qP (n:=9) (rs:=[.tmp 4]) Tryz.func35 rfl rfl rfl rfl (VL rfl) ?_;simp only[Qd];refine awp_rseq [0,1] (by rfl) fun K hK=>?_;simp+decide only[qa,ev,qH,qF,putD,VM,VN,Ka,true_and,↓qd,qb,Jr];apply hK;clear hK K;refine awp_rseq [4] (by rfl) fun K hK=>?_;simp+decide only[ev,putD,VM,VO,Ka,true_and,↓qh,qc];refine qM (V:= .int .i64 (qaU (fun q=>decide (q.1.old=[])) qs)) (by rfl) (by rfl) (qnC wz _ v qs _ [] (fun q=>decide (q.1.old=[])) hv (fun q hm=>⟨(hq q hm).lives.1,(hq q hm).lives.2.1⟩) hl rfl (fun q hm=>by rw[Be];exact c_rep1 wz _ q (hq q hm))) ?_;simp+decide only[qa,ev,qH,qF,putD,VM,VO,VN,Ka,true_and,↓qA,ql,qC,cond_false,qp,qav,↓qd,qb];apply hK;clear hK K;refine qN ?_;refine qW h zqC (qR (Qa)) ?_;simp+decide only[VO,if_true,and_true,Ql];rw[idxI_pos]
theorem qsc(wz:World)(h:AHeap)(q:RepQ)(hq:RepOk wz h q)(kl ka:Nat)(lv:AVal)(l:List TokC)(at_:Nat)(eb_l:h kl=some ⟨[lv],0⟩)(eb_a:h ka=some ⟨[.int .i64 at_],0⟩)(hlv:IsL wz h 5 lv (l.map QJ))(hl:l.length<=1099511627776)(hat:at_<=l.length)(hout:¬at_+q.1.old.length<=l.length):
 ACall Tryz.prog wz 38 ([.agg (UC q)]++[.ptr (.own kl) 0, .ptr (.own ka) 0]) h (fun r h'=>r= .bool (ZB (l.drop at_) q.1.old)/\h'=h):=by
 obtain⟨h1,h2,h3,h4⟩:=hq.lives;have no:=Ze hq.old;have nl:=Ze hlv;have hll:=hlv.live;have hr:ZB (l.drop at_) q.1.old=false:=by
  unfold ZB;rw[decide_eq_false (by rw[K5];omega),VZ]
 rw[hr];obtain⟨⟨x,y⟩,ov,nv⟩:=q;simp only at h1 h2 h3 h4 no hout;have hs_h:Sub h h:=Vl h;have hw1:IntKind.i64.wrap ((l.length:Int)-at_)=(l.length:Int)-at_:=by simp(disch:=omega)only[wrap_i64]
 have hng:¬((x.length:Int)<=l.length-at_):=by omega
 unfold UC;simp only[Kg,Jd];refine qP (n:=26) (rs:=[.tmp 4]) Tryz.func38 rfl rfl rfl rfl (VL rfl) ?_;simp only[Qd];refine awp_rseq [1,2,3] (by rfl) fun K hK=>?_;refine YN (by rfl) (by rfl) (by rfl) fun k0q0 hk0q0=>?_;have hn_0q0:h k0q0=none:=by first|assumption|(simp only[V7]at hk0q0;simp only[hk0q0])
 have hf_0q0:h k0q0=none:=Bg hs_h hn_0q0;have ne_0q0_l:k0q0≠kl:=Bh hn_0q0 eb_l;have ne_0q0_a:k0q0≠ka:=Bh hn_0q0 eb_a;skip;simp+decide only[qa,ev,qH,qF,putD,VM,VO,VN,Ka,true_and,↓qd,qb,VV,Jr,Nat.reduceAdd];apply hK;clear hK K;refine WP [4] mixed (by kernel_rfl) (by rfl) fun K hK=>?_;simp+decide only[ev,putD,VM,VO,Ka,true_and,↓Uu,qm,qhg,↓qev,Xz,qz UJ,↓qlg,QD,qz ag3,↓qfI,ql,qZ,cond_false,qp,qad,qft,↓qcP,qc,↓UY,vgP,qcp,qJ,qI,qy,implies_true,decide_false,ZM,false_implies,↓qfK,↓qsB,↓qmu,↓qir,Zt,evO,QL,ne_eq,not_false_eq_true,ne_0q0_l.symm,ne_0q0_a.symm,Qz wz eb_l,Qz wz eb_a,QP,VX,Jr,qi,h1,no,nl,hll,hw1,hng];first|refine qmv (by rfl) ?_|refine fOps_gno (by rfl) ?_
 simp+decide only[qbw,ev,qH,qF,putD,VM,VO,VN,Ka,true_and,↓qfG,Qs,Qg,↓qco,qb];apply hK;clear hK K;refine qN ?_;refine qW h zqC (qR (Qa)) ?_;simp+decide only[VO,if_true,and_true,Ql];all_goals first|rfl|exact⟨rfl,rfl⟩|(simp+decide only[Ka, *];done)|(trace_state;fail)
theorem c_rep2In(wz:World)(h:AHeap)(q:RepQ)(hq:RepOk wz h q)(kl ka:Nat)(lv:AVal)(l:List TokC)(at_:Nat)(eb_l:h kl=some ⟨[lv],0⟩)(eb_a:h ka=some ⟨[.int .i64 at_],0⟩)(hlv:IsL wz h 5 lv (l.map QJ))(hl:l.length<=1099511627776)(hin:at_+q.1.old.length<=l.length):
 ACall Tryz.prog wz 38 ([.agg (UC q)]++[.ptr (.own kl) 0, .ptr (.own ka) 0]) h (fun r h'=>r= .bool (ZB (l.drop at_) q.1.old)/\h'=h):=by
 obtain⟨h1,h2,h3,h4⟩:=hq.lives;have no:=Ze hq.old;have nl:=Ze hlv;have hll:=hlv.live;have hr:ZB (l.drop at_) q.1.old=qaZ q.1.old (qcl l at_ (at_+q.1.old.length)):=by
  unfold ZB qcl;rw[decide_eq_true (by rw[K5];omega),Vf,qfk,Nat.add_sub_cancel_left]
 rw[hr];have hoq:=hq.old;obtain⟨⟨x,y⟩,ov,nv⟩:=q;simp only at h1 h2 h3 h4 no hin hoq;have hs_h:Sub h h:=Vl h;have hw1:IntKind.i64.wrap ((l.length:Int)-at_)=(l.length:Int)-at_:=by simp(disch:=omega)only[wrap_i64]
 have hw2:IntKind.i64.wrap ((at_:Int)+x.length)=(at_:Int)+x.length:=by simp(disch:=omega)only[wrap_i64]
 have hg0:(x.length:Int)<=l.length-at_:=by omega
 have hsl:=hlv.slice Tryz.underlying26 QW (some (.int .i64 at_)) (some (.int .i64 ((at_:Int)+x.length))) (l:=at_) (r:=(at_:Int)+x.length) rfl rfl (by omega) (by omega) (by rw[Jo];omega);have hcut:=qdW hlv (o:=⟨true,at_,at_+x.length,0⟩) (Ei _ _) hin rfl;have hsv:qfR 5 lv ((at_:Int)).toNat (((at_:Int)+x.length)).toNat=qfe lv ⟨true,at_,at_+x.length,0⟩:=by
  rw[show(((at_:Int)+x.length)).toNat=at_+x.length by omega];rfl
 rw[hsv]at hsl;unfold UC;simp only[Kg,Jd];refine qP (n:=26) (rs:=[.tmp 4]) Tryz.func38 rfl rfl rfl rfl (VL rfl) ?_;simp only[Qd];refine awp_rseq [1,2,3] (by rfl) fun K hK=>?_;refine YN (by rfl) (by rfl) (by rfl) fun k0q0 hk0q0=>?_;have hn_0q0:h k0q0=none:=by first|assumption|(simp only[V7]at hk0q0;simp only[hk0q0])
 have hf_0q0:h k0q0=none:=Bg hs_h hn_0q0;have ne_0q0_l:k0q0≠kl:=Bh hn_0q0 eb_l;have ne_0q0_a:k0q0≠ka:=Bh hn_0q0 eb_a;skip;simp+decide only[qa,ev,qH,qF,putD,VM,VO,VN,Ka,true_and,↓qd,qb,VV,Jr,Nat.reduceAdd];apply hK;clear hK K;refine WP [4] mixed (by kernel_rfl) (by rfl) fun K hK=>?_;simp+decide only[ev,putD,VM,VO,Ka,true_and,↓Uu,qm,qhg,↓qev,Xz,qz UJ,↓qlg,QD,qz ag3,↓qfI,ql,qZ,cond_false,qp,qad,qft,↓qcP,qc,↓UY,vgP,qcp,qJ,qI,qy,implies_true,decide_true,Qy,↓qfK,↓qsB,↓qmu,Xc,↓qir,Zt,evO,QL,ne_eq,not_false_eq_true,ne_0q0_l.symm,ne_0q0_a.symm,Qz wz eb_l,Qz wz eb_a,QP,VX,Jr,qi,h1,no,nl,hll,hw1,hw2,hg0,hsl];refine qcR (V:= .bool (qaZ x (qcl l at_ (at_+x.length)))) (f:=_) (cap:=_) (xs:=_) (by first|rfl|(simp+decide only[gv,qJ,VO,Ka,QZ,qI])) (fun hg=>⟨rfl,?_⟩) (fun hg=>c_Same wz _ ov _ x _ (hoq.mono zqB) (hcut.mono zqB) (by omega)) ?_
 ·try simp+decide only[gv,qJ,VO,Ka,qy]at hg
  simp+decide only[evs,ev,VO,Ka,Be,Kc,Vj]
 simp+decide only[qbw,ev,qH,qF,putD,VM,VO,VN,Ka,true_and,gv,qJ,qy,↓qfG,Qs,Qg,Xn,Xp,↓qco,qb];apply hK;clear hK K;refine qN ?_;refine qW h zqC (qR (Qa)) ?_;simp+decide only[VO,if_true,and_true,Ql];rw[Vf]
theorem c_rep2(wz:World)(h:AHeap)(q:RepQ)(hq:RepOk wz h q)(kl ka:Nat)(lv:AVal)(l:List TokC)(at_:Nat)(eb_l:h kl=some ⟨[lv],0⟩)(eb_a:h ka=some ⟨[.int .i64 at_],0⟩)(hlv:IsL wz h 5 lv (l.map QJ))(hl:l.length<=1099511627776)(hat:at_<=l.length):
 ACall Tryz.prog wz 38 ([.agg (UC q)]++[.ptr (.own kl) 0, .ptr (.own ka) 0]) h (fun r h'=>r= .bool (ZB (l.drop at_) q.1.old)/\h'=h):=by
 by_cases hin:at_+q.1.old.length<=l.length
 ·exact c_rep2In wz h q hq kl ka lv l at_ eb_l eb_a hlv hl hin
 ·exact qsc wz h q hq kl ka lv l at_ eb_l eb_a hlv hl hat hin
end Go.Proofs.YtlhhaagmakhilaaGreatDoor
namespace Go.Proofs.YtlhhaagmakhilaaGreatDoor
open Go.AM
open Go.Proofs
open Go.Col
open Go.Tok
open Go.Cop
open Go.RowKit (Below)
set_option maxRecDepth 100000
theorem qfy(v:AVal):Yd (Yd v)=Yd v:=by cases v<;>rfl
def OutR(h:AHeap)(out:List TokC)(v:AVal)(h':AHeap):Prop:=∃tb,v=Yd (QH 5 tb)/\bufOk h 5 tb/\Ws tb=(out.map QJ).flatten/\h'=Qv h tb
theorem OutR.toks{wz:World}{h h':AHeap}{out:List TokC}{v:AVal}(hr:OutR h out v h'):IsL wz h' 5 v (out.map QJ)/\Yd v=v/\Sub h h':=by
 obtain⟨tb,rfl,h1,h2,rfl⟩:=hr;exact⟨(BF h1 (by decide) h2 Xj (Vl _)).clip,qfy _,BH h1⟩
theorem OutR.nil(h:AHeap):OutR h [] .nilSlice h:=⟨none,rfl,trivial,rfl,rfl⟩
theorem qkZ{H:AHeap}{es:Nat}{b:Option Buf}{j:Nat}(hb:bufOk H es b)(hj:Qv H b j=none)(c:Blk):bufOk (H.set j c) es b:=by
 cases b with
 |none=>trivial
 |some b=>
  have hne:b.blk≠j:=fun e=>by
   rw[<-e,show Qv H (some b)=H.set b.blk ⟨b.cells,0⟩from rfl,Vd]at hj;cases hj
  exact⟨(Vb _ _ hne).trans hb.1,hb.2⟩
structure RpG where
 at_:Nat
 ka:Nat
 tb:Option Buf
 out:List TokC
structure RpOk(h:AHeap)(k0:Nat)(lv:AVal)(l:List TokC)(rs:List RepC)(s:RpG):Prop where
 at_:s.at_<=l.length
 new:h s.ka=none/\s.ka≠k0
 ok:bufOk ((h.set k0 ⟨[lv],0⟩).set s.ka ⟨[.int .i64 s.at_],0⟩) 5 s.tb
 eq:Ws s.tb=(s.out.map QJ).flatten
 go:s.out++WB rs (l.drop s.at_)=WB rs l
set_option maxHeartbeats 2000000 in
theorem qcn(wz:World)(h:AHeap)(lv rv:AVal)(l:List TokC)(rs:List RepC)(hlv:IsL wz h 5 lv (l.map QJ))(hrv:IsReps wz h rv rs)(hl:l.length<=1000000)(hrl:rs.length<=1000000)(hn:∀x∈rs,x.new.length<=1000000):
 ACall Tryz.prog wz 16 [lv,rv] h (fun r h'=>∃v,r= .tuple [v, .int .i64 (UF l rs).2]/\OutR h (UF l rs).1 v h'):=by
 obtain⟨qs,hqs,hq2,hq3⟩:=hrv;have hll:=hlv.live;have hls:=hlv.scal;have nl:=Ze hlv;have hlr:=hq2.live;have nr:=qlr hq2;have hqn:qs.length=rs.length:=by rw[hqs,Jo]
 obtain⟨an,han⟩:∃b,b=rs.any (fun x=>decide (x.old=[])):=⟨_,rfl⟩
 have hanq:qs.any (fun q=>decide (q.1.old=[]))=an:=by rw[han,hqs,List.any_map];rfl
 have hR:UF l rs=if an=true then([],1)else if 65536<(WB rs l).length then([],3)else(WB rs l,0):=by rw[han];rfl
 refine qP (n:=50) (rs:=[.tmp 4, .tmp 5]) Tryz.func16 rfl rfl rfl rfl (VL rfl) ?_;simp only[Qd];refine awp_rseq [1,2] (by rfl) fun K hK=>?_;refine YN (v:=lv) (cs:=[lv]) (by rfl) hll hlv.cells fun k0q0 hk0q0=>?_;try have hf_0q0:h k0q0=none:=by first|assumption|(simp only[V7]at hk0q0;simp only[hk0q0])
 simp+decide only[qa,ev,qH,qF,putD,VM,VN,Ka,true_and,↓qd,qb,Jr];apply hK;clear hK K;refine qL ?_;refine awp_rseq [1,2,10] (by rfl) fun K hK=>?_;simp+decide only[ev,putD,VM,VO,Ka,true_and,↓qh,qc];refine qM (V:= .bool an) (by rfl) (by rfl) (by rw[<-hanq];exact c_contR wz _ rv qs (hq2.mono zqB) (fun q hm=>(hq3 q hm).mono zqB) (by omega)) ?_;simp+decide only[qa,putD,VM,VN,Ka];apply hK;clear hK K;refine qK (b:=_) rfl (fun hb1=>?_) (fun hb1=>?_)
 ·skip
  refine awp_rseq [4,5] (by rfl) fun K hK=>?_;simp+decide only[qa,ev,qH,qF,putD,VM,VN,Ka,true_and,↓qd,qb];apply hK;clear hK K;refine qN ?_;try simp only[Qf]
  refine qW h zqB (qR (qR (Qa))) ?_;simp+decide only[VO,Ka,WA];rw[hR,if_pos hb1];exact⟨.nilSlice,rfl,OutR.nil h⟩
 ·skip
  rw[if_neg (by rw[hb1];decide)]at hR;have hrs:∀x∈rs,x.old≠[]:=fun x hx e=>by
   rw[hb1]at han;have:=han.symm;rw[Eh]at this;exact this x hx (by simp[e])
  refine qV ?_;change Awp _ _ _ _ _ _ _;refine awp_rseq [1,2,6] (by rfl) fun K hK=>?_;simp+decide only[qa,ev,qH,qF,putD,VM,VN,Ka,true_and,↓qd,qb];apply hK;clear hK K;refine qL ?_;refine awp_rseq [1,2,6,7] (by rfl) fun K hK=>?_;refine Qk ze3 (cs:=[.int .i64 0]) (by rfl) fun k4q0 hk4q0=>?_;have ne_4q0_0q0:k4q0≠k0q0:=by simp only[V7]at hk4q0;simp only[hk4q0,ne_eq,not_false_eq_true]
  try have hf_4q0:h k4q0=none:=by first|assumption|(simp only[V7]at hk4q0;simp only[hk4q0])
  refine qo (by rfl) (by rfl) zqA sz3 (by rfl) (by rfl) zqD (Js _) (by rfl) ?_;simp only[Vh,VV];simp+decide only[qa,ev,qH,qF,putD,VM,VN,Ka,setAt,VW];apply hK;clear hK K;refine Qp ?_;refine XE [1,2,6,7] (fun s:RpG=>[(1,rv),(2, .ptr (.own k0q0) 0),(6,QH 5 s.tb),(7, .ptr (.own s.ka) 0)]) (fun s:RpG=>Qv ((h.set k0q0 ⟨[lv],0⟩).set s.ka ⟨[.int .i64 s.at_],0⟩) s.tb) (fun s:RpG=>RpOk h k0q0 lv l rs s/\s.out.length<=65536) (fun s:RpG=>l.length-s.at_) ⟨0,k4q0,none,[]⟩ (by rfl) (Vl _) ⟨⟨Js _,⟨hf_4q0,ne_4q0_0q0⟩,trivial,rfl,rfl⟩,Js _⟩ ?_;rintro⟨at_,ka,tb,out⟩ ⟨⟨g1,⟨g2,ne_a_0q0⟩,g4,g5,g6⟩,g7⟩;simp only at g1 g2 ne_a_0q0 g4 g5 g6 g7|-
  obtain⟨G,hG⟩:∃G,G=(h.set k0q0 ⟨[lv],0⟩).set ka ⟨[.int .i64 at_],0⟩:=⟨_,rfl⟩
  rw[<-hG]at g4|-
  have hsG:Sub h G:=by rw[hG];exact V3 (Vg hf_0q0) g2
  have gb_0:G k0q0=some ⟨[lv],0⟩:=by rw[hG];exact(Vb _ _ ne_a_0q0.symm).trans (Vd _ _ _)
  have gb_a:G ka=some ⟨[.int .i64 at_],0⟩:=by rw[hG];exact Vd _ _ _
  obtain⟨H1,hH1⟩:∃H1,H1=Qv G tb:=⟨_,rfl⟩
  have hs_H1:Sub h H1:=by rw[hH1];exact hsG.trans (BH g4)
  have eb_0q0:H1 k0q0=some ⟨[lv],0⟩:=by rw[hH1];exact ZU g4 gb_0
  have eb_a:H1 ka=some ⟨[.int .i64 at_],0⟩:=by rw[hH1];exact ZU g4 gb_a
  have hbl:=QY 5 tb;rw[<-hH1];refine qL ?_;refine awp_rseq [1,2,6,7,14] (by rfl) fun K hK=>?_;simp+decide only[qa,ev,putD,VM,VO,VN,Ka,true_and,↓qG,Qb,qz ag3,qz UJ,↓Xt,QD,↓qA,ql,qZ,cond_false,qp,Zc,Qz wz eb_0q0,Qz wz eb_a,VX,qi,hll,nl];apply hK;clear hK K;refine qK (b:=_) rfl (fun hb2=>?_) (fun hb2=>?_)
  ·try simp only[decide_eq_true_eq]at hb2
   have hat:at_<l.length:=by omega
   have hst:=qcw hrs hat;refine qV ?_;change Awp _ _ _ _ _ _ _;refine qL ?_;refine Qp ?_;refine awp_rseq [1,2,6,7,8] (by rfl) fun K hK=>?_;simp+decide only[ev,putD,VM,VO,Ka,true_and,↓qh,qc,↓qeo,qdd,evs,Kc,Vj];refine qM (V:= .int .i64 (qaU (fun q=>ZB (l.drop at_) q.1.old) qs)) (by rfl) (by rfl) (qnC wz _ rv qs _ [.ptr (.own k0q0) 0, .ptr (.own ka) 0] (fun q=>ZB (l.drop at_) q.1.old) (hq2.mono zqB) (fun q hm=>⟨(hq3 q hm).lives.1,(hq3 q hm).lives.2.1⟩) (by omega) (by rfl) (fun q hm=>c_rep2 wz _ q ((hq3 q hm).mono zqB) k0q0 ka lv l at_ zqA zqA (hlv.mono zqB) (by omega) g1)) ?_;simp+decide only[qa,ev,putD,VM,VO,VN,Ka,true_and,↓qd,qb];apply hK;clear hK K;refine qL ?_;refine awp_rseq [1,2,6,7,8,19] (by rfl) fun K hK=>?_;simp+decide only[qa,ev,qH,qF,putD,VM,VO,VN,Ka,true_and,↓qh,qc,↓qA,ql,qC,cond_false,qp,Zc];apply hK;clear hK K;refine Ub [1,2,6,7] (fun s:RpG=>[(1,rv),(2, .ptr (.own k0q0) 0),(6,QH 5 s.tb),(7, .ptr (.own s.ka) 0)]) (fun s:RpG=>Qv ((h.set k0q0 ⟨[lv],0⟩).set s.ka ⟨[.int .i64 s.at_],0⟩) s.tb) (fun s:RpG=>RpOk h k0q0 lv l rs s/\s.out.length<=2000000/\at_<s.at_) ?_ ?_
   ·refine qK (b:=_) rfl (fun hb3=>?_) (fun hb3=>?_)
    ·try simp only[decide_eq_true_eq]at hb3
     have hnone:rs.find? (fun x=>ZB (l.drop at_) x.old)=none:=by
      rcases qjk (r:=rs) (p:=fun x=>ZB (l.drop at_) x.old)with z|⟨i,x,z1,z2,z3,z4⟩
      ·exact z.2
      ·exfalso
       have e:qaU (fun q:RepQ=>ZB (l.drop at_) q.1.old) qs=i:=by
        rw[<-qgi (fun q:RepQ=>q.1) (fun x:RepC=>ZB (l.drop at_) x.old) qs,<-hqs];unfold qaU;rw[z1]
       omega
     rw[hnone]at hst;obtain⟨lc,o,c,rfl⟩:=Wy hlv (by omega);obtain⟨t,ht⟩:∃t,t=l.getD at_ ZC:=⟨_,rfl⟩
     rw[show l.getD at_ noT=t from ht.symm]at hst;obtain⟨e0,e1,e2,e3,e4⟩:=qar (hlv.mono hs_H1) hat;rw[<-ht]at e0 e1 e2 e3 e4;have e2':rd wz H1 lc (o+at_*5+1+1)= .int .i64 t.line:=e2;have e3':rd wz H1 lc (o+at_*5+1+1+1)= .int .i64 t.col:=e3;have e4':rd wz H1 lc (o+at_*5+1+1+1+1)= .bool t.left:=e4;refine awp_rseq [1,2,6,7] (by rfl) fun K hK=>?_;simp+decide only[ev,putD,VM,VO,Ka,true_and,↓qh,qc,↓qG,Qb,qz UJ,qz ag3,↓QN,Qh Tryz.underlying26 QW,qg XY QW,Qz wz eb_0q0,Qz wz eb_a,qf,VX,qB,qi,qE,allLive,JS,hll,e0,e1,e2',e3',e4',Vq];repeat (with_reducible refine And.intro ?_ ?_;· first|trivial|omega|(intro hg;simp only[Kw,JV,Ji,VP,VQ,VS,decide_eq_true_eq,decide_eq_false_iff_not,XT]at hg;omega))
     refine Qn (cs:=QJ t) (by kernel_rfl) fun k8q5 hk8q5=>?_;have hn_8q5:H1 k8q5=none:=by first|assumption|(simp only[V7]at hk8q5;simp only[hk8q5])
     have hf_8q5:h k8q5=none:=Bg hs_H1 hn_8q5;have ne_8q5_0q0:k8q5≠k0q0:=Bh hn_8q5 eb_0q0;have ne_8q5_a:k8q5≠ka:=Bh hn_8q5 eb_a;refine Xw (es:=5) (zs:=out.map QJ) (xs:=[QJ t]) (hZ:=G) (b:=tb) (by rfl) (by rfl) Tryz.underlying26 Tryz.underlying26 (fun k e=>by cases e) QW qhn UO (by rfl) (by decide) (by rfl) g4 g5 Xj (by rw[<-hH1];exact zqB) (by rfl) (V8 (Vd _ _ _) (by simp[QJ]) (by rfl) (by rfl) (.exact 1) (KJ _)) (by rfl) (by simp;omega) (by simp;omega) fun tb2 h8 o1 o2 o3=>?_;have eb8:=o3 _ _ (ZU o1 gb_a);simp+decide only[qa,ev,putD,VM,VO,VN,Ka,true_and,↓qd,qb];apply hK;clear hK K;refine XL [1,2,6,7] (by rfl) ?_;simp+decide only[ev,qH,qF,putD,VM,VO,Ka,true_and,↓qG,Qb,qz ag3,↓qA,ql,qC,cond_false,qp,Xc,VX,qi,Qz wz eb8];try simp(disch:=omega)only[wrap_i64]
     refine qo (by rfl) (by rfl) zqA sz3 (by rfl) (by rfl) zqD (Js _) (by rfl) ?_;simp only[VV];simp+decide only[qa,ev,putD,VO,VN,Ka,setAt,VW];try simp only[Qi]
     first
     |exact⟨⟨at_+1,ka,tb2,out++[t]⟩,rfl,by(rw[show(h.set k0q0 ⟨[.slice lc o l.length c],0⟩).set ka ⟨[.int .i64 ((at_+1:Nat):Int)],0⟩=G.set ka ⟨[.int .i64 ((at_+1:Nat):Int)],0⟩ by rw[hG,Vh],<-Wp o1 gb_a];exact V9 o3 _ _),⟨hat,⟨g2,ne_a_0q0⟩,by(rw[show(h.set k0q0 ⟨[.slice lc o l.length c],0⟩).set ka ⟨[.int .i64 ((at_+1:Nat):Int)],0⟩=G.set ka ⟨[.int .i64 ((at_+1:Nat):Int)],0⟩ by rw[hG,Vh]];exact ZT o1 gb_a _),by rw[o2,Ba];rfl,by rw[<-g6,hst,K9];rfl⟩,by(simp only[Jb,KX,J8];omega),by(simp only;omega)⟩
     |exact⟨⟨at_+x.old.length,ka,tb2,out++x.new⟩,rfl,by(rw[show(h.set k0q0 ⟨[lv],0⟩).set ka ⟨[.int .i64 ((at_+x.old.length:Nat):Int)],0⟩=G.set ka ⟨[.int .i64 ((at_+x.old.length:Nat):Int)],0⟩ by rw[hG,Vh],<-Wp o1 gb_a];exact V9 o3 _ _),⟨by(simp only;omega),⟨g2,ne_a_0q0⟩,by(rw[show(h.set k0q0 ⟨[lv],0⟩).set ka ⟨[.int .i64 ((at_+x.old.length:Nat):Int)],0⟩=G.set ka ⟨[.int .i64 ((at_+x.old.length:Nat):Int)],0⟩ by rw[hG,Vh]];exact ZT o1 gb_a _),by rw[o2,Ba,Ej],by rw[<-g6,hst,K9]⟩,by(simp only[Jb];omega),by(simp only;omega)⟩
    ·try simp only[decide_eq_false_iff_not]at hb3
     obtain⟨i,x,z1,z2,z3,z4⟩:∃i x,rs.findIdx? (fun x=>ZB (l.drop at_) x.old)=some i/\rs.find? (fun x=>ZB (l.drop at_) x.old)=some x/\i<rs.length/\rs[i]?=some x:=by
      rcases qjk (r:=rs) (p:=fun x=>ZB (l.drop at_) x.old)with z|z
      ·exfalso
       have e:qaU (fun q:RepQ=>ZB (l.drop at_) q.1.old) qs= -1:=by
        rw[<-qgi (fun q:RepQ=>q.1) (fun x:RepC=>ZB (l.drop at_) x.old) qs,<-hqs];unfold qaU;rw[z.1]
       omega
      ·exact z
     have e:qaU (fun q:RepQ=>ZB (l.drop at_) q.1.old) qs=i:=by
      rw[<-qgi (fun q:RepQ=>q.1) (fun x:RepC=>ZB (l.drop at_) x.old) qs,<-hqs];unfold qaU;rw[z1]
     rw[e];rw[z2]at hst;have hiq:i<qs.length:=by omega
     obtain⟨q,hqe⟩:∃q,q=qs.getD i qhs:=⟨_,rfl⟩
     have hqm:q∈qs:=by rw[hqe];exact qcF qhs hiq
     have hq1:q.1=x:=by
      rw[hqs,Eb,Jz hiq]at z4;rw[hqe,Kn,Jz hiq];exact Option.some.inj z4
     have hqk:=hq3 q hqm;obtain⟨y1,y2,y3,y4⟩:=hqk.lives;have hxm:x∈rs:=JZ z4;have hxn:=hn x hxm;have hfit:=qkM (l:=l.drop at_) (o:=x.old) (by have:=BX z2;exact this);rw[K5]at hfit;have hxo:0<x.old.length:=by
      rcases Nat.eq_zero_or_pos x.old.length with w|w
      ·exact absurd (Ke w) (hrs x hxm)
      ·exact w
     obtain⟨lcr,orr,cr,rfl⟩:=qiF hq2 (by omega);obtain⟨-,d1⟩:=qls (hq2.mono hs_H1) hiq;rw[<-hqe]at d1;have nold:=Ze hqk.old;rw[hq1]at nold;have hnw:=hqk.new;rw[hq1]at hnw;refine awp_rseq [1,2,6,7,8] (by rfl) fun K hK=>?_;simp+decide only[ev,putD,VM,VO,Ka,true_and,↓qh,qc,↓QN,Qb,Qh Tryz.underlying43 qcr,↓qD,qm,fa46_1,↓qG,qz UJ,d1,y2,Vq];repeat (with_reducible refine And.intro ?_ ?_;· first|trivial|omega|(intro hg;simp only[Kw,JV,Ji,VP,VQ,VS,decide_eq_true_eq,decide_eq_false_iff_not,XT]at hg;omega))
     refine Xw (es:=5) (zs:=out.map QJ) (xs:=x.new.map QJ) (hZ:=G) (b:=tb) (by rfl) (by rfl) Tryz.underlying26 Tryz.underlying26 (fun k e=>by cases e) QW qhn UO (by rfl) (by decide) (by rfl) g4 g5 Xj (by rw[<-hH1];exact zqB) (by rfl) (hnw.mono zqB) (by rw[WV];intro z hz;obtain⟨t,_,rfl⟩:=JG.1 hz;rfl) (by simp;omega) (by simp;omega) fun tb2 h10 o1 o2 o3=>?_;have eb10:=o3 _ _ (ZU o1 gb_a);have hs10:Sub h h10:=(hsG.trans (BH o1)).trans o3;obtain⟨d0,-⟩:=qls (hq2.mono hs10) hiq;rw[<-hqe]at d0;simp+decide only[qa,ev,putD,VM,VO,VN,Ka,true_and,↓qd,qb];apply hK;clear hK K;refine qaJ 8 mixed (by kernel_rfl) (by rfl) (by rfl) ?_;simp+decide only[ev,putD,VM,VO,Ka,true_and,↓qG,Qb,qz ag3,↓qh,qc,↓QN,Qh Tryz.underlying43 qcr,↓qD,qm,qhg,qz UJ,↓Xt,QD,↓qA,ql,qZ,cond_false,qp,Xc,VX,qi,Qz wz eb10,d0,y1,nold,Vq,K6];try simp(disch:=omega)only[wrap_i64]
     repeat (with_reducible refine And.intro ?_ ?_;· first|trivial|omega|(intro hg;simp only[Kw,JV,Ji,VP,VQ,VS,decide_eq_true_eq,decide_eq_false_iff_not,XT]at hg;omega))
     refine qo (by rfl) (by rfl) zqA sz3 (by rfl) (by rfl) zqD (Js _) (by rfl) ?_;simp only[VV];simp+decide only[qa,ev,putD,VO,Ka,setAt,VW];try simp only[Qi]
     first
     |exact⟨⟨at_+1,ka,tb2,out++[t]⟩,rfl,by(rw[show(h.set k0q0 ⟨[.slice lc o l.length c],0⟩).set ka ⟨[.int .i64 ((at_+1:Nat):Int)],0⟩=G.set ka ⟨[.int .i64 ((at_+1:Nat):Int)],0⟩ by rw[hG,Vh],<-Wp o1 gb_a];exact V9 o3 _ _),⟨hat,⟨g2,ne_a_0q0⟩,by(rw[show(h.set k0q0 ⟨[.slice lc o l.length c],0⟩).set ka ⟨[.int .i64 ((at_+1:Nat):Int)],0⟩=G.set ka ⟨[.int .i64 ((at_+1:Nat):Int)],0⟩ by rw[hG,Vh]];exact ZT o1 gb_a _),by rw[o2,Ba];rfl,by rw[<-g6,hst,K9];rfl⟩,by(simp only[Jb,KX,J8];omega),by(simp only;omega)⟩
     |exact⟨⟨at_+x.old.length,ka,tb2,out++x.new⟩,rfl,by(rw[show(h.set k0q0 ⟨[lv],0⟩).set ka ⟨[.int .i64 ((at_+x.old.length:Nat):Int)],0⟩=G.set ka ⟨[.int .i64 ((at_+x.old.length:Nat):Int)],0⟩ by rw[hG,Vh],<-Wp o1 gb_a];exact V9 o3 _ _),⟨by(simp only;omega),⟨g2,ne_a_0q0⟩,by(rw[show(h.set k0q0 ⟨[lv],0⟩).set ka ⟨[.int .i64 ((at_+x.old.length:Nat):Int)],0⟩=G.set ka ⟨[.int .i64 ((at_+x.old.length:Nat):Int)],0⟩ by rw[hG,Vh]];exact ZT o1 gb_a _),by rw[o2,Ba,Ej],by rw[<-g6,hst,K9]⟩,by(simp only[Jb];omega),by(simp only;omega)⟩
   ·rintro⟨at2,ka2,tb2,out2⟩ ⟨⟨f1,⟨f2,ne_a2_0q0⟩,f4,f5,f6⟩,f7,f8⟩
    simp only at f1 f2 ne_a2_0q0 f4 f5 f6 f7 f8|-
    obtain⟨G2,hG2⟩:∃G2,G2=(h.set k0q0 ⟨[lv],0⟩).set ka2 ⟨[.int .i64 at2],0⟩:=⟨_,rfl⟩
    rw[<-hG2]at f4|-
    have hsG2:Sub h G2:=by rw[hG2];exact V3 (Vg hf_0q0) f2
    have gb_0:G2 k0q0=some ⟨[lv],0⟩:=by rw[hG2];exact(Vb _ _ ne_a2_0q0.symm).trans (Vd _ _ _)
    have gb_a2:G2 ka2=some ⟨[.int .i64 at2],0⟩:=by rw[hG2];exact Vd _ _ _
    obtain⟨H2,hH2⟩:∃H2,H2=Qv G2 tb2:=⟨_,rfl⟩
    have hs_H2:Sub h H2:=by rw[hH2];exact hsG2.trans (BH f4)
    have eb_0q0:H2 k0q0=some ⟨[lv],0⟩:=by rw[hH2];exact ZU f4 gb_0
    have eb_a2:H2 ka2=some ⟨[.int .i64 at2],0⟩:=by rw[hH2];exact ZU f4 gb_a2
    have hbl2:=QY 5 tb2;have nb2:=Ze (BF (wz:=wz) f4 (by decide) f5 Xj (Vl _));rw[<-hH2];skip;refine awp_rseq [1,2,6,7,46] (by rfl) fun K hK=>?_;simp+decide only[qa,ev,qH,qF,putD,VM,VO,VN,Ka,true_and,↓qh,qc,↓Xt,QD,↓qA,ql,qC,cond_false,qp,UE,nb2];apply hK;clear hK K;refine qK (b:=_) rfl (fun hb4=>?_) (fun hb4=>?_)
    ·try simp only[decide_eq_true_eq]at hb4
     refine awp_rseq [4,5] (by rfl) fun K hK=>?_;simp+decide only[qa,ev,qH,qF,putD,VM,VN,Ka,true_and,↓qd,qb];apply hK;clear hK K;refine qN ?_;try simp only[Qf,Qu]
     refine qW h zqB (qR (qR (Qa))) ?_;simp+decide only[VO,Ka,WA];have hlen:65536<(WB rs l).length:=by
      rw[<-f6,Jb];omega
     rw[hR,if_pos hlen];exact⟨.nilSlice,rfl,OutR.nil h⟩
    ·try simp only[decide_eq_false_iff_not]at hb4
     refine qV ?_;change Awp _ _ _ _ _ _ _;refine awp_rseq [1,2,6,47] (by rfl) fun K hK=>?_;simp+decide only[qa,ev,putD,VM,VO,VN,Ka,true_and,↓qG,Qb,qz ag3,Qz wz eb_a2,VX,qi];apply hK;clear hK K;refine XL [1,2,6,7] (by rfl) ?_;refine Qk ze3 (cs:=[.int .i64 0]) (by rfl) fun k15q0 hk15q0=>?_;have hn_15q0:H2 k15q0=none:=by first|assumption|(simp only[V7]at hk15q0;simp only[hk15q0])
     have hf_15q0:h k15q0=none:=Bg hs_H2 hn_15q0;have ne_15q0_0q0:k15q0≠k0q0:=Bh hn_15q0 eb_0q0;have ne_15q0_a2:k15q0≠ka2:=Bh hn_15q0 eb_a2;refine qo (by rfl) (by rfl) zqA sz3 (by rfl) (by rfl) zqD (Js _) (by rfl) ?_;simp only[Vh,VV];simp+decide only[qa,ev,putD,VM,VO,VN,Ka,setAt,VW];try simp only[Qi]
     have hnew:=qjE (b:=tb2) (H:=G2) (j:=k15q0) (by rw[<-hH2];exact hn_15q0) ⟨[.int .i64 at2],0⟩;exact⟨⟨at2,k15q0,tb2,out2⟩,rfl,by(rw[hH2,hnew.1,hG2];exact Sub.bufBoth (V9 (Vg ((Vb _ _ ne_a2_0q0).trans f2)) _ _)),⟨⟨f1,⟨hf_15q0,ne_15q0_0q0⟩,(qkZ f4 (by rw[<-hH2];exact hn_15q0) ⟨[.int .i64 at2],0⟩).sub (by rw[hG2];exact V9 (Vg ((Vb _ _ ne_a2_0q0).trans f2)) _ _),f5,f6⟩,by simp only;omega⟩,by simp only;omega⟩
  ·try simp only[decide_eq_false_iff_not]at hb2
   have hae:at_=l.length:=by omega
   rw[hae,JY,qsI,Be]at g6;have hlb:IsL wz H1 5 (QH 5 tb) (out.map QJ):=by rw[hH1];exact BF g4 (by decide) g5 Xj (Vl _)
   refine XJ ?_;change Awp _ _ _ _ _ _ _;refine awp_rseq [4,5] (by rfl) fun K hK=>?_;simp+decide only[ev,putD,VM,VO,Ka,true_and,↓qh,qc];refine qM (V:=Yd (QH 5 tb)) (by rfl) (by rfl) (qmd wz _ _ (out.map QJ) hlb) ?_;simp+decide only[qa,ev,qH,qF,putD,VM,VO,VN,Ka,true_and,↓qd,qb];apply hK;clear hK K;refine qN ?_;refine QS (qR (qR (Qa))) ?_;simp+decide only[VO,Ka,WA];rw[hR,if_neg (by rw[<-g6];omega)];exact⟨Qv h tb,by rw[hH1];exact Sub.bufBoth hsG,Yd (QH 5 tb),rfl,tb,rfl,g4.sub hsG,by rw[g5,g6],rfl⟩
end Go.Proofs.YtlhhaagmakhilaaGreatDoor
namespace Go.Proofs.YtlhhaagmakhilaaGreatDoor
open Go.AM
open Go.Proofs
open Go.Col
open Go.Tok
open Go.Cop
open Go.RowKit (Below)
set_option maxRecDepth 100000
theorem ACall.down{P:Program}{wz:World}{f:FuncId}{args:List AVal}{h H:AHeap}{R:AVal->AHeap->Prop}(hs:Sub H h)(hc:ACall P wz f args H R):ACall P wz f args h R:=fun fi vals w hr hv=>hc fi vals w (hr.forget hs) hv
def qha(s:Str):List AVal:=[.str s]
theorem qgZ{l:List Str}:∀x∈l.map qha,x.length=1:=fun x hx=>by obtain⟨y,_,rfl⟩:=JG.1 hx;rfl
def qbb(G:AHeap)(kx:Nat)(mv mo:AVal)(nb:Option Buf)(cp:Int):AHeap:=Qv (G.set kx ⟨[mv,mo,QH 1 nb, .int .i64 cp],0⟩) nb
structure UseOk(G:AHeap)(kx:Nat)(nb:Option Buf)(ns:List Str):Prop where
 bx:G kx=none
 ok:∀X,bufOk (G.set kx X) 1 nb
 eq:Ws nb=(ns.map qha).flatten
section
variable {G:AHeap} {kx:Nat} {mv mo:AVal} {nb:Option Buf} {cp:Int} {ns:List Str}
theorem UseOk.at(hu:UseOk G kx nb ns):qbb G kx mv mo nb cp kx=some ⟨[mv,mo,QH 1 nb, .int .i64 cp],0⟩:=ZU (hu.ok _) (Vd _ _ _)
theorem UseOk.above(hu:UseOk G kx nb ns):Sub G (qbb G kx mv mo nb cp):=(Vg hu.bx).trans (BH (hu.ok _))
theorem UseOk.set(hu:UseOk G kx nb ns)(X:Blk):(qbb G kx mv mo nb cp).set kx X=Qv (G.set kx X) nb:=by
 unfold qbb;rw[Wp (hu.ok _) (Vd _ _ _),Vh]
theorem UseOk.down(hu:UseOk G kx nb ns){G':AHeap}(hs:Sub G' G):UseOk G' kx nb ns:=⟨hs.none hu.bx,fun X=>(hu.ok X).sub (V9 hs _ _),hu.eq⟩
theorem UseOk.names(wz:World)(hu:UseOk G kx nb ns):IsL wz (qbb G kx mv mo nb cp) 1 (QH 1 nb) (ns.map qha):=BF (hu.ok _) (by decide) hu.eq qgZ (Vl _)
theorem UseOk.lay(hu:UseOk G kx nb ns){j:Nat}(hj:qbb G kx mv mo nb cp j=none)(c:Blk):(qbb G kx mv mo nb cp).set j c=qbb (G.set j c) kx mv mo nb cp/\UseOk (G.set j c) kx nb ns/\G j=none/\j≠kx:=by
 have hne:j≠kx:=fun e=>by rw[e,hu.at]at hj;cases hj
 have hn:=qjE hj c;have hg:G j=none:=by
  have:=hn.2
  rwa [Vb _ _ hne]at this
 refine⟨?_,⟨(Vb _ _ hne.symm).trans hu.bx,fun X=>?_,hu.eq⟩,hg,hne⟩
 ·unfold qbb
  rw[hn.1,Vi _ _ _ hne]
 ·have h1:=hu.ok X
  have h2:Qv (G.set kx X) nb j=none:=by
   cases nb with
   |none=>exact(Vb _ _ hne).trans hg
   |some b=>
    have hnb:j≠b.blk:=fun e=>by
     rw[e]at hj;rw[show qbb G kx mv mo (some b) cp=(G.set kx ⟨[mv,mo,QH 1 (some b), .int .i64 cp],0⟩).set b.blk ⟨b.cells,0⟩from rfl,Vd]at hj;cases hj
    exact(Vb _ _ hnb).trans ((Vb _ _ hne).trans hg)
  have h3:=qkZ h1 h2 c
  rwa [Vi _ _ _ hne]at h3
end
set_option maxHeartbeats 1000000 in
theorem c_use(wz:World)(G:AHeap)(kx:Nat)(mv mo:AVal)(nb:Option Buf)(cp:Int)(ns:List Str)(s:Str)(hu:UseOk G kx nb ns)(hn:ns.length<=1000000)(hmv:mv.scal=true)(hmo:mo.scal=true):
 ACall Tryz.prog wz 44 [.ptr (.own kx) 0, .str s] (qbb G kx mv mo nb cp) (fun r h'=>r= .tuple []/\∃nb',UseOk G kx nb' (Cop.addE ns s)/\h'=qbb G kx mv mo nb' cp):=by
 obtain⟨H,hH⟩:∃H,H=qbb G kx mv mo nb cp:=⟨_,rfl⟩
 have hs_H:Sub G H:=by rw[hH];exact hu.above
 have eb_x:H kx=some ⟨[mv,mo,QH 1 nb, .int .i64 cp],0⟩:=by rw[hH];exact hu.at
 have hbl:=QY 1 nb;have hst:IsStrs wz H (QH 1 nb) ns:=by rw[hH];exact hu.names wz
 have hml:=YF hmv;have hol:=YF hmo;rw[<-hH];refine qP (n:=21) (rs:=[]) Tryz.func44 rfl rfl rfl rfl (VL rfl) ?_;simp only[Qd];refine awp_rseq [0,1,10] (by rfl) fun K hK=>?_;simp+decide only[ev,putD,VM,VO,Ka,true_and,↓qh,qc,↓Qj,qO,Qm,↓qD,qm,qlN,↓qG,Qb,qz ag30,Qz wz eb_x,VX,Km,Jr,hbl];refine qM (V:= .bool (ns.contains s)) (by rfl) (by rfl) (qjy wz _ (QH 1 nb) ns s hst (by omega)) ?_;simp+decide only[qa,ev,putD,VM,VO,VN,Ka,true_and,↓Yz,XP,Yk];apply hK;clear hK K;refine qK (b:=_) rfl (fun hb1=>?_) (fun hb1=>?_)
 ·try simp only[Ji]at hb1
  have hc:ns.contains s=false:=by simpa using hb1
  refine XL [] (by rfl) ?_;simp+decide only[ev,putD,VM,VO,Ka,true_and,↓qh,qc,↓Qj,qO,Qm,↓qD,qm,qlN,↓qG,Qb,qz ag30,Qz wz eb_x,VX,Km,Jr,hbl];refine Qn (cs:=[.str s]) (by kernel_rfl) fun k1q6 hk1q6=>?_;have hn_1q6:H k1q6=none:=by first|assumption|(simp only[V7]at hk1q6;simp only[hk1q6])
  have hf_1q6:G k1q6=none:=Bg hs_H hn_1q6;have ne_1q6_x:k1q6≠kx:=Bh hn_1q6 eb_x;refine Xw (es:=1) (zs:=ns.map qha) (xs:=[qha s]) (hZ:=G.set kx ⟨[mv,mo,QH 1 nb, .int .i64 cp],0⟩) (b:=nb) (by rfl) (by rfl) Tryz.underlying30 Tryz.underlying30 (fun k e=>by cases e) sz9 by9 ze9 (by rfl) (by decide) (by rfl) (hu.ok _) hu.eq qgZ (by rw[show Qv (G.set kx ⟨[mv,mo,QH 1 nb, .int .i64 cp],0⟩) nb=H from hH.symm];exact Vg hn_1q6) (by rfl) (V8 (Vd _ _ _) (by simp[qha]) (by rfl) (by rfl) (.exact 1) (KJ _)) (by rfl) (by simp;omega) (by simp;omega) fun nb2 h1 o1 o2 o3=>?_;have eb1:=o3 _ _ (ZU o1 (Vd _ _ _));simp+decide only[ev,putD,VM,VO,Ka,true_and,↓Qj,qO,Qm,↓qD,qm,qlN,Jr];refine qo (v:=QH 1 nb2) (by rfl) (by rfl) eb1 sz30 (QY _ _) (by rw[qaC];rfl) (by simp) (Js _) (by rw[qaC];simp[QG,WF]) ?_;simp only[setAt,qaC,VW,Ki];simp+decide only[qa,putD,VN,if_false];refine qeC (Qa) ?_;simp+decide only[true_and,qeD];have ha:Cop.addE ns s=ns++[s]:=by unfold Cop.addE;rw[if_neg (by rw[hc];decide)]
  refine⟨qbb G kx mv mo nb2 cp,?_,nb2,⟨hu.bx,fun X=>?_,?_⟩,rfl⟩
  ·unfold qbb
   rw[<-Vh G kx ⟨[mv,mo,QH 1 nb, .int .i64 cp],0⟩,<-Wp o1 (Vd _ _ _)];exact V9 o3 _ _
  ·have:=ZT o1 (Vd _ _ _) X
   rwa [Vh]at this
  ·rw[o2,ha,Ba]
   rfl
 ·try simp only[VS]at hb1
  have hc:ns.contains s=true:=by simpa using hb1
  refine qV ?_;refine qeC (Qa) ?_;simp+decide only[true_and,qeD];have ha:Cop.addE ns s=ns:=by unfold Cop.addE;rw[if_pos hc]
  exact⟨H,Vl _,nb,by rw[ha];exact hu,hH⟩
end Go.Proofs.YtlhhaagmakhilaaGreatDoor
namespace Go.Proofs.YtlhhaagmakhilaaGreatDoor
open Go.AM
open Go.Proofs
open Go.Col (Str FaultC okF)
open Go.Tok
open Go.Cop
open Go.RowKit (Below)
set_option maxRecDepth 100000
theorem qnv(l:List TokC)(i j:Nat):(qcl l i j).length<=l.length:=by
 unfold qcl;rw[K4,K5];omega
theorem pair_new(l:List TokC)(i:Nat):(YU l i).rep.new.length<=l.length:=by
 unfold YU;simp only;split
 ·exact Js _
 ·split
  ·exact Js _
  ·exact qnv _ _ _
theorem qkt(l:List TokC):∀(f i:Nat) (first:Bool) (acc:List RepC),(∀x∈acc,x.new.length<=l.length)->(∀x∈(YT l f i first acc).reps,x.new.length<=l.length)/\(YT l f i first acc).reps.length<=acc.length+f
 |0,i,first,acc,h=>⟨h,KJ _⟩
 |f+1,i,first,acc,h=>by
  rw[YT];split
  ·simp only
   split
   ·exact⟨(fun x hx=>by cases hx),Js _⟩
   ·have:=qkt l f (YU l i).at_ false (acc++[(YU l i).rep]) fun x hx=>by
     rcases JI.1 hx with z|z
     ·exact h x z
     ·rw[BD.1 z];exact pair_new l i
    refine⟨this.1,?_⟩;have h2:=this.2;rw[Jb,JR]at h2;omega
  ·exact⟨h,Ei _ _⟩
theorem qnK(l:List TokC)(t:TokC)(p:Pairs):(UM l t p).reps=[]\/(UM l t p).reps=p.reps:=by
 unfold UM;split
 ·exact .inl rfl
 ·split
  ·exact .inl rfl
  ·exact .inr rfl
theorem qiy(l:List TokC)(i:Nat):(∀x∈(Xo l i).reps,x.new.length<=l.length)/\(Xo l i).reps.length<=l.length+2:=by
 unfold Xo;split
 ·exact⟨(fun x hx=>by cases hx),Js _⟩
 ·rcases qnK l (l.getD i noT) (if Yp l (i+1) Yo=true then YT l (l.length+2) (i+2) true []else⟨true,[],i+1⟩)with e|e
  ·rw[e]
   exact⟨(fun x hx=>by cases hx),Js _⟩
  ·rw[e]
   split
   ·have:=qkt l (l.length+2) (i+2) true [] (fun x hx=>by cases hx)
    refine⟨this.1,?_⟩;have h2:=this.2;rw[J8]at h2;omega
   ·exact⟨(fun x hx=>by cases hx),Js _⟩
def opC(e:Nat×Str):AVal:= .mapE e.1 (.str e.2) (.bool true)
def ZO(B:AHeap)(kx km:Nat)(mv:AVal)(c:Nat)(es:List (Nat×Str))(nb:Option Buf)(cp:Nat):AHeap:=qbb (B.set km (XB c (es.map opC))) kx mv (.map km) nb cp
structure ExOk(B:AHeap)(kx km:Nat)(nb:Option Buf)(ns:List Str):Prop where
 bm:B km=none
 bx:B kx=none
 ne:km≠kx
 use:∀M,UseOk (B.set km M) kx nb ns
section
variable {B:AHeap} {kx km:Nat} {mv:AVal} {c:Nat} {es:List (Nat×Str)} {nb:Option Buf} {cp:Nat} {ns:List Str}
theorem ExOk.x(he:ExOk B kx km nb ns):ZO B kx km mv c es nb cp kx=some ⟨[mv, .map km,QH 1 nb, .int .i64 cp],0⟩:=(he.use _).at
theorem ExOk.m(he:ExOk B kx km nb ns):ZO B kx km mv c es nb cp km=some (XB c (es.map opC)):=(he.use _).above _ _ (Vd _ _ _)
theorem ExOk.above(he:ExOk B kx km nb ns):Sub B (ZO B kx km mv c es nb cp):=(Vg he.bm).trans (he.use _).above
theorem ExOk.set_x(he:ExOk B kx km nb ns)(cp':Nat):(ZO B kx km mv c es nb cp).set kx ⟨[mv, .map km,QH 1 nb, .int .i64 cp'],0⟩=ZO B kx km mv c es nb cp':=(he.use _).set _
theorem ExOk.set_m(he:ExOk B kx km nb ns)(c':Nat)(es':List (Nat×Str)):(ZO B kx km mv c es nb cp).set km (XB c' (es'.map opC))=ZO B kx km mv c' es' nb cp:=by
 unfold ZO qbb;rw[Wp ((he.use _).ok _) ((Vb _ _ he.ne).trans (Vd _ _ _)),Vi _ _ _ he.ne,Vh]
theorem ExOk.down(he:ExOk B kx km nb ns){B':AHeap}(hs:Sub B' B):ExOk B' kx km nb ns:=⟨hs.none he.bm,hs.none he.bx,he.ne,fun M=>(he.use M).down (V9 hs _ _)⟩
theorem qcH{B':AHeap}(hs:Sub B' B):Sub (ZO B' kx km mv c es nb cp) (ZO B kx km mv c es nb cp):=Sub.bufBoth (V9 (V9 hs _ _) _ _)
theorem ExOk.lay(he:ExOk B kx km nb ns){j:Nat}(hj:ZO B kx km mv c es nb cp j=none)(b:Blk):(ZO B kx km mv c es nb cp).set j b=ZO (B.set j b) kx km mv c es nb cp/\ExOk (B.set j b) kx km nb ns:=by
 have hnm:j≠km:=fun e=>by rw[e,he.m]at hj;cases hj
 have hnx:j≠kx:=fun e=>by rw[e,he.x]at hj;cases hj
 obtain⟨h1,h2,h3,h4⟩:=(he.use (XB c (es.map opC))).lay hj b;refine⟨?_,(Vb _ _ hnm.symm).trans he.bm,(Vb _ _ hnx.symm).trans he.bx,he.ne,fun M=>?_⟩
 ·unfold ZO
  rw[h1,Vi _ _ _ hnm]
 ·have hj2:qbb (B.set km M) kx mv (.map km) nb cp j=none:=by
   have hb:B j=none:=by
    have:=h3
    rwa [Vb _ _ hnm]at this
   unfold ZO qbb at hj;unfold qbb;cases nb with
   |none=>exact(Vb _ _ hnx).trans ((Vb _ _ hnm).trans hb)
   |some b'=>
    have hnb:j≠b'.blk:=fun e=>by
     rw[e,show Qv ((B.set km (XB c (es.map opC))).set kx ⟨[mv, .map km,QH 1 (some b'), .int .i64 cp],0⟩) (some b')=((B.set km (XB c (es.map opC))).set kx ⟨[mv, .map km,QH 1 (some b'), .int .i64 cp],0⟩).set b'.blk ⟨b'.cells,0⟩from rfl,Vd]at hj;cases hj
    exact(Vb _ _ hnb).trans ((Vb _ _ hnx).trans ((Vb _ _ hnm).trans hb))
  have:=((he.use M).lay hj2 b).2.1
  rwa [Vi _ _ _ hnm]at this
theorem ExOk.off(he:ExOk B kx km nb ns){B':AHeap}{j:Nat}{b:Blk}(hj:B j=some b)(hj':B' j=none):ZO B' kx km mv c es nb cp j=none:=by
 have hnm:j≠km:=fun e=>by rw[e,he.bm]at hj;cases hj
 have hnx:j≠kx:=fun e=>by rw[e,he.bx]at hj;cases hj
 have h1:=(he.use ⟨[],0⟩).ok ⟨[],0⟩;unfold ZO qbb;cases nb with
 |none=>exact(Vb _ _ hnx).trans ((Vb _ _ hnm).trans hj')
 |some b'=>
  have hnb:j≠b'.blk:=fun e=>by
   have h2:((B.set km ⟨[],0⟩).set kx ⟨[],0⟩) b'.blk=none:=h1.1;rw[<-e,Vb _ _ hnx,Vb _ _ hnm,hj]at h2;cases h2
  exact(Vb _ _ hnb).trans ((Vb _ _ hnx).trans ((Vb _ _ hnm).trans hj'))
end
structure ExpR(B:AHeap)(kx km:Nat)(mv:AVal)(op:List Str)(st:Xs)(h:AHeap):Prop where
 few:st.names.length<=5000
 ex:∃c es nb,ExOk B kx km nb st.names/\es.map (·.2)=op/\Sub (ZO B kx km mv c es nb st.copies) h
theorem qiW(s:Str):∀(es:List (Nat×Str)) (k:Nat),s∉es.map (·.2)->qal (.str s) (es.map opC) k=some none
 |[],_,_=>rfl
 |e::es,k,h=>by
  simp only[Kc,KW,not_or]at h;rw[Kc,opC,qal];simp only[kEq];rw[decide_eq_false h.1];exact qiW s es (k+1) h.2
theorem qbH(s:Str)(b:Nat):∀(es:List (Nat×Str)) (k:Nat),s∉es.map (·.2)->qal (.str s) ((es++[(b,s)]).map opC) k=some (some (k+es.length, .bool true))
 |[],k,_=>by
  rw[Jd,Kc,Vj,opC,qal];simp only[kEq,decide_true];rfl
 |e::es,k,h=>by
  simp only[Kc,KW,not_or]at h;rw[Kg,Kc,opC,qal];simp only[kEq];rw[decide_eq_false h.1,KX,show k+(es.length+1)=(k+1)+es.length by omega];exact qbH s b es (k+1) h.2
theorem qnc(s:Str):∀(es:List (Nat×Str)) (k:Nat),s∈es.map (·.2)->∃j,qal (.str s) (es.map opC) k=some (some (j, .bool true))
 |[],_,h=>by cases h
 |e::es,k,h=>by
  rw[Kc,opC,qal];simp only[kEq];by_cases q:s=e.2
  ·rw[decide_eq_true q]
   exact⟨k,rfl⟩
  ·rw[decide_eq_false q]
   rw[Kc,KW]at h;exact qnc s es (k+1) (h.resolve_left q)
theorem look_op{h:AHeap}{km c:Nat}{es:List (Nat×Str)}{s:Str}(hm:h km=some (XB c (es.map opC))):qac Tryz.prog h 74 (.map km) (.str s) false=⟨True, .bool ((es.map (·.2)).contains s)⟩:=by
 by_cases q:s∈es.map (·.2)
 ·obtain⟨j,hj⟩:=qnc s es 0 q
  rw[qom Tryz.underlying74 ze4 hm (by rfl) hj,qhH,JW.2 q]
 ·rw[qmV Tryz.underlying74 ze4 hm (by rfl) (qiW s es 0 q),qhH]
  have:(es.map (·.2)).contains s=false:=by
   rw[Bool.eq_false_iff];intro z;exact q (JW.1 z)
  rw[this];rfl
theorem len_op{h:AHeap}{km c:Nat}{es:List (Nat×Str)}(hm:h km=some (XB c (es.map opC))):Yn Tryz.prog h 74 (.map km)=⟨True, .int .i64 es.length⟩:=by
 have:=pLen_map Tryz.underlying74 (Ul hm)
 rwa [Jo]at this
theorem c_mem2(wz:World)(h:AHeap)(q:MemQ)(hq:q.2.live=true)(hqc:q.2.cells=[q.2])(kn:Nat)(s:Str)(eb_n:h kn=some ⟨[.str s],0⟩):
 ACall Tryz.prog wz 58 ([.agg (qgd q)]++[.ptr (.own kn) 0]) h (fun r h'=>r= .bool (decide (q.1.name=s))/\h'=h):=by
 have hs_h:Sub h h:=Vl h;obtain⟨⟨nm,tk⟩,tv⟩:=q;simp only at hq hqc;unfold qgd;simp only[Kg,Jd];refine qP (n:=8) (rs:=[.tmp 3]) Tryz.func58 rfl rfl rfl rfl (VL rfl) ?_;simp only[Qd];refine awp_rseq [1,2] (by rfl) fun K hK=>?_;refine YN (v:= .agg [.str nm,tv]) (cs:=[.str nm,tv]) (by rfl) (by simp+decide only[lv_agg]) (by rfl) fun k0q0 hk0q0=>?_;have hn_0q0:h k0q0=none:=by first|assumption|(simp only[V7]at hk0q0;simp only[hk0q0])
 have hf_0q0:h k0q0=none:=Bg hs_h hn_0q0;have ne_0q0_n:k0q0≠kn:=Bh hn_0q0 eb_n;simp+decide only[qa,ev,qH,qF,putD,VM,VN,Ka,true_and,↓qd,qb,Jr];apply hK;clear hK K;refine awp_rseq [3] (by rfl) fun K hK=>?_;simp+decide only[qa,ev,putD,VM,VO,VN,Ka,true_and,↓qD,qm,fa57_0,↓qG,Qb,qz ag9,↓qA,ql,qZ,cond_false,Zl,qgV,↓qd,qb,QL,ne_eq,not_false_eq_true,ne_0q0_n.symm,Qz wz eb_n,QP,VX,Jr,qE];apply hK;clear hK K;refine qN ?_;refine qW h zqC (qR (Qa)) ?_;simp+decide only[VO,if_true,and_true,Ql];all_goals first|rfl|exact⟨rfl,rfl⟩|(simp+decide only[Ka, *];done)|(trace_state;fail)
theorem qjv(wz:World)(h:AHeap)(ks:Nat)(t:TokC)(rv:AVal)(hrl:rv.live=true)(e:Int)(eb_s:h ks=some ⟨qlj t rv,0⟩):
 ACall Tryz.prog wz 56 ([.int .i64 e]++[.ptr (.own ks) 0]) h (fun r h'=>r= .tuple [.nilSlice,QA ⟨e,t.line,t.col⟩]/\h'=h):=by
 have hs_h:Sub h h:=Vl h;unfold qlj at eb_s;simp only[Kg,Jd];refine qP (n:=10) (rs:=[.tmp 3, .cell 4 35]) Tryz.func56 rfl rfl rfl rfl (VL rfl) ?_;simp only[Qd];refine awp_rseq [0,1,4] (by rfl) fun K hK=>?_;simp+decide only[ev,qH,qF,putD,VM,if_false,true_and,↓qd,qb,Jr];refine Qk qbT (cs:=[.int .i64 0, .int .i64 0, .int .i64 0]) (by rfl) fun k0q1 hk0q1=>?_;have hn_0q1:h k0q1=none:=by first|assumption|(simp only[V7]at hk0q1;simp only[hk0q1])
 have hf_0q1:h k0q1=none:=Bg hs_h hn_0q1;have ne_0q1_s:k0q1≠ks:=Bh hn_0q1 eb_s;simp+decide only[qa,putD,VM,VN,Ka];apply hK;clear hK K;refine Zi 6 [3,4] mixed (by kernel_rfl) (by rfl) (by rfl) fun K hK=>?_;simp+decide only[ev,qH,qF,putD,VM,VO,Ka,true_and,↓qh,qc,↓qD,qm,qoE,qhf,↓qG,Qb,qg qfF qbc,↓Qr,↓qY,UB,evP,Kc,Vj,↓qd,qb,QL,ne_eq,not_false_eq_true,ne_0q1_s.symm,Qz wz eb_s,qf,VX,Km,Jr,Nat.reduceAdd,qi,allLive,JS];refine qo (by rfl) (by rfl) zqA QK (by rfl) (by rfl) zqD (Js _) (by rfl) ?_;simp only[Vh,VV];simp+decide only[qa,ev,putD,VO,VN,Ka,setAt,VW,Ki,Jr,Nat.reduceAdd];apply hK;clear hK K;refine qN ?_;refine qW h zqC (?_) ?_
 ·simp+decide only[QC,qw,qj,VO,Ka,and_true,qw,qj,qg Xv QK,Qc,qf,VX,Km,Jr,Nat.reduceAdd,qi,allLive,JS,qf,VX,Km,Jr,Nat.reduceAdd,qi,allLive,JS]
 simp+decide only[VO,Ka,and_true,Xi,qw,qj,qg Xv QK,Qc,qf,VX,Km,Jr,Nat.reduceAdd,qi,allLive,JS,qf,VX,Km,Jr,Nat.reduceAdd,qi,allLive,JS,QA];all_goals first|rfl|exact⟨rfl,rfl⟩|(simp+decide only[Ka, *];done)|(trace_state;fail)
end Go.Proofs.YtlhhaagmakhilaaGreatDoor
namespace Go.Proofs.YtlhhaagmakhilaaGreatDoor
open Go.AM
open Go.Proofs
open Go.Col (Str FaultC okF)
open Go.Tok
open Go.Cop
open Go.RowKit (Below)
set_option maxRecDepth 100000
def ListR(wz:World)(B:AHeap)(kx km:Nat)(mv:AVal)(op:List Str)(x:Xr)(r:AVal)(h':AHeap):Prop:=
 ∃(tb:Option Buf) (st':Xs) (bv:AVal) (bf:FaultC),bufOk B 5 tb/\ExpR (Qv B tb) kx km mv op st' h'/\r= .tuple [bv,QA bf]/\
  ((bf≠okF/\x= .bad bf/\bv= .nilSlice)\/(bf=okF/\∃out,x= .ok out st'/\IsL wz (Qv (fun _=>none) tb) 5 bv (out.map QJ)/\out.length<=200000/\st'.names.length<=st'.copies/\st'.copies<=4096))
theorem qdF(H:AHeap):Sub (fun _=>none) H:=fun j d hj=>by cases hj
theorem UseOk.swap{B:AHeap}{kx km:Nat}{nb:Option Buf}{ns:List Str}{M:Blk}(hu:UseOk (B.set km M) kx nb ns)(hne:km≠kx)(M':Blk):UseOk (B.set km M') kx nb ns:=by
 refine⟨?_,fun X=>?_,hu.eq⟩
 ·have:=hu.bx
  rw[Vb _ _ hne.symm]at this|-
  exact this
 ·have h1:=hu.ok X
  cases nb with
  |none=>trivial
  |some b=>
   refine⟨?_,h1.2⟩;have h2:((B.set km M).set kx X) b.blk=none:=h1.1;have e1:b.blk≠kx:=fun e=>by rw[e,Vd]at h2;cases h2
   rw[Vb _ _ e1]at h2;have e2:b.blk≠km:=fun e=>by rw[e,Vd]at h2;cases h2
   rw[Vb _ _ e2]at h2;exact(Vb _ _ e1).trans ((Vb _ _ e2).trans h2)
theorem qdm(s:Str)(b:Nat):∀es:List (Nat×Str),((es++[(b,s)]).map opC).eraseIdx es.length=es.map opC
 |es=>by
  rw[Ba,List.eraseIdx_append_of_length_le (by rw[Jo];exact KJ _),Jo,Nat.sub_self];simp
theorem ExOk.buf{B hc:AHeap}{kx km:Nat}{mv:AVal}{c cp es5:Nat}{es:List (Nat×Str)}{nb tb:Option Buf}{ns:List Str}(he:ExOk B kx km nb ns)(hs:Sub (ZO B kx km mv c es nb cp) hc)(ht:bufOk hc es5 tb):ZO (Qv B tb) kx km mv c es nb cp=Qv (ZO B kx km mv c es nb cp) tb/\ExOk (Qv B tb) kx km nb ns:=by
 cases tb with
 |none=>exact⟨rfl,he⟩
 |some b=>
  obtain⟨h1,h2⟩:=he.lay (mv:=mv) (c:=c) (es:=es) (cp:=cp) (j:=b.blk) (hs.none ht.1) ⟨b.cells,0⟩;exact⟨h1.symm,h2⟩
theorem qnI{h hc:AHeap}{es j:Nat}{b:Option Buf}{c:Blk}(hj:h j=none)(hj':hc j=some c)(hb:bufOk hc es b):Qv h b j=none:=by
 cases b with
 |none=>exact hj
 |some b=>
  have hne:j≠b.blk:=fun e=>by
   have:=hb.1;rw[<-e,hj']at this;cases this
  exact(Vb _ _ hne).trans hj
theorem qkN{qs:List MemQ}{ms:List MemC}(hms:ms=qs.map (·.1))(s:Str):(qaU (fun q:MemQ=>decide (q.1.name=s)) qs= -1/\ms.find? (fun m=>decide (m.name=s))=none)\/∃i,i<qs.length/\qaU (fun q:MemQ=>decide (q.1.name=s)) qs=i/\ms.find? (fun m=>decide (m.name=s))=some (qs.getD i qht).1:=by
 have e:=qgi (fun q:MemQ=>q.1) (fun m:MemC=>decide (m.name=s)) qs;rw[<-hms]at e;rcases qjk (r:=ms.map fun m=>(⟨[⟨1,m.name,0,0,false⟩],[]⟩:RepC)) (p:=fun x=>decide ((x.old.getD 0 noT).text=s))with z|z
 ·left
  rw[Eg]at z;rw[List.find?_map]at z;refine⟨?_,?_⟩
  ·rw[<-e];unfold qaU
   have z1:=z.1;simp only[Function.comp_def]at z1;rw[show ms.findIdx? (fun m=>decide (m.name=s))=none from z1]
  ·have z2:=z.2
   simpa[Function.comp_def]using z2
 ·right
  obtain⟨i,x,z1,z2,z3,z4⟩:=z;rw[Eg]at z1;have z1':ms.findIdx? (fun m=>decide (m.name=s))=some i:=z1;rw[Jo]at z3;have hq:i<qs.length:=by rw[hms,Jo]at z3;exact z3
  refine⟨i,hq,?_,?_⟩
  ·rw[<-e];unfold qaU;rw[z1']
  ·have h1:=BU.1 z1'
   obtain⟨h2,h3,h4⟩:=h1;rw[BV];refine⟨?_,i,h2,?_,fun j hj=>by simpa using h4 j hj⟩
   ·have:(qs.getD i qht).1=ms[i]:=by
     simp only[hms,El,Kn,Jz hq,VK]
    rw[this];exact h3
   ·simp only[hms,El,Kn,Jz hq,VK]
end Go.Proofs.YtlhhaagmakhilaaGreatDoor
