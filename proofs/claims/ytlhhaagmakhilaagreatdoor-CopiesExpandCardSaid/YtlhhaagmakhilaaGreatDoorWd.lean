/-
  Texts of this proof, joined: CoJ, TkO, TkP, TkQ, TmA, BmC, BmD, BmE, BmF, CpA, CpB, CpC, CpD, CpE, CpF, CpG, CpH, CpI, CpJ, CpK, CpL, CpM, CqA, CqB, CqC, CqD, CqE, CqF, CqG, CqH.
  Conditions: none.
-/
import Derived.Test.YtlhhaagmakhilaaGreatDoorWc
import Derived.Test.YtlhhaagmakhilaaGreatDoorWb
import Derived.Defers
import Derived.KernelRfl
set_option linter.unusedSimpArgs false
set_option linter.unnecessarySimpa false
set_option linter.unusedVariables false
open Go.AM.Slots renaming put->VO,get->VQ,keep->VP
open Go.AM.Sub renaming refl->Vm,trans_set->V5,set_both->Bb,set->Vh,none->Bi,trans->BL,buf->BJ
open Nat renaming zero_le->Jt,zero_add->Js,mul_one->BK,le_of_ble_eq_true->VN,le_of_not_lt->Kt,le_refl->KL,lt_of_not_le->JP,eq_or_lt_of_le->JC,lt_or_ge->KU,add_sub_cancel_left->Ea,add_assoc->Kw,one_le_two_pow->Ec,pow_succ->Ed,mul_comm->Ee,mul_assoc->Ei,add_zero->K7,succ_mul->VB,mul_le_mul_right->K9,le_trans->V7
open List renaming getD->Ko,getElem?_eq_getElem->JA,getElem_mem->VJ,drop_eq_getElem_cons->J5,length_cons->KY,length_nil->J9,getD_cons_zero->VZ,getD_cons_succ->Kn,set_cons_zero->VY,set_cons_succ->Kj,map_nil->Vk,map_cons->Ke,length_map->Jp,map_eq_nil_iff->VW,drop_eq_nil_of_le->Vu,range->KP,all_eq_true->JD,mem_range->JE,contains_iff_mem->JX,getElem_of_mem->BO,any_eq_true->JY,getElem?_drop->Kq,drop_drop->BP,mem_cons_self->Jf,getElem?_eq_some_iff->JB,mem_of_getElem?->J2,length_pos_of_mem->J4,drop_zero->KQ,cons_append->Kh,length->BR,length_drop->K6,length_singleton->JS,length_take->K5,take_append_drop->Bq,eq_nil_of_length_eq_zero->Kg,length_pos_iff->BS,mem_of_find?_eq_some->BU,findIdx?_eq_none_iff->BV,findIdx?_eq_some_iff_getElem->BX,takeWhile_cons->BZ,mem_append->JJ,mem_singleton->BG,mem_cons_of_mem->Jg,length_append->Jc,drop_of_length_le->Vz,nil_append->Je,drop_append_of_le_length->Eb,find?_some->Ef,filter_cons_of_pos->Eg,filter_cons_of_neg->Eh,take_succ_cons->Ki,take_zero->V8,getElem?_map->Ej,map_drop->El,takeWhile_map->Em,map_take->En,map_append->Bd,mem_cons->KX,append_nil->Bg,nodup_append->Eo,append_assoc->Ja,mem_map->JH,take_of_length_le->Jr,filterMap_cons->VK,filterMap_nil->Ep,getElem?_cons_zero->Kz,getElem?_cons_succ->KM,drop_succ_cons->VE,not_mem_nil->Bn
open Int renaming toNat_natCast->Vr
open Bool renaming and_eq_true->Ky,or_eq_true->JW,not_eq_true'->Jj,and_eq_false_iff->VS,or_eq_false_iff->VT,not_eq_false'->VU,and_true->JU,and_false->BM,false_and->V4,true_and->Vg,false_or->BQ,false_eq_true->KW,not_false->Er,not_true->V3,true_eq_false->Es
open Go.AM.AHeap renaming set_none->V9,set_comm->Vj,set_set->Vi,set_ne->Vd,set_same->Ve,ne_some->Bj,set->Bf,del->Vl,del_set->Et
open Go.AM.AVal renaming cells->VX
open Go.AM.Awp renaming keep->Vb,forget->BI
open UInt8 renaming toNat_inj->BN,ofNat->KD
open Array renaming replicate->Jy,getD_eq_getD_getElem?->Ku,getElem?_append->Jz,getD->JF
open Go.AM.PMap renaming le_trans->J7
namespace Go.Proofs.YtlhhaagmakhilaaGreatDoor
open Go.AM
open Go.Proofs
open Go.Col
set_option maxRecDepth 100000
theorem qvO(wz:World)(hm:MaxL wz)(h B0:AHeap)(hs0:Sub h B0)(kr kx ks:Nat)(text:Str)(dbg:Bool)(lines:List Str)(hln:lines=Zz (YU text))(hl:text.length<=1048576)
 (er:B0 kr=some ⟨[.int .i64 0, .int .i64 0, .int .i64 0],0⟩) (hr:h kr=none) (es:B0 ks=some ⟨lines.map AVal.str,0⟩) (hi:RdInv wz B0 kx B0 (fun _=>none) none none .start):
 Awp Tryz.prog wz 82 (UL 4 (qjZ (UL 1 (qeB Tryz.f49)))) (qgf (qeg Tryz.prog wz [.tmp 4, .cell 5 35] (qrp wz h text dbg))) [(1, .bool dbg),(5, .ptr (.own kr) 0),(6, .ptr (.own kx) 0),(7, .slice (.own ks) 0 lines.length (.exact lines.length))] (rdH kx B0 none none .start):=by
 have hnl:lines.length<=1048577:=by
  rw[hln];have:=qfc (YU text);have:=qdY text;omega
 change Awp _ _ _ (Code.seq _ _) _ _ _;refine qJ ?_;refine awp_rseq [1,5,6,21,22,23] (by rfl) fun K hK=>?_;simp+decide only[qa,ev,qH,qG,putD,VO,VQ,VP,Ka,Kb,↓qg,qc,↓Xe,Qw,Zh Tryz.underlying30];apply hK;clear hK K;refine Qm ?_;refine XC [1,5,6,21,22,23] (fun g:RdL=>[(1, .bool dbg),(5, .ptr (.own kr) 0),(6, .ptr (.own kx) 0),(21, .slice (.own ks) 0 lines.length (.exact lines.length)),(22, .int .i64 lines.length),(23, .int .i64 g.i)]) (fun g:RdL=>rdH kx g.B g.cb g.mb g.x) (fun g:RdL=>RdInv wz B0 kx g.B g.M g.cb g.mb g.x/\g.i<=lines.length/\RdSm g.i g.x/\WP dbg (lines.drop g.i) (g.i+1) g.x=WP dbg lines 1 .start) (fun g:RdL=>lines.length-g.i) ⟨0,B0,fun _=>none,none,none, .start⟩ (by rfl) (Vm _) ⟨hi,Jt _,⟨by simp[Rd.start],by simp[Rd.start]⟩,rfl⟩ ?_;rintro⟨i,B,M,cb,mb,x⟩ ⟨ri,hin,hsm,hrl⟩;simp only at ri hin hsm hrl|-
 have rix:=fun o=>QB wz ri.at o;refine awp_rseq [1,5,6,21,22,23,24] (by rfl) fun K hK=>?_;simp+decide only[qa,ev,putD,VO,VQ,VP,Ka,Kb,↓qw,qm,qR,cond_false,qo,XZ];apply hK;clear hK K;refine qJ (qI (b:=_) rfl (fun hb1=>?_) (fun hb1=>?_))
 ·try simp only[decide_eq_true_eq]at hb1
  have hi':i<lines.length:=by omega
  have eks:=ri.above _ _ es;have rks:=fun o=>QB wz eks o;have eg:(lines.map AVal.str).getD i .dead= .str (lines.getD i []):=by simp[Ko,hi']
  obtain⟨r,cn,f,hp⟩:∃r cn f,qaa (lines.getD i []) ((i:Int)+1) dbg=(r,cn,f):=⟨_,_,_,rfl⟩
  have hsl:=qjt (s:=lines.getD i []) (line:=(i:Int)+1) (dbg:=dbg);rw[hp]at hsl;simp only at hsl;have hlm:(lines.getD i []).length<=1048576:=by
   have h1:=qjg (YU text) (lines.getD i []) (by rw[<-hln,Ko,JA hi'];exact VJ hi');have h2:=qdY text;omega
  have hdrop:lines.drop i=lines.getD i []::lines.drop (i+1):=by rw[J5 hi'];simp[Ko,hi']
  refine qP ?_;change Awp _ _ _ _ _ _ _;refine qJ ?_;refine Qm ?_;refine awp_rseq [1,5,6,8,9,21,22,23] (by rfl) fun K hK=>?_;simp+decide only[qa,ev,putD,VO,VQ,VP,Ka,Kb,↓qg,qc,↓QE,qY,qW Tryz.underlying30 sz9,↓qF,qz ag9,↓qd,qb,Js,qE,rks,eg,Vr,BK];repeat (with_reducible refine And.intro ?_ ?_;· first|trivial|omega|(intro hg;simp only[Ky,JW,Jj,VS,VT,VU,decide_eq_true_eq,decide_eq_false_iff_not,XY]at hg;omega))
  apply hK;clear hK K;refine awp_rseq [1,5,6,10,11,12,21,22,23] (by rfl) fun K hK=>?_;simp+decide only[ev,qH,qG,putD,VO,VQ,Ka,Kb,↓qg,qc,↓qw,qm,qA,cond_false,qo,Xa];try simp(disch:=omega)only[wrap_i64]
  refine qO (V:= .tuple [qkD r, .bool cn,QC f]) (by rfl) (by rfl) ((qBB wz _ (lines.getD i []) ((i:Int)+1) dbg (by omega) (by omega) (by omega)).val (by rw[hp])) ?_;simp+decide only[ev,putD,VO,VQ,Ka,Kb,↓qg,qc,↓QY,QL,QV,KY,J9,VZ,Kn,VZ,Kn,Js,Nat.reduceAdd,QC,qkD];refine Qi qvz (cs:=[.int .i64 0, .bool false, .str [], .int .i64 0]) (by rfl) fun k8q9 hk8q9=>?_;try have hf_8q9:(rdH kx B0 none none .start) k8q9=none:=by first|assumption|(simp only[V9]at hk8q9;simp only[hk8q9])
  refine Qi qaE (cs:=[.int .i64 0, .int .i64 0, .int .i64 0]) (by rfl) fun k8q10 hk8q10=>?_;have ne_8q10_8q9:k8q10≠k8q9:=by simp only[V9]at hk8q10;simp only[hk8q10,ne_eq,not_false_eq_true]
  try have hf_8q10:(rdH kx B0 none none .start) k8q10=none:=by first|assumption|(simp only[V9]at hk8q10;simp only[hk8q10])
  refine qp (by rfl) (by rfl) zqA YE (by rfl) (by rfl) zqD (Jt _) (by rfl) ?_;simp only[VX];simp+decide only[ev,putD,VO,VQ,Ka,Kb,↓qd,qb,setAt,VY,Kj,Js,Nat.reduceAdd];refine qp (by rfl) (by rfl) zqA QN (by rfl) (by rfl) zqD (Jt _) (by rfl) ?_;simp only[VX];simp+decide only[qa,ev,putD,VQ,VP,Ka,setAt,VY,Kj,Js,Nat.reduceAdd];apply hK;clear hK K;refine qJ ?_;have hnorm:((((rdH kx B cb mb x).set k8q9 ⟨[.int .i64 0, .bool false, .str [], .int .i64 0],0⟩).set k8q10 ⟨[.int .i64 0, .int .i64 0, .int .i64 0],0⟩).set k8q9 ⟨[.int .i64 r.line, .bool r.more, .str r.text, .int .i64 r.col],0⟩).set k8q10 ⟨[.int .i64 f.e, .int .i64 f.line, .int .i64 f.col],0⟩=((rdH kx B cb mb x).set k8q9 ⟨[.int .i64 r.line, .bool r.more, .str r.text, .int .i64 r.col],0⟩).set k8q10 ⟨[.int .i64 f.e, .int .i64 f.line, .int .i64 f.col],0⟩:=by
   rw[Vj ((rdH kx B cb mb x).set k8q9 ⟨[.int .i64 0, .bool false, .str [], .int .i64 0],0⟩) _ _ ne_8q10_8q9.symm,Vi,Vi]
  rw[hnorm];obtain⟨a1,a2,a3,a4⟩:=qkb ri hk8q9 ⟨[.int .i64 r.line, .bool r.more, .str r.text, .int .i64 r.col],0⟩;have hk2:rdH kx (B.set k8q9 ⟨[.int .i64 r.line, .bool r.more, .str r.text, .int .i64 r.col],0⟩) cb mb x k8q10=none:=by
   rw[<-a1,Vd _ _ ne_8q10_8q9]
   rwa [Vd _ _ ne_8q10_8q9]at hk8q10
  obtain⟨b1,b2,b3,b4⟩:=qkb a2 hk2 ⟨[.int .i64 f.e, .int .i64 f.line, .int .i64 f.col],0⟩;rw[a1,b1];obtain⟨B₁,hB₁⟩:∃B₁,B₁=(B.set k8q9 ⟨[.int .i64 r.line, .bool r.more, .str r.text, .int .i64 r.col],0⟩).set k8q10 ⟨[.int .i64 f.e, .int .i64 f.line, .int .i64 f.col],0⟩:=⟨_,rfl⟩
  rw[<-hB₁]at b2|-
  have e0:B₁ k8q9=some ⟨[.int .i64 r.line, .bool r.more, .str r.text, .int .i64 r.col],0⟩:=by rw[hB₁,Vd _ _ ne_8q10_8q9.symm,Ve]
  have e1:B₁ k8q10=some ⟨[.int .i64 f.e, .int .i64 f.line, .int .i64 f.col],0⟩:=by rw[hB₁,Ve]
  have hB8:B k8q10=none:=by rwa [Vd _ _ ne_8q10_8q9]at b4
  have s0:=fun o=>QB wz (b2.other e0) o;have s1:=fun o=>QB wz (b2.other e1) o;refine awp_rseq [1,5,6,10,12,21,22,23,43] (by rfl) fun K hK=>?_;simp+decide only[qa,ev,qH,qG,putD,VO,VQ,VP,Ka,Kb,↓qF,qY,qh Xw QN,↓Qu,↓Qa,Yn,evP,Vk,↓qw,qm,qR,cond_false,YO,qyc,↓qg,qc,↓Xf,agP,Qv,qM,qK,qC,implies_true,JU,↓qde,Zl,YC,qnd,qnh,↓QW,Qz,Qk,Xp,Xy,qf,VZ,Kn,Js,Nat.reduceAdd,qi,allLive,JU,s1,UG];apply hK;clear hK K;refine qI (b:=_) rfl (fun hb2=>?_) (fun hb2=>?_)
  ·try simp only[decide_eq_true_eq,Jj,Ky]at hb2
   have iz:=b2;have gz:=hsm.next;have lz:WP dbg (lines.drop (i+1)) (((i+1:Nat):Int)+1) x=WP dbg lines 1 .start:=by
    rw[<-hrl,hdrop,qrC (by rw[hp,hb2.2]) hb2.1];rfl
   refine XE ?_;change Awp _ _ _ _ _ _ _;refine XW [1,5,6,21,22,23] (by rfl) ?_;simp+decide only[qa,ev,qH,qG,putD,VO,VQ,VP,Ka,Kb,↓qw,qm,qA,cond_false,qo,Xa,↓qg,qc];try simp(disch:=omega)only[wrap_i64]
   try simp only[Qj]
   exact⟨⟨i+1,_,_,_,_,_⟩,rfl,Vm _,⟨iz,by simp only;omega,gz,lz⟩,by simp only;omega⟩
  ·try simp only[decide_eq_false_iff_not,VU,VS]at hb2
   refine qP ?_;change Awp _ _ _ _ _ _ _;refine qJ ?_;refine awp_rseq [1,5,6,10,12,21,22,23,46] (by rfl) fun K hK=>?_;simp+decide only[qa,ev,qH,qG,putD,VO,VQ,VP,Ka,Kb,↓qF,qY,qh Xw QN,↓Qu,↓Qa,Yn,evP,Vk,↓qw,qm,qR,cond_false,YO,qyc,qf,VZ,Kn,Js,Nat.reduceAdd,qi,allLive,JU,s1,UG];apply hK;clear hK K;refine qI (b:=_) rfl (fun hb3=>?_) (fun hb3=>?_)
   ·try simp only[decide_eq_true_eq]at hb3
    have hcn:cn=true:=by
     cases hcn:cn with
     |true=>rfl
     |false=>
      rcases hb2 with e|e
      ·exact absurd hb3 e
      ·rw[hcn]at e
       cases e
    subst hcn;refine XW [1,5,6,12,21,22,23] (by rfl) ?_;simp+decide only[ev,putD,VO,VQ,Ka,Kb,↓qF,qY,qh Uj YE,qf,VZ,Kn,Js,Nat.reduceAdd,qD,qi,qE,allLive,JU,s0];refine QU (by rfl) (by rfl) (qBv wz B0 kx B₁ M cb mb x b2 r (fun c hc=>by have:=hsm.small c hc;omega) (by have:=hsm.many;omega) (by omega) (hsl.2 rfl).1 (hsl.2 rfl).2.1 (by have:=(hsl.2 rfl).2.2;omega)) fun x11q1 h11q1 hx11q1=>?_;obtain⟨ex,B',M',cb',mb',rfl,i2,s2,m2⟩:=hx11q1;obtain⟨fz,hfz⟩:∃fz,fz=(takeE x r).2:=⟨_,rfl⟩
    rw[<-hfz]at ex;subst ex;have hM8:M' k8q10=none:=m2 _ (by rw[e1];simp) (ri.subM.none hB8);obtain⟨c1,iz⟩:=i2.put (s2 _ _ e1) (ri.sub.none hB8) hM8 ⟨[.int .i64 fz.e, .int .i64 fz.line, .int .i64 fz.col],0⟩;have gz:=qeY hsm (r:=r) (by omega);refine qp (v:= .agg [.int .i64 fz.e, .int .i64 fz.line, .int .i64 fz.col]) (by rfl) (by rfl) (i2.other (s2 _ _ e1)) QN (by rfl) (by rfl) (by simp[]) (Jt _) (by rfl) ?_;simp only[setAt,VX,VY,Kj,Js,Nat.reduceAdd];rw[c1];have ez:=Ve B' k8q10 ⟨[.int .i64 fz.e, .int .i64 fz.line, .int .i64 fz.col],0⟩;simp+decide only[qa,putD,VO,VP,Ka,QC];change Awp _ _ _ _ _ _ _;refine awp_rseq [1,5,6,12,21,22,23,51] (by rfl) fun K hK=>?_;simp+decide only[qa,ev,qH,qG,putD,VO,VQ,VP,Ka,Kb,↓qF,qY,qh Xw QN,↓Qu,↓Qa,Yn,evP,Vk,↓qw,qm,qR,cond_false,YO,qpr,qf,VZ,Kn,Js,Nat.reduceAdd,qi,allLive,JU,QB wz (iz.other ez),UG];apply hK;clear hK K;refine qI (b:=_) rfl (fun hb4=>?_) (fun hb4=>?_)
    ·try simp only[decide_eq_false_iff_not,Jj]at hb4
     have hres:=qjj (text:=text) (dbg:=dbg) hl (by rw[<-hln,<-hrl,hdrop,qtY hp hb3 (by rw[<-hfz];exact hb4)]) (by rw[<-hfz];exact hb4);rw[<-hfz]at hres;refine Zk 2 [4,5] mixed (by kernel_rfl) (by rfl) (by rfl) fun K hK=>?_;simp+decide only[ev,qH,qG,putD,VO,VQ,Ka,Kb,↓qF,qY,qh Xw QN,↓qd,qb,qf,VZ,Kn,Js,Nat.reduceAdd,qi,allLive,JU,QB wz (iz.other ez)];refine qp (v:= .agg [.int .i64 fz.e, .int .i64 fz.line, .int .i64 fz.col]) (by rfl) (by rfl) (iz.other (iz.sub _ _ er)) QN (by rfl) (by rfl) (by simp[]) (Jt _) (by rfl) ?_;simp only[setAt,VX,VY,Kj,Js,Nat.reduceAdd];simp+decide only[qa,putD,VP,Ka];apply hK;clear hK K;refine qL ?_;try simp only[Qe,Qp,WF]
     refine Qb h (V5 (hs0.trans iz.above) hr) (?_) ?_
     ·simp+decide only[QG,qy,qj,VQ,Ka,and_true,qy,qj,qh Xw QN,qZ,qf,VZ,Kn,Js,Nat.reduceAdd,qi,allLive,JU,qf,VZ,Kn,Js,Nat.reduceAdd,qi,allLive,JU]
     simp+decide only[VQ,Ka,XA,qy,qj,qh Xw QN,qZ,qf,VZ,Kn,Js,Nat.reduceAdd,qi,allLive,JU,qf,VZ,Kn,Js,Nat.reduceAdd,qi,allLive,JU];exact⟨.nilSlice,by rw[hres];rfl,by rw[hres];exact⟨[],rfl, .nil,by simp⟩,Vm _⟩
    ·try simp only[decide_eq_true_eq,VU]at hb4
     have lz:WP dbg (lines.drop (i+1)) (((i+1:Nat):Int)+1) (takeE x r).1=WP dbg lines 1 .start:=by
      rw[<-hrl,hdrop,qrB hp hb3 (by rw[<-hfz];exact hb4)];rfl
     refine qP ?_;change Awp _ _ _ _ _ _ _;refine XW [1,5,6,21,22,23] (by rfl) ?_;simp+decide only[qa,ev,qH,qG,putD,VO,VQ,VP,Ka,Kb,↓qw,qm,qA,cond_false,qo,Xa,↓qg,qc];try simp(disch:=omega)only[wrap_i64]
     try simp only[Qj]
     exact⟨⟨i+1,_,_,_,_,_⟩,rfl,Vm _,⟨iz,by simp only;omega,gz,lz⟩,by simp only;omega⟩
   ·try simp only[decide_eq_false_iff_not]at hb3
    have iz:=b2;have ez:=e1;obtain⟨fz,hfz⟩:∃fz,fz=f:=⟨_,rfl⟩
    subst hfz;refine qP ?_;change Awp _ _ _ _ _ _ _;refine awp_rseq [1,5,6,12,21,22,23,51] (by rfl) fun K hK=>?_;simp+decide only[qa,ev,qH,qG,putD,VO,VQ,VP,Ka,Kb,↓qF,qY,qh Xw QN,↓Qu,↓Qa,Yn,evP,Vk,↓qw,qm,qR,cond_false,YO,qpr,qf,VZ,Kn,Js,Nat.reduceAdd,qi,allLive,JU,s1,UG];apply hK;clear hK K;refine qI (b:=_) rfl (fun hb5=>?_) (fun hb5=>?_)
    ·try simp only[decide_eq_false_iff_not,Jj]at hb5
     have hres:=qjj (text:=text) (dbg:=dbg) hl (by rw[<-hln,<-hrl,hdrop,qoZ hp hb3]) hb3;refine Zk 2 [4,5] mixed (by kernel_rfl) (by rfl) (by rfl) fun K hK=>?_;simp+decide only[ev,qH,qG,putD,VO,VQ,Ka,Kb,↓qF,qY,qh Xw QN,↓qd,qb,qf,VZ,Kn,Js,Nat.reduceAdd,qi,allLive,JU,s1];refine qp (v:= .agg [.int .i64 fz.e, .int .i64 fz.line, .int .i64 fz.col]) (by rfl) (by rfl) (iz.other (iz.sub _ _ er)) QN (by rfl) (by rfl) (by simp[]) (Jt _) (by rfl) ?_;simp only[setAt,VX,VY,Kj,Js,Nat.reduceAdd];simp+decide only[qa,putD,VP,Ka];apply hK;clear hK K;refine qL ?_;try simp only[Qe,Qp,WF]
     refine Qb h (V5 (hs0.trans iz.above) hr) (?_) ?_
     ·simp+decide only[QG,qy,qj,VQ,Ka,and_true,qy,qj,qh Xw QN,qZ,qf,VZ,Kn,Js,Nat.reduceAdd,qi,allLive,JU,qf,VZ,Kn,Js,Nat.reduceAdd,qi,allLive,JU]
     simp+decide only[VQ,Ka,XA,qy,qj,qh Xw QN,qZ,qf,VZ,Kn,Js,Nat.reduceAdd,qi,allLive,JU,qf,VZ,Kn,Js,Nat.reduceAdd,qi,allLive,JU];exact⟨.nilSlice,by rw[hres];rfl,by rw[hres];exact⟨[],rfl, .nil,by simp⟩,Vm _⟩
    ·try simp only[decide_eq_true_eq,VU]at hb5
     exact absurd hb5 hb3
 ·try simp only[decide_eq_false_iff_not]at hb1
  obtain rfl:i=lines.length:=by omega
  have hdone:WP dbg (Zz (YU text)) 1 .start=(x,okF):=by
   rw[<-hln,<-hrl,List.drop_length];rfl
  refine XE ?_;change Awp _ _ _ _ _ _ _;refine Vb [5,6] ?_;exact qzm wz h B0 hs0 kr kx text dbg hl er hr B M cb mb x ri (by have:=hsm.many;omega) hdone
theorem qkG{text:Str}{dbg:Bool}(hl:1048576<text.length):qas text dbg=([],⟨3,0,0⟩):=by
 unfold qas;rw[if_pos hl]
theorem qBO(wz:World)(hm:MaxL wz)(h:AHeap)(text:Str)(dbg:Bool)(hl:text.length<=9223372036854775807):ACall Tryz.prog wz 49 [.str text, .bool dbg] h (qrp wz h text dbg):=by
 refine qU (n:=82) (rs:=[.tmp 4, .cell 5 35]) Tryz.func49 rfl rfl rfl rfl (VN rfl) ?_;simp only[Qg];refine awp_rseq [0,1,5] (by rfl) fun K hK=>?_;simp+decide only[ev,qH,qG,putD,VO,if_false,Kb,↓qd,qb,Js];refine Qi qaE (cs:=[.int .i64 0, .int .i64 0, .int .i64 0]) (by rfl) fun k0q1 hk0q1=>?_;try have hf_0q1:h k0q1=none:=by first|assumption|(simp only[V9]at hk0q1;simp only[hk0q1])
 simp+decide only[qa,putD,VO,VP,Ka];apply hK;clear hK K;refine qnp ?_;refine qJ ?_;refine awp_rseq [0,1,5,16] (by rfl) fun K hK=>?_;simp+decide only[qa,ev,qH,qG,putD,VO,VQ,VP,Ka,Kb,↓qg,qc,↓Xe,Qw,WB Tryz.underlying9,↓qw,qm,qA,cond_false,qo,qau];apply hK;clear hK K;refine qI (b:=_) rfl (fun hb1=>?_) (fun hb1=>?_)
 ·try simp only[decide_eq_true_eq]at hb1
  refine awp_rseq [4,5] (by rfl) fun K hK=>?_;simp+decide only[ev,qH,qG,putD,VO,VQ,Ka,Kb,↓Qu,↓Qa,qtG,evP,Ke,Vk,↓qd,qb];refine qp (by rfl) (by rfl) zqA QN (by rfl) (by rfl) zqD (Jt _) (by rfl) ?_;simp only[Vi,VX];simp+decide only[qa,ev,putD,VQ,VP,Ka,setAt,VY,Kj,Js,Nat.reduceAdd];apply hK;clear hK K;refine qL ?_;try simp only[Qe,WF]
  refine Qb h zqC (?_) ?_
  ·simp+decide only[QG,qy,qj,VQ,Ka,and_true,qy,qj,qh Xw QN,qZ,qf,VZ,Kn,Js,Nat.reduceAdd,qi,allLive,JU,qf,VZ,Kn,Js,Nat.reduceAdd,qi,allLive,JU]
  simp+decide only[VQ,Ka,XA,qy,qj,qh Xw QN,qZ,qf,VZ,Kn,Js,Nat.reduceAdd,qi,allLive,JU,qf,VZ,Kn,Js,Nat.reduceAdd,qi,allLive,JU];have hb:1048576<text.length:=by omega
  exact⟨.nilSlice,by rw[qkG hb];rfl,by rw[qkG hb];exact⟨[],rfl, .nil,by simp⟩,Vm _⟩
 ·try simp only[decide_eq_false_iff_not]at hb1
  refine qP ?_;change Awp _ _ _ _ _ _ _;refine awp_rseq [0,1,5,6] (by rfl) fun K hK=>?_;refine Qi qCc (cs:=[.nilSlice, .int .i64 0, .int .i64 0, .bool false]) (by rfl) fun k3q0 hk3q0=>?_;have ne_3q0_0q1:k3q0≠k0q1:=by simp only[V9]at hk3q0;simp only[hk3q0,ne_eq,not_false_eq_true]
  try have hf_3q0:h k3q0=none:=by first|assumption|(simp only[V9]at hk3q0;simp only[hk3q0])
  simp+decide only[qa,putD,VO,VP,Ka];apply hK;clear hK K;refine awp_rseq [1,5,6,7] (by rfl) fun K hK=>?_;simp+decide only[ev,putD,VO,VQ,Ka,Kb,↓qg,qc];refine qO (V:= .str (YU text)) (by rfl) (by rfl) (qyw wz _ text hl) ?_;refine QU (by rfl) (by rfl) (qzW wz hm _ (YU text) (by have:=qdY text;omega)) fun x4q2 h4q2 hx4q2=>?_;obtain⟨ks,hks,rfl,rfl⟩:=hx4q2;simp+decide only[qa,ev,putD,VO,VQ,VP,Ka,Kb,↓qd,qb];apply hK;clear hK K;refine qJ ?_;refine qnr ?_;change Awp _ _ _ _ _ _ _;obtain⟨nks,_,hks2⟩:=(V9 _ _ _ _).mp hks;obtain⟨nkr,_,hks3⟩:=(V9 _ _ _ _).mp hks2;have nkx:k3q0≠k0q1:=((V9 _ _ _ _).mp hk3q0).1;have hcomm:((h.set k0q1 ⟨[.int .i64 0, .int .i64 0, .int .i64 0],0⟩).set k3q0 ⟨[.nilSlice, .int .i64 0, .int .i64 0, .bool false],0⟩).set ks ⟨(Zz (YU text)).map AVal.str,0⟩=rdH k3q0 ((h.set k0q1 ⟨[.int .i64 0, .int .i64 0, .int .i64 0],0⟩).set ks ⟨(Zz (YU text)).map AVal.str,0⟩) none none .start:=Vj _ _ _ nks;rw[hcomm];exact qvO wz hm h _ zqB k0q1 k3q0 ks text dbg (Zz (YU text)) rfl (by omega) ((Vd _ _ nkr.symm).trans (Ve _ _ _)) hk0q1 (Ve _ _ _) ⟨Vm _,(fun _ _ e=>by cases e),(Vd _ _ nks.symm).trans hk3q0,trivial,trivial, .inl ⟨rfl,rfl,rfl⟩⟩
end Go.Proofs.YtlhhaagmakhilaaGreatDoor
namespace Go.Proofs.YtlhhaagmakhilaaGreatDoor
open Go.AM
open Go.Proofs
open Go.Col
open Go.Tok
open Go.RowKit (Below)
set_option maxRecDepth 100000
theorem quU{wz:World}{h:AHeap}{l:AM.Loc}{o n:Nat}{cp:Cap}{cs:List CardC}(hc:IsCards wz h (.slice l o n cp) cs){i:Nat}(hi:i<cs.length):
 ∃mv,IsL wz h 3 mv ((cs.getD i ⟨false,[],[]⟩).marks.map UY)/\rd wz h l (o+i*3)= .bool (cs.getD i ⟨false,[],[]⟩).left/\rd wz h l (o+i*3+1)= .str (cs.getD i ⟨false,[],[]⟩).text/\rd wz h l (o+i*3+2)=mv:=by
 obtain⟨ps,rfl,h2,h3⟩:=hc;rw[Jp]at hi;have he:=h2.elem (i:=i) (by rw[Jp];exact hi);rw[getD_map (⟨false,[],[]⟩, .dead) hi]at he;have hg:(ps.map (·.1)).getD i ⟨false,[],[]⟩=(ps.getD i (⟨false,[],[]⟩, .dead)).1:=by
  simp[Ko,hi]
 rw[hg];have hm:ps.getD i (⟨false,[],[]⟩, .dead)∈ps:=by rw[Ko,JA hi];exact VJ hi
 simp only[qf,ZM,List.cons.injEq,and_true]at he;exact⟨_,h3 _ hm,he.1,he.2.1,he.2.2⟩
theorem qnI{wz:World}{h h':AHeap}{l:AM.Loc}{o:Nat}{v:AVal}(hv:rd wz h l o=v)(hl:v.live=true)(hs:Sub h h'):rd wz h' l o=v:=by
 have:=qin (wz:=wz) (l:=l) hs 1 o (by simp only[qf,AM.allLive,hv,hl,JU]);simp only[qf,List.cons.injEq,and_true]at this;rw[this,hv]
theorem IsCards.liveT{wz:World}{h:AHeap}{v:AVal}{cs:List CardC}(hc:IsCards wz h v cs):v.live=true:=by
 obtain⟨ps,rfl,h2,h3⟩:=hc;exact h2.live
theorem IsCards.lenT{wz:World}{h:AHeap}{v:AVal}{cs:List CardC}(hc:IsCards wz h v cs):∀H:AHeap,YN Tryz.prog H 101 v=⟨True, .int .i64 cs.length⟩:=by
 obtain⟨ps,rfl,h2,h3⟩:=hc;have:=h2.len Tryz.underlying101;intro H;have:=this H;rw[Jp]at this|-
 exact this
theorem IsCards.openT{wz:World}{h:AHeap}{v:AVal}{cs:List CardC}(hc:IsCards wz h v cs)(hn:0<cs.length):∃l o c,v= .slice l o cs.length c:=by
 obtain⟨ps,rfl,h2,h3⟩:=hc;obtain⟨l,o,c,e⟩:=h2.open (fun e=>by rw[VW]at e;subst e;simp at hn);rw[Jp]at e|-
 exact⟨l,o,c,e⟩
theorem qoY{cs:List CardC}{i:Nat}(hi:i<cs.length)(l:List TokC):qcv (cs.drop i) l=if (qbk (cs.getD i ⟨false,[],[]⟩) l).2≠okF then([],(qbk (cs.getD i ⟨false,[],[]⟩) l).2)else qcv (cs.drop (i+1)) (qbk (cs.getD i ⟨false,[],[]⟩) l).1:=by
 rw[J5 hi,qcv];simp[Ko,hi]
theorem Sub.bufBoth{h h':AHeap}{b:Option Buf}(hs:Sub h h'):Sub (Ql h b) (Ql h' b):=by
 cases b with
 |none=>exact hs
 |some b=>exact Bb hs _ _
def qAZ(h:AHeap)(R:List TokC×FaultC)(v:AVal)(h':AHeap):Prop:=∃tb,v= .tuple [Yp (QH 5 tb),QC R.2]/\bufOk h 5 tb/\Yh tb=(R.1.map QI).flatten/\h'=Ql h tb
structure SnG where
 i:Nat
 l:List TokC
 tb:Option Buf
 lf:Bool
 s:Str
 mv:AVal
 at0:Nat
structure SnOk(kx:Nat)(B:AHeap)(cs:List CardC)(g:SnG):Prop where
 inv:ScInv kx B g.tb g.l
 i:g.i<=cs.length
 eq:qcv (cs.drop g.i) g.l=qfg cs
 len:g.l.length<=65536
theorem qop(wz:World)(h:AHeap)(v:AVal)(xs:List (List AVal))(hv:IsL wz h 5 v xs):ACall Tryz.prog wz 33 [v] h (fun r h'=>r=Yp v/\h'=h):=by
 have hlen:=hv.len Tryz.underlying26;have h3:=hv.slice3 Tryz.underlying26 Xb .i64 .i64 none rfl;refine qU (n:=9) (rs:=[.tmp 2]) Tryz.func33 rfl rfl rfl rfl (VN rfl) ?_;simp only[Qg];refine awp_rseq [0] (by rfl) fun K hK=>?_;simp+decide only[qa,ev,qH,qG,putD,VO,VP,Ka,Kb,↓qd,qb];apply hK;clear hK K;refine awp_rseq [2] (by rfl) fun K hK=>?_;simp+decide only[qa,ev,putD,VO,VQ,VP,Ka,Kb,↓qg,qc,↓Xe,Qw,↓Wp,ZG,evO,↓qd,qb,hlen,h3];apply hK;clear hK K;refine qL ?_;refine Qb _ (Vm _) (qN (Qc)) ?_;simp+decide only[VQ,if_true,and_true,Qs];all_goals first|rfl|exact⟨rfl,rfl⟩|(simp+decide only[Ka, *];done)|(trace_state;fail)
set_option maxHeartbeats 1000000 in
theorem qBM(wz:World)(h:AHeap)(v:AVal)(cs:List CardC)(hc:IsCards wz h v cs)(hn:cs.length<=4611686018427387904)(hsm:∀c∈cs,c.text.length<=1099511627776/\c.marks.length<=4611686018427387904):
 ACall Tryz.prog wz 50 [v] h (qAZ h (qfg cs)):=by
 have hlv:=hc.liveT;have hln:=hc.lenT;refine qU (n:=27) (rs:=[.tmp 2, .cell 3 35]) Tryz.func50 rfl rfl rfl rfl (VN rfl) ?_;simp only[Qg];refine awp_rseq [0,3] (by rfl) fun K hK=>?_;simp+decide only[ev,qH,qG,putD,VO,if_false,Kb,↓qd,qb];refine Qi qaE (cs:=[.int .i64 0, .int .i64 0, .int .i64 0]) (by rfl) fun k0q1 hk0q1=>?_;try have hf_0q1:h k0q1=none:=by first|assumption|(simp only[V9]at hk0q1;simp only[hk0q1])
 simp+decide only[qa,putD,VO,VP,Ka];apply hK;clear hK K;refine awp_rseq [0,3,4] (by rfl) fun K hK=>?_;refine Qi qCb (cs:=[.bool false, .str [], .nilSlice, .int .i64 0, .nilSlice]) (by rfl) fun k1q0 hk1q0=>?_;have ne_1q0_0q1:k1q0≠k0q1:=by simp only[V9]at hk1q0;simp only[hk1q0,ne_eq,not_false_eq_true]
 try have hf_1q0:h k1q0=none:=by first|assumption|(simp only[V9]at hk1q0;simp only[hk1q0])
 simp+decide only[qa,putD,VO,VP,Ka];obtain⟨B,hB⟩:∃B,B=h.set k0q1 ⟨[.int .i64 0, .int .i64 0, .int .i64 0],0⟩:=⟨_,rfl⟩
 have hBs:Sub h B:=by rw[hB];exact Vh hk0q1
 have hBk:B k0q1=some ⟨[.int .i64 0, .int .i64 0, .int .i64 0],0⟩:=by rw[hB];exact Ve _ _ _
 rw[<-hB]at hk1q0|-
 apply hK;clear hK K;refine qJ ?_;refine awp_rseq [3,4,8,9,10] (by rfl) fun K hK=>?_;simp+decide only[qa,ev,qH,qG,putD,VO,VQ,VP,Ka,Kb,↓qg,qc,↓Xe,Qw,hln];apply hK;clear hK K;refine Qm ?_;refine XC [3,4,8,9,10] (fun g:SnG=>[(3, .ptr (.own k0q1) 0),(4, .ptr (.own k1q0) 0),(8,v),(9, .int .i64 cs.length),(10, .int .i64 g.i)]) (fun g:SnG=>scH k1q0 B g.tb g.lf g.s g.mv g.at0) (fun g:SnG=>SnOk k1q0 B cs g) (fun g:SnG=>cs.length-g.i) ⟨0,[],none,false,[], .nilSlice,0⟩ (by rfl) (Vm _) ⟨⟨hk1q0,fun _=>trivial,rfl⟩,Jt _,rfl,Jt _⟩ ?_;rintro⟨i,l,tb,lf0,s0,mv0,at0⟩ ⟨i1,i2,i3,i4⟩;simp only at i1 i2 i3 i4|-
 have hSb:Sub h (scH k1q0 B tb lf0 s0 mv0 at0):=hBs.trans i1.above;refine awp_rseq [3,4,8,9,10,11] (by rfl) fun K hK=>?_;simp+decide only[qa,ev,putD,VO,VQ,VP,Ka,Kb,↓qw,qm,qR,cond_false,qo,XZ];apply hK;clear hK K;refine qJ (qI (b:=_) rfl (fun hb1=>?_) (fun hb1=>?_))
 ·try simp only[decide_eq_true_eq]at hb1
  have hi:i<cs.length:=by omega
  obtain⟨lc,o,cp,rfl⟩:=hc.openT (by omega);obtain⟨mv,e3,e0,e1,e2⟩:=quU hc hi;obtain⟨c,hcc⟩:∃c,c=cs.getD i ⟨false,[],[]⟩:=⟨_,rfl⟩
  have hnext:=qoY hi l;rw[<-hcc]at e0 e1 e3 hnext;have hcs:=hsm c (by rw[hcc,Ko,JA hi];exact VJ hi);have hmv:=e3.live;have hms:=e3.scal;have e0':=qnI e0 rfl hSb;have e1':=qnI e1 rfl hSb;have e2':=qnI e2 hmv hSb;rw[i3]at hnext;refine qP ?_;change Awp _ _ _ _ _ _ _;refine qJ ?_;refine Qm ?_;refine awp_rseq [3,4,6,8,9,10] (by rfl) fun K hK=>?_;simp+decide only[ev,putD,VO,VQ,Ka,Kb,↓QE,qY,qW Tryz.underlying101 qdr,↓qF,qh qri qdr,qf,qD,qE,allLive,JU,e0',e1',e2',Vr,hmv];repeat (with_reducible refine And.intro ?_ ?_;· first|trivial|omega|(intro hg;simp only[Ky,JW,Jj,VS,VT,VU,decide_eq_true_eq,decide_eq_false_iff_not,XY]at hg;omega))
  refine Qi qAH (cs:=[.bool false, .str [], .nilSlice]) (by rfl) fun k4q2 hk4q2=>?_;try have hf_4q2:h k4q2=none:=by first|assumption|(simp only[V9]at hk4q2;simp only[hk4q2])
  refine qp (v:= .agg [.bool c.left, .str c.text,mv]) (by rfl) (by rfl) (Ve _ _ _) qdr (by rfl) (by rfl) (by simp[]) (Jt _) (show(true && (true && (mv.scal && true)))=true by rw[hms];rfl) ?_;simp only[Vi,setAt,VX,VY,Kj,Js,Nat.reduceAdd];simp+decide only[qa,putD,VO,VP,Ka];apply hK;clear hK K;obtain⟨a1,a2,a3,a4⟩:=i1.lay hk4q2 ⟨[.bool c.left, .str c.text,mv],0⟩;obtain⟨B2,hB2⟩:∃B2,B2=B.set k4q2 ⟨[.bool c.left, .str c.text,mv],0⟩:=⟨_,rfl⟩
  rw[<-hB2]at a1 a2;have hB2s:Sub B B2:=by rw[hB2];exact Vh a4
  have b2k:B2 k4q2=some ⟨[.bool c.left, .str c.text,mv],0⟩:=by rw[hB2];exact Ve _ _ _
  have r5:=fun o=>QB wz (a2.other (lf:=lf0) (s:=s0) (mv:=mv0) (i:=at0) b2k) o;have hm2:IsL wz B2 3 mv (c.marks.map UY):=e3.mono (hBs.trans hB2s);rw[a1];refine awp_rseq [3,4,8,9,10] (by rfl) fun K hK=>?_;simp+decide only[ev,putD,VO,VQ,Ka,Kb,↓qF,qY,qh qri qdr,↓qB,ql,UK,qf,VZ,Kn,Js,Nat.reduceAdd,qD,qE,allLive,JU,r5,hmv];refine qp (v:= .agg [.bool c.left, .str c.text,mv]) (by rfl) (by rfl) a2.at qdr (by rfl) (by rfl) (by simp[]) (Jt _) (show(true && (true && (mv.scal && true)))=true by rw[hms];rfl) ?_;simp only[setAt,VX,VY,Kj,Js,Nat.reduceAdd];rw[a2.set];show QO _ _ _ _ _ (scH k1q0 B2 tb c.left c.text mv at0) _
  simp+decide only[ev,putD,VO,VQ,Ka,Kb,↓qB,ql,WU,Js];refine qp (v:= .int .i64 0) (by rfl) (by rfl) a2.at sz3 (by rfl) (by rfl) (by simp) (Jt _) (by rfl) ?_;simp only[setAt,VX,VY,Kj];rw[a2.set];show QO _ _ _ _ _ (scH k1q0 B2 tb c.left c.text mv 0) _
  simp+decide only[qa,putD,VP,Ka];apply hK;clear hK K;refine awp_rseq [3,4,7,8,9,10] (by rfl) fun K hK=>?_;refine QU (by rfl) (by rfl) (qBK wz k1q0 B2 tb c mv l a2 hm2 hcs.2 hcs.1 i4) fun x6q0 h6q0 hx6q0=>?_;obtain⟨hv6,hl6,tb',i',hh6,j1⟩:=hx6q0;obtain⟨f,hf⟩:∃f,f=(qbk c l).2:=⟨_,rfl⟩
  obtain⟨H6,hH6⟩:∃H6,H6=scH k1q0 B2 tb' c.left c.text mv i':=⟨_,rfl⟩
  have hS6:Sub h H6:=by rw[hH6];exact(hBs.trans hB2s).trans j1.above
  have e06:H6 k0q1=some ⟨[.int .i64 0, .int .i64 0, .int .i64 0],0⟩:=by rw[hH6];exact j1.other (hB2s _ _ hBk)
  rw[<-hf]at hnext;rw[hv6,hh6,<-hH6,<-hf];refine Qi qaE (cs:=[.int .i64 0, .int .i64 0, .int .i64 0]) (by rfl) fun k6q1 hk6q1=>?_;try have hf_6q1:h k6q1=none:=by first|assumption|(simp only[V9]at hk6q1;simp only[hk6q1])
  refine qp (by rfl) (by rfl) zqA QN (by rfl) (by rfl) zqD (Jt _) (by rfl) ?_;simp only[Vi,VX];simp+decide only[qa,ev,putD,VO,VQ,VP,Ka,setAt,VY,Kj,Js,Nat.reduceAdd,QC];apply hK;clear hK K;have hf6:=Bi hS6 hk6q1;have ne_6q1_0q1:k6q1≠k0q1:=Bj hk6q1 e06;refine awp_rseq [3,4,7,8,9,10,20] (by rfl) fun K hK=>?_;simp+decide only[qa,ev,qH,qG,putD,VO,VQ,VP,Ka,Kb,↓qF,qY,qh Xw QN,↓Qu,↓Qa,Yn,evP,Vk,↓qw,qm,qR,cond_false,YO,qpr,QT,qf,VZ,Kn,Js,Nat.reduceAdd,qi,allLive,JU,UG];apply hK;clear hK K;refine qI (b:=_) rfl (fun hb2=>?_) (fun hb2=>?_)
  ·try simp only[decide_eq_false_iff_not,Jj]at hb2
   have hres:qfg cs=([],f):=by rw[hnext,if_pos hb2]
   refine Zk 2 [2,3] mixed (by kernel_rfl) (by rfl) (by rfl) fun K hK=>?_;simp+decide only[ev,qH,qG,putD,VO,VQ,Ka,Kb,↓qF,qY,qh Xw QN,↓qd,qb,QT,qf,VZ,Kn,Js,Nat.reduceAdd,qi,allLive,JU];refine qp (by rfl) (by rfl) zqA QN (by rfl) (by rfl) zqD (Jt _) (by rfl) ?_;simp only[VX];simp+decide only[qa,ev,putD,VQ,VP,Ka,setAt,VY,Kj,Js,Nat.reduceAdd];apply hK;clear hK K;refine qL ?_;try simp only[Qe,Qp]
   refine Qb h zqB (?_) ?_
   ·simp+decide only[QG,qy,qj,VQ,Ka,and_true,qy,qj,qh Xw QN,qZ,qf,VZ,Kn,Js,Nat.reduceAdd,qi,allLive,JU,qf,VZ,Kn,Js,Nat.reduceAdd,qi,allLive,JU]
   simp+decide only[VQ,Ka,XA,qy,qj,qh Xw QN,qZ,qf,VZ,Kn,Js,Nat.reduceAdd,qi,allLive,JU,qf,VZ,Kn,Js,Nat.reduceAdd,qi,allLive,JU];exact⟨none,by rw[hres];rfl,trivial,by rw[hres];rfl,rfl⟩
  ·try simp only[decide_eq_true_eq,VU]at hb2
   have hres:qfg cs=qcv (cs.drop (i+1)) (qbk c l).1:=by rw[hnext,if_neg (by simpa using hb2)]
   refine qP ?_;change Awp _ _ _ _ _ _ _;refine XW [3,4,8,9,10] (by rfl) ?_;simp+decide only[qa,ev,qH,qG,putD,VO,VQ,VP,Ka,Kb,↓qw,qm,qA,cond_false,qo,Xa,↓qg,qc];try simp(disch:=omega)only[wrap_i64]
   try simp only[Qj]
   exact⟨⟨i+1,(qbk c l).1,tb',c.left,c.text,mv,i'⟩,rfl,(qnD hB2s).trans (by rw[<-hH6];exact Vh hk6q1),⟨j1.down hB2s,hi,hres.symm,hl6⟩,by simp only;omega⟩
 ·try simp only[decide_eq_false_iff_not]at hb1
  have hres:qfg cs=(l,okF):=by rw[<-i3,Vu (by omega)];rfl
  have rx10:=fun o=>QB wz (i1.at (lf:=lf0) (s:=s0) (mv:=mv0) (i:=at0)) o;have hbl:=QP 5 tb;have r0:=fun o=>QB wz (i1.other (lf:=lf0) (s:=s0) (mv:=mv0) (i:=at0) hBk) o;refine XE ?_;change Awp _ _ _ _ _ _ _;refine awp_rseq [2,3] (by rfl) fun K hK=>?_;simp+decide only[ev,putD,VO,VQ,Ka,Kb,↓qB,ql,qeu,↓qF,qY,qz qaw,VZ,Kn,Js,rx10,hbl];refine qO (V:=Yp (QH 5 tb)) (by rfl) (by rfl) (qop wz _ _ _ (i1.toks _)) ?_;simp+decide only[ev,qH,qG,putD,VO,VQ,Ka,Kb,↓Qu,↓Qa,Yn,evP,Vk,↓qd,qb];refine qp (v:= .agg [.int .i64 0, .int .i64 0, .int .i64 0]) (by rfl) (by rfl) (i1.other hBk) QN (by rfl) (by rfl) (by simp[]) (Jt _) (by rfl) ?_;simp only[setAt,VX,VY,Kj,Js,Nat.reduceAdd];rw[YH (i1.other hBk)];simp+decide only[qa,putD,VP,Ka];apply hK;clear hK K;refine qL ?_;refine QD (?_) ?_
  ·simp+decide only[QG,qy,qj,VQ,Ka,and_true,qy,qj,qh Xw QN,qf,VZ,Kn,Js,Nat.reduceAdd,qi,allLive,JU,qf,VZ,Kn,Js,Nat.reduceAdd,qi,allLive,JU,r0]
  simp+decide only[VQ,Ka,XA,qy,qj,qh Xw QN,qf,VZ,Kn,Js,Nat.reduceAdd,qi,allLive,JU,qf,VZ,Kn,Js,Nat.reduceAdd,qi,allLive,JU,r0];have hsx:Sub h (B.set k1q0 ⟨[.bool lf0, .str s0,mv0, .int .i64 at0,QH 5 tb],0⟩):=hBs.trans (Vh i1.hk);exact⟨Ql h tb,Sub.bufBoth hsx,tb,by rw[hres];rfl,(i1.ok _).sub hsx,by rw[hres];exact i1.eq,rfl⟩
theorem qej(dbg:Bool):∀(ls:List Str) (n:Int) (x:Rd) (N:Nat),RdSm N x->RdSm (N+ls.length) (WP dbg ls n x).1
 |[],_,x,N,h=>h
 |s::ls,n,x,N,h=>by
  have hl:=(qjt (s:=s) (line:=n) (dbg:=dbg)).1;have e:N+(s::ls).length=(N+1)+ls.length:=by rw[KY];omega
  have up:∀k {y:Rd},RdSm (N+1) y->RdSm (N+1+k) y:=fun k y hy=>by
   induction k with
   |zero=>exact hy
   |succ k ih=>exact ih.next
  rw[WP];cases hp:qaa s n dbg with
  |mk r q=>
   obtain⟨cn,f⟩:=q;rw[hp]at hl;simp only;split
   ·rw[e];exact qej dbg ls _ x (N+1) h.next
   ·split
    ·split
     ·rw[e];exact qej dbg ls _ _ (N+1) (qeY h (by have:r.text.length<=65:=hl;omega))
     ·rw[e];exact up _ (qeY h (by have:r.text.length<=65:=hl;omega))
    ·rw[e];exact up _ h.next
theorem qhA(text:Str)(dbg:Bool):(qas text dbg).1.length<=1048577/\∀c∈(qas text dbg).1,c.text.length<=83886160/\c.marks.length<=1048577:=by
 have h:=qej dbg (Zz (YU text)) 1 .start 0 ⟨Jt _,fun c hc=>by cases hc⟩;have h1:=qfc (YU text);have h2:=qdY text;unfold qas;split
 ·exact⟨Jt _,fun c hc=>by cases hc⟩
 ·simp only
  split
  ·exact⟨Jt _,fun c hc=>by cases hc⟩
  ·split
   ·exact⟨Jt _,fun c hc=>by cases hc⟩
   ·exact⟨by have:=h.many;simp only;omega,fun c hc=>by have:=h.small c hc;omega⟩
theorem qnA(text:Str)(dbg:Bool):(qfW text dbg).1.length<=65536/\∀t∈(qfW text dbg).1,t.text.length<=83886162:=by
 obtain⟨z1,z2⟩:=qhA text dbg;unfold qfW;split
 ·exact⟨Jt _,fun t ht=>by cases ht⟩
 ·refine⟨qji _ _ (Jt _),qky _ _ (fun c hc j l hv hj h32 he=>?_) _ (fun t ht=>by cases ht)⟩
  have:=(z2 c hc).1;have:=quu c.text j l hj;show(Ug c.text j l).text.length<=_
  omega
theorem qyJ(wz:World)(hm:MaxL wz)(h:AHeap)(text:Str)(dbg:Bool)(hl:text.length<=9223372036854775807):ACall Tryz.prog wz 42 [.str text, .bool dbg] h (qAZ h (qfW text dbg)):=by
 obtain⟨z1,z2⟩:=qhA text dbg;refine qU (n:=22) (rs:=[.tmp 4, .cell 5 35]) Tryz.func42 rfl rfl rfl rfl (VN rfl) ?_;simp only[Qg];refine awp_rseq [0,1,5] (by rfl) fun K hK=>?_;simp+decide only[ev,qH,qG,putD,VO,if_false,Kb,↓qd,qb,Js];refine Qi qaE (cs:=[.int .i64 0, .int .i64 0, .int .i64 0]) (by rfl) fun k0q1 hk0q1=>?_;try have hf_0q1:h k0q1=none:=by first|assumption|(simp only[V9]at hk0q1;simp only[hk0q1])
 simp+decide only[qa,putD,VO,VP,Ka];apply hK;clear hK K;refine awp_rseq [5,6,7] (by rfl) fun K hK=>?_;simp+decide only[ev,putD,VO,VQ,Ka,Kb,↓qg,qc];refine QU (by rfl) (by rfl) (qBO wz hm _ text dbg hl) fun x1q2 h1q2 hx1q2=>?_;obtain⟨cv,rfl,hc,hs1⟩:=hx1q2;have hlv:=hc.liveT;obtain⟨cs,hcs⟩:∃cs,cs=(qas text dbg).1:=⟨_,rfl⟩
 obtain⟨f,hf⟩:∃f,f=(qas text dbg).2:=⟨_,rfl⟩
 have hso:qfW text dbg=if f≠okF then([],f)else qfg cs:=by rw[hf,hcs];rfl
 rw[<-hcs]at hc z1 z2;rw[<-hf];have hs_h1q2:Sub h h1q2:=BL zqC hs1;have hr_h1q2:=hs_h1q2;have eb_0q1:=hs1 k0q1 _ zqA;simp+decide only[ev,putD,VO,VQ,Ka,Kb,↓qg,qc,↓QY,QL,QV,KY,J9,VZ,Kn,VZ,Kn,Js,Nat.reduceAdd,QC];refine Qi qaE (cs:=[.int .i64 0, .int .i64 0, .int .i64 0]) (by rfl) fun k1q6 hk1q6=>?_;have hn_1q6:h1q2 k1q6=none:=by first|assumption|(simp only[V9]at hk1q6;simp only[hk1q6])
 have hf_1q6:h k1q6=none:=Bi hs_h1q2 hn_1q6;have ne_1q6_0q1:k1q6≠k0q1:=Bj hn_1q6 eb_0q1;simp+decide only[ev,putD,VO,VQ,Ka,Kb,↓qd,qb];refine qp (by rfl) (by rfl) zqA QN (by rfl) (by rfl) zqD (Jt _) (by rfl) ?_;simp only[Vi,VX];simp+decide only[qa,ev,putD,VQ,VP,Ka,setAt,VY,Kj,Js,Nat.reduceAdd];apply hK;clear hK K;refine qJ ?_;refine awp_rseq [5,6,7,16] (by rfl) fun K hK=>?_;simp+decide only[qa,ev,qH,qG,putD,VO,VQ,VP,Ka,Kb,↓qF,qY,qh Xw QN,↓Qu,↓Qa,Yn,evP,Vk,↓qw,qm,qR,cond_false,YO,qpr,QT,qf,VZ,Kn,Js,Nat.reduceAdd,qi,allLive,JU,UG];apply hK;clear hK K;refine qI (b:=_) rfl (fun hb1=>?_) (fun hb1=>?_)
 ·try simp only[decide_eq_false_iff_not,Jj]at hb1
  rw[if_pos hb1]at hso;refine Zk 2 [4,5] mixed (by kernel_rfl) (by rfl) (by rfl) fun K hK=>?_;simp+decide only[ev,qH,qG,putD,VO,VQ,Ka,Kb,↓qF,qY,qh Xw QN,↓qd,qb,QT,qf,VZ,Kn,Js,Nat.reduceAdd,qi,allLive,JU];refine qp (by rfl) (by rfl) zqA QN (by rfl) (by rfl) zqD (Jt _) (by rfl) ?_;simp only[VX];simp+decide only[qa,ev,putD,VQ,VP,Ka,setAt,VY,Kj,Js,Nat.reduceAdd];apply hK;clear hK K;refine qL ?_;try simp only[Qe]
  refine Qb h zqB (?_) ?_
  ·simp+decide only[QG,qy,qj,VQ,Ka,and_true,qy,qj,qh Xw QN,qZ,qf,VZ,Kn,Js,Nat.reduceAdd,qi,allLive,JU,qf,VZ,Kn,Js,Nat.reduceAdd,qi,allLive,JU]
  simp+decide only[VQ,Ka,XA,qy,qj,qh Xw QN,qZ,qf,VZ,Kn,Js,Nat.reduceAdd,qi,allLive,JU,qf,VZ,Kn,Js,Nat.reduceAdd,qi,allLive,JU];exact⟨none,by rw[hso];rfl,trivial,by rw[hso];rfl,rfl⟩
 ·try simp only[decide_eq_true_eq,VU]at hb1
  rw[if_neg (by simpa using hb1)]at hso;refine qP ?_;change Awp _ _ _ _ _ _ _;refine awp_rseq [4,5] (by rfl) fun K hK=>?_;simp+decide only[ev,putD,VO,VQ,Ka,Kb,↓qg,qc];refine QU (by rfl) (by rfl) (qBM wz _ cv cs (hc.mono zqB) (by omega) (fun c hcm=>by have:=z2 c hcm;omega)) fun x4q1 h4q1 hx4q1=>?_;obtain⟨tb,rfl,o1,o2,rfl⟩:=hx4q1;have hat:=(zqA:(h1q2.set k1q6 ⟨[.int .i64 f.e, .int .i64 f.line, .int .i64 f.col],0⟩) k0q1=some ⟨[.int .i64 0, .int .i64 0, .int .i64 0],0⟩)
  have hlb:=QP 5 tb;simp+decide only[ev,putD,VO,VQ,Ka,Kb,↓QY,QL,QV,KY,J9,VZ,Kn,↓qd,qb,VZ,Kn,Js,Nat.reduceAdd,QC];refine qp (v:=QC (qfg cs).2) (by rfl) (by rfl) (ZY o1 hat) QN (by rfl) (by rfl) (by simp[]) (Jt _) (by rfl) ?_;simp only[setAt,VX,QC,VY,Kj,Js,Nat.reduceAdd];rw[Wv o1 hat];have r0:=fun o=>QB wz (ZY (Yk o1 hat ⟨[.int .i64 (qfg cs).2.e, .int .i64 (qfg cs).2.line, .int .i64 (qfg cs).2.col],0⟩) (Ve _ _ _)) o;simp+decide only[qa,putD,VP,Ka];apply hK;clear hK K;refine qL ?_;refine QD (?_) ?_
  ·simp+decide only[QG,qy,qj,VQ,Ka,and_true,qy,qj,qh Xw QN,qf,VZ,Kn,Js,Nat.reduceAdd,qi,allLive,JU,qf,VZ,Kn,Js,Nat.reduceAdd,qi,allLive,JU,r0]
  simp+decide only[VQ,Ka,XA,qy,qj,qh Xw QN,qf,VZ,Kn,Js,Nat.reduceAdd,qi,allLive,JU,qf,VZ,Kn,Js,Nat.reduceAdd,qi,allLive,JU,r0];refine⟨Ql h tb,?_,tb,by rw[hso];rfl,o1.sub zqB,by rw[hso];exact o2,rfl⟩;exact Sub.bufBoth zqB
theorem YP{wz:World}{h:AHeap}{lc:AM.Loc}{o:Nat}{c:Cap}{l:List TokC}(ht:IsL wz h 5 (.slice lc o l.length c) (l.map QI)){i:Nat}(hi:i<l.length):
 rd wz h lc (o+i*5)= .int .u8 (l.getD i Zi).kind.toNat/\rd wz h lc (o+i*5+1)= .str (l.getD i Zi).text/\rd wz h lc (o+i*5+2)= .int .i64 (l.getD i Zi).line/\rd wz h lc (o+i*5+3)= .int .i64 (l.getD i Zi).col/\rd wz h lc (o+i*5+4)= .bool (l.getD i Zi).left:=by
 have he:=ht.elem (i:=i) (by rw[Jp];exact hi);rw[getD_map Zi hi]at he;simp only[qf,QI,List.cons.injEq,and_true]at he;exact he
theorem YD{wz:World}{h:AHeap}{v:AVal}{l:List TokC}(ht:IsL wz h 5 v (l.map QI))(hn:0<l.length):∃lc o c,v= .slice lc o l.length c:=by
 obtain⟨lc,o,c,e⟩:=ht.open (fun e=>by rw[VW]at e;subst e;simp at hn);rw[Jp]at e;exact⟨lc,o,c,e⟩
theorem Zc{wz:World}{h:AHeap}{v:AVal}{l:List TokC}(ht:IsL wz h 5 v (l.map QI)):∀H:AHeap,YN Tryz.prog H 26 v=⟨True, .int .i64 l.length⟩:=by
 intro H;have:=ht.len Tryz.underlying26 H
 rwa [Jp]at this
def qdt(a b:TokC):Bool:=decide (a.kind=b.kind) && decide (a.text=b.text)
def qcw:List TokC->List TokC->Bool
 |[],[]=>true
 |a::l,b::m=>qdt a b && qcw l m
 |_,_=>false
theorem qms:∀{l m:List TokC},l.length≠m.length->qcw l m=false
 |[],[],h=>absurd rfl h
 |[],_::_,_=>rfl
 |_::_,[],_=>rfl
 |a::l,b::m,h=>by
  rw[qcw,qms (l:=l) (m:=m) (fun e=>h (by simp[e])),BM]
theorem qrA{l m:List TokC}{i:Nat}(h1:i<l.length)(h2:i<m.length):qcw (l.drop i) (m.drop i)=(qdt (l.getD i Zi) (m.getD i Zi) && qcw (l.drop (i+1)) (m.drop (i+1))):=by
 rw[J5 h1,J5 h2,qcw];simp[Ko,h1,h2]
theorem qzY(wz:World)(h:AHeap)(a b:TokC):ACall Tryz.prog wz 41 [.agg (QI a), .agg (QI b)] h (fun v h'=>v= .bool (qdt a b)/\h'=h):=by
 unfold QI;have ek:decide ((a.kind.toNat:Int)=b.kind.toNat)=decide (a.kind=b.kind):=decide_eq_decide.2 ⟨fun q=>BN.1 (by omega),fun q=>by rw[q]⟩;refine qU (n:=17) (rs:=[.tmp 4]) Tryz.func41 rfl rfl rfl rfl (VN rfl) ?_;simp only[Qg];refine awp_rseq [2,3] (by rfl) fun K hK=>?_;refine Wt (by rfl) (by rfl) (by rfl) fun k0q0 hk0q0=>?_;try have hf_0q0:h k0q0=none:=by first|assumption|(simp only[V9]at hk0q0;simp only[hk0q0])
 skip;refine Wt (by rfl) (by rfl) (by rfl) fun k0q1 hk0q1=>?_;have ne_0q1_0q0:k0q1≠k0q0:=by simp only[V9]at hk0q1;simp only[hk0q1,ne_eq,not_false_eq_true]
 try have hf_0q1:h k0q1=none:=by first|assumption|(simp only[V9]at hk0q1;simp only[hk0q1])
 skip;simp+decide only[qa,ev,qH,qG,putD,VO,VQ,VP,Ka,Kb,↓qd,qb,VX,Js];apply hK;clear hK K;refine awp_rseq [4] (by rfl) fun K hK=>?_;simp+decide only[qa,ev,qH,qG,putD,VO,VQ,VP,Ka,Kb,↓qB,ql,qbW,↓qF,qY,qz qjd,↓qw,qm,qR,cond_false,qo,Za,↓qg,qc,↓Xj,agP,Qv,qM,qK,qC,implies_true,Uu,↓Zn,XT,YY,qeE,qz ag9,↓Xd,Zv,qbB,Zw,qbC,Zj,qep,↓QW,Qz,Qk,Xp,Xy,↓qd,qb,QZ,ne_eq,not_false_eq_true,ne_0q1_0q0.symm,QT,VZ,Kn,Js,qi,qE,ek];apply hK;clear hK K;refine qL ?_;refine Qb h zqC (qN (Qc)) ?_;simp+decide only[VQ,if_true,and_true,Qs];rfl
theorem qpY(wz:World)(h:AHeap)(v w:AVal)(l m:List TokC)(hv:IsL wz h 5 v (l.map QI))(hw:IsL wz h 5 w (m.map QI))(hl:l.length<=1099511627776):
 ACall Tryz.prog wz 40 [v,w, .func 41 []] h (fun r h'=>r= .bool (qcw l m)/\h'=h):=by
 have hlv:=hv.live;have hlw:=hw.live;have nv:=Zc hv;have nw:=Zc hw;refine qU (n:=32) (rs:=[.tmp 6]) Tryz.func40 rfl rfl rfl rfl (VN rfl) ?_;simp only[Qg];refine awp_rseq [0,1,2] (by rfl) fun K hK=>?_;simp+decide only[qa,ev,qH,qG,putD,VO,VP,Ka,Kb,↓qd,qb,Js,Nat.reduceAdd];apply hK;clear hK K;refine qJ ?_;refine awp_rseq [0,1,2,14] (by rfl) fun K hK=>?_;simp+decide only[qa,ev,putD,VO,VQ,VP,Ka,Kb,↓qg,qc,↓Xe,Qw,↓qw,qm,qR,cond_false,qo,Un,nv,nw];apply hK;clear hK K;refine qI (b:=_) rfl (fun hb1=>?_) (fun hb1=>?_)
 ·try simp only[decide_eq_false_iff_not,Jj]at hb1
  refine awp_rseq [6] (by rfl) fun K hK=>?_;simp+decide only[qa,ev,qH,qG,putD,VO,VP,Ka,Kb,↓qd,qb];apply hK;clear hK K;refine qL ?_;try simp only[Qe]
  refine Qb h zqC (qN (Qc)) ?_;simp+decide only[VQ,if_true,and_true,Qs];rw[qms (by omega)]
 ·try simp only[decide_eq_true_eq,VU]at hb1
  have hlen:l.length=m.length:=by omega
  refine qP ?_;change Awp _ _ _ _ _ _ _;refine qJ ?_;refine awp_rseq [1,2,15,16,17] (by rfl) fun K hK=>?_;simp+decide only[qa,ev,qH,qG,putD,VO,VQ,VP,Ka,Kb,↓qg,qc,↓Xe,Qw,nv];apply hK;clear hK K;refine Qm ?_;refine XC [1,2,15,16,17] (fun i:Nat=>[(1,w),(2, .func 41 []),(15,v),(16, .int .i64 l.length),(17, .int .i64 i)]) (fun i:Nat=>h) (fun i:Nat=>i<=l.length/\qcw (l.drop i) (m.drop i)=qcw l m) (fun i:Nat=>l.length-i) 0 (by rfl) (Vm _) ⟨Jt _,rfl⟩ ?_;rintro i ⟨hi,hq⟩;refine awp_rseq [1,2,15,16,17,18] (by rfl) fun K hK=>?_;simp+decide only[qa,ev,putD,VO,VQ,VP,Ka,Kb,↓qw,qm,qR,cond_false,qo,XZ];apply hK;clear hK K;refine qJ (qI (b:=_) rfl (fun hb2=>?_) (fun hb2=>?_))
  ·try simp only[decide_eq_true_eq]at hb2
   have hi':i<l.length:=by omega
   obtain⟨lc,o,c,rfl⟩:=YD hv (by omega);obtain⟨lc',o',c',rfl⟩:=YD hw (by omega);obtain⟨e0,e1,e2,e3,e4⟩:=YP hv hi';obtain⟨a,ha⟩:∃a,a=l.getD i Zi:=⟨_,rfl⟩
   obtain⟨b,hb⟩:∃b,b=m.getD i Zi:=⟨_,rfl⟩
   have hst:=qrA (l:=l) (m:=m) hi' (by omega);rw[hq]at hst;rw[<-ha]at e0 e1 e2 e3 e4 hst;rw[<-hb]at hst;have e2':rd wz h lc (o+i*5+1+1)= .int .i64 a.line:=e2;have e3':rd wz h lc (o+i*5+1+1+1)= .int .i64 a.col:=e3;have e4':rd wz h lc (o+i*5+1+1+1+1)= .bool a.left:=e4;refine qP ?_;change Awp _ _ _ _ _ _ _;refine qJ ?_;refine Qm ?_;refine awp_rseq [1,2,7,8,15,16,17] (by rfl) fun K hK=>?_;simp+decide only[ev,putD,VO,VQ,Ka,Kb,↓qg,qc,↓QE,qY,qW Tryz.underlying26 Xb,↓qF,qh ZB Xb,qf,qD,qi,qE,allLive,JU,e0,e1,e2',e3',e4',Vr];repeat (with_reducible refine And.intro ?_ ?_;· first|trivial|omega|(intro hg;simp only[Ky,JW,Jj,VS,VT,VU,decide_eq_true_eq,decide_eq_false_iff_not,XY]at hg;omega))
   refine Qi qat (cs:=[.int .u8 0, .str [], .int .i64 0, .int .i64 0, .bool false]) (by rfl) fun k5q3 hk5q3=>?_;try have hf_5q3:h k5q3=none:=by first|assumption|(simp only[V9]at hk5q3;simp only[hk5q3])
   simp+decide only[ev,putD,VO,VQ,Ka,Kb,↓qd,qb];refine qp (by rfl) (by rfl) zqA Xb (by rfl) (by rfl) zqD (Jt _) (by rfl) ?_;simp only[Vi,VX];simp+decide only[qa,ev,putD,VQ,VP,Ka,setAt,VY,Kj,Js,Nat.reduceAdd];apply hK;clear hK K;obtain⟨H,hH⟩:∃H,H=h.set k5q3 ⟨[.int .u8 a.kind.toNat, .str a.text, .int .i64 a.line, .int .i64 a.col, .bool a.left],0⟩:=⟨_,rfl⟩
   have hsH:Sub h H:=by rw[hH];exact Vh hk5q3
   obtain⟨d0,d1,d2,d3,d4⟩:=YP (hw.mono hsH) (i:=i) (by omega);rw[<-hb]at d0 d1 d2 d3 d4;have d2':rd wz H lc' (o'+i*5+1+1)= .int .i64 b.line:=d2;have d3':rd wz H lc' (o'+i*5+1+1+1)= .int .i64 b.col:=d3;have d4':rd wz H lc' (o'+i*5+1+1+1+1)= .bool b.left:=d4;rw[hH]at d0 d1 d2' d3' d4';refine awp_rseq [1,2,8,9,15,16,17] (by rfl) fun K hK=>?_;simp+decide only[ev,putD,VO,VQ,Ka,Kb,↓qg,qc,↓QE,qY,qW Tryz.underlying26 Xb,↓qF,qh ZB Xb,qf,qD,qi,qE,allLive,JU,d0,d1,d2',d3',d4',Vr];repeat (with_reducible refine And.intro ?_ ?_;· first|trivial|omega|(intro hg;simp only[Ky,JW,Jj,VS,VT,VU,decide_eq_true_eq,decide_eq_false_iff_not,XY]at hg;omega))
   refine Qi qat (cs:=[.int .u8 0, .str [], .int .i64 0, .int .i64 0, .bool false]) (by rfl) fun k6q4 hk6q4=>?_;have ne_6q4_5q3:k6q4≠k5q3:=by simp only[V9]at hk6q4;simp only[hk6q4,ne_eq,not_false_eq_true]
   try have hf_6q4:h k6q4=none:=by first|assumption|(simp only[V9]at hk6q4;simp only[hk6q4])
   refine qp (by rfl) (by rfl) zqA Xb (by rfl) (by rfl) zqD (Jt _) (by rfl) ?_;simp only[Vi,VX];simp+decide only[qa,ev,putD,VO,VQ,VP,Ka,setAt,VY,Kj,Js,Nat.reduceAdd];apply hK;clear hK K;refine awp_rseq [1,2,15,16,17,30] (by rfl) fun K hK=>?_;simp+decide only[ev,putD,VO,VQ,Ka,Kb,↓qg,qc,↓qF,qY,qh ZB Xb,QZ,ne_eq,not_false_eq_true,ne_6q4_5q3.symm,QT,qf,VZ,Kn,Js,Nat.reduceAdd,qD,qi,qE,allLive,JU];refine qO (V:= .bool (qdt a b)) (by rfl) (by rfl) (qzY wz _ a b) ?_;simp+decide only[qa,ev,putD,VO,VQ,VP,Ka,Kb,↓YI,Zl,YC];apply hK;clear hK K;refine qI (b:=_) rfl (fun hb3=>?_) (fun hb3=>?_)
   ·try simp only[Jj]at hb3
    refine awp_rseq [6] (by rfl) fun K hK=>?_;simp+decide only[qa,ev,qH,qG,putD,VO,VP,Ka,Kb,↓qd,qb];apply hK;clear hK K;refine qL ?_;try simp only[Qe,Qp]
    refine Qb h zqC (qN (Qc)) ?_;simp+decide only[VQ,if_true,and_true,Qs];rw[hst,hb3,V4]
   ·try simp only[VU]at hb3
    refine qP ?_;change Awp _ _ _ _ _ _ _;refine XW [1,2,15,16,17] (by rfl) ?_;simp+decide only[qa,ev,qH,qG,putD,VO,VQ,VP,Ka,Kb,↓qw,qm,qA,cond_false,qo,Xa,↓qg,qc];try simp(disch:=omega)only[wrap_i64]
    try simp only[Qj]
    exact⟨i+1,rfl,zqB,⟨hi',by rw[hst,hb3,Vg]⟩,by omega⟩
  ·try simp only[decide_eq_false_iff_not]at hb2
   refine XE ?_;change Awp _ _ _ _ _ _ _;refine awp_rseq [6] (by rfl) fun K hK=>?_;simp+decide only[qa,ev,qH,qG,putD,VO,VP,Ka,Kb,↓qd,qb];apply hK;clear hK K;refine qL ?_;refine Qb h zqC (qN (Qc)) ?_;simp+decide only[VQ,if_true,and_true,Qs];rw[<-hq,Vu (by omega),Vu (by omega)];rfl
theorem qBN(wz:World)(h:AHeap)(v w:AVal)(l m:List TokC)(hv:IsL wz h 5 v (l.map QI))(hw:IsL wz h 5 w (m.map QI))(hl:l.length<=1099511627776):
 ACall Tryz.prog wz 18 [v,w] h (fun r h'=>r= .bool (qcw l m)/\h'=h):=by
 have hlv:=hv.live;have hlw:=hw.live;refine qU (n:=8) (rs:=[.tmp 4]) Tryz.func18 rfl rfl rfl rfl (VN rfl) ?_;simp only[Qg];refine awp_rseq [0,1] (by rfl) fun K hK=>?_;simp+decide only[qa,ev,qH,qG,putD,VO,VP,Ka,Kb,↓qd,qb];apply hK;clear hK K;refine awp_rseq [4] (by rfl) fun K hK=>?_;simp+decide only[ev,putD,VO,VQ,Ka,Kb,↓qg,qc];refine qO (V:= .bool (qcw l m)) (by rfl) (by rfl) (qpY wz _ v w l m hv hw hl) ?_;simp+decide only[qa,ev,putD,VO,VQ,VP,Ka,Kb,↓qd,qb];apply hK;clear hK K;refine qL ?_;refine Qb _ (Vm _) (qN (Qc)) ?_;simp+decide only[VQ,if_true,and_true,Qs];all_goals first|rfl|exact⟨rfl,rfl⟩|(simp+decide only[Ka, *];done)|(trace_state;fail)
end Go.Proofs.YtlhhaagmakhilaaGreatDoor
namespace Go.AM
open Go.RowKit (Below)
theorem Xi(b:Bool):(AVal.bool b).scal=true:=rfl
theorem XJ(k:IntKind)(n:Int):(AVal.int k n).scal=true:=rfl
theorem XM(s:List UInt8):(AVal.str s).scal=true:=rfl
theorem qnC(k:Nat):(AVal.map k).scal=true:=rfl
section
variable {P:Program}
theorem qua(t:TypeId)(x i:Operand)(ok:Bool):ZE P (.lookup t x i ok)=true:=rfl
end
section
variable {P:Program} {wz:World} {ops rest:List Oper} {s:Slots} {h:AHeap} {K:Slots->AHeap->Prop} {dst:Option Tmp} {ty:TypeId} {pos:String} {af:Array Edge}
theorem qvn(t:TypeId)(x i:Operand)(ok:Bool):
 QO P wz ops (⟨dst, .lookup t x i ok,ty,pos,af,none⟩::rest) s h K=((pop P wz h s (.lookup t x i ok)).pre/\QO P wz ops rest (putD s dst (pop P wz h s (.lookup t x i ok)).val) h K):=Uy (qua t x i ok)
theorem qoF{t:TypeId}(hk:∀k,h k=none->QO P wz ops rest (putD s dst (.map k)) (h.set k (Zb 0 [])) K):QO P wz ops (⟨dst, .makeMap t none,ty,pos,af,none⟩::rest) s h K:=by
 rw[qbZ];exact hk
theorem qrm{t kt et:TypeId}{m i v:Operand}{k c:Nat}{es:List AVal}(ht:P.underlying t=some (.map kt et))(hm:ev s m= .map k)(hb:h k=some (Zb c es))(hok:qbh P kt (ev s i)=true)(hf:qbg (ev s i) es 0=some none)
 (hk:QO P wz ops rest (putD s dst (.tuple [])) (h.set k (Zb (c+1) (es++[.mapE c (ev s i) (ev s v)]))) K):QO P wz ops (⟨dst, .mapUpdate t m i v,ty,pos,af,none⟩::rest) s h K:=by
 rw[qbZ];simp only[eop,qcZ,ht,hm,UZ hb,hf];exact⟨hok,hk⟩
end
section
variable {P:Program} {h:AHeap}
theorem qrK{t kt et:TypeId}{z:Value}{k c j:Nat}{es:List AVal}{i v:AVal}{ok:Bool}(ht:P.underlying t=some (.map kt et))(hz:Uk P et=some z)(hb:h k=some (Zb c es))(hok:qbh P kt i=true)(hf:qbg i es 0=some (some (j,v))):
 qaV P h t (.map k) i ok=⟨True,qjr ok v true⟩:=by
 simp only[qaV,ht,hz,UZ hb,hf,hok]
theorem qpl{t kt et:TypeId}{z:Value}{k c:Nat}{es:List AVal}{i:AVal}{ok:Bool}(ht:P.underlying t=some (.map kt et))(hz:Uk P et=some z)(hb:h k=some (Zb c es))(hok:qbh P kt i=true)(hf:qbg i es 0=some none):
 qaV P h t (.map k) i ok=⟨True,qjr ok (qH z) false⟩:=by
 simp only[qaV,ht,hz,UZ hb,hf,hok]
theorem qjp(v:AVal)(b:Bool):qjr false v b=v:=rfl
end
theorem qvI{P:Program}{fr:Frame}{cs:List Frame}{w w':World}{d:Deferred}{ds:List Deferred}{b:Builtin}{ts:Array TypeId}{t:TypeId}{ks:Array Bool}{v:Value}(hm:fr.mode≠ .run)(hd:fr.defers=d::ds)(ht:d.target= .builtin b ts t ks)
 (hi:(invoke d.target d.args).run P w= .ok (.value v) w'):step P (lone fr cs w)= .next (lone {fr with defers:=ds} cs w'):=by
 obtain⟨tg,a⟩:=d;simp only at ht hi;subst ht;refine step_lone_go ?_;cases hmode:fr.mode with
 |run=>exact absurd hmode hm
 |returning=>simp[stepG,unwind,callDeferred,hmode,hd,hi]
 |panicking chain=>simp[stepG,unwind,callDeferred,hmode,hd,hi]
def qro(P:Program):List Deferred->World->World->Prop
 |[],w,w'=>w'=w
 |d::ds,w,w'=>∃b ts t ks v w1,d.target= .builtin b ts t ks/\(invoke d.target d.args).run P w= .ok (.value v) w1/\qro P ds w1 w'
theorem qfh{P:Program}:∀(ds:List Deferred) (w w':World) (fr:Frame) (cs:List Frame),fr.mode≠ .run->fr.defers=ds->qro P ds w w'->Steps P (lone fr cs w) (lone {fr with defers:=[]} cs w')
 |[],w,w',fr,cs,_,hd,h=>by
  simp only[qro]at h;subst h;have e:({fr with defers:=[]}:Frame)=fr:=by cases fr;simp_all
  rw[e];exact Steps.refl P _
 |d::ds,w,w',fr,cs,hm,hd,h=>by
  obtain⟨b,ts,t,ks,v,w1,ht,hi,hr⟩:=h;exact .head (qvI (cs:=cs) hm hd ht hi) (qfh ds w1 w' {fr with defers:=ds} cs hm rfl hr)
def qvj(P:Program)(fn:Func)(R:Ending->World->Prop):Exit->Act->World->Prop
 | .normal,a,w| .ret,a,w=>∃w',qro P a.defers w w'/\∃v,(results fn a.tmps).run P w'= .ok v w'/\R (.returned v) w'
 | .outgrown,_,w=>R .outgrown w
 |_,_,_=>False
theorem qjS{P:Program}{f:FuncId}{fn:Func}{c:Code}{args:Array Value}{w:World}{R:Ending->World->Prop}
 (hf:P.funcs[f]?=some fn) (hb:fn.body=some c)
 (h:c.wp P (qvj P fn R) {tmps:=args++Jy (fn.ntmps-args.size) undef,defers:=[]} w):Calls P f args w R:=by
 intro cs;let b:Frame:={(default:Frame)with fn:=f,kind:= .normal}
 have henter:Frame.enter P f args .normal=
  b.at {tmps:=args++Jy (fn.ntmps-args.size) undef,defers:=[]} [.code c]:=by
  simp[Frame.enter,Frame.at,hf,hb,b]
 obtain⟨e,a',w',hq,harr⟩:=h b [] cs;rw[<-henter]at harr;cases e with
 |normal=>
  obtain⟨w'',hr,v,h1,h2⟩:=hq;have hs:=qfh a'.defers w' w'' {b.at a' []with mode:= .returning} cs (by simp) rfl hr;exact⟨.returned v,w'',_,h2,Comes.of_steps (Steps.trans harr (.one step_end)) hs,rfl,rfl,rfl,rfl,fn,hf,h1⟩
 |ret=>
  obtain⟨w'',hr,v,h1,h2⟩:=hq;obtain⟨todo,hs₀⟩:=harr;have hs:=qfh a'.defers w' w'' {b.at a' todo with mode:= .returning} cs (by simp) rfl hr;exact⟨.returned v,w'',_,h2,Comes.of_steps hs₀ hs,rfl,rfl,rfl,rfl,fn,hf,h1⟩
 |panic chain=>exact hq.elim
 |exit id=>exact hq.elim
 |goto l=>exact hq.elim
 |outgrown=>exact⟨.outgrown,w',b,hq,harr.resolve_left (by simp[b]),rfl,trivial⟩
def GD(P:Program)(wz:World)(fn:Func)(R:AVal->AHeap->Prop):Exit->PMap->Act->World->Prop:=fun e Ps a w=>
 e= .ret/\∃w',qro P a.defers w w'/\∃v,(results fn a.tmps).run P w'= .ok v w'/\∃χ x h',Ps.le χ/\HRel wz χ h' w'/\VR χ x v/\R x h'
def qtT(P:Program)(wz:World)(rs:List ResultVar)(R:AVal->AHeap->Prop)(ts:Array TypeId)(m i:AVal):Exit->Slots->AHeap->Prop
 | .ret,s,h=>qda P h ts m i (fun _ h'=>qeg P wz rs R .ret s h')
 |_,_,_=>False
theorem qvo{P:Program}{wz:World}{f:FuncId}{args:List AVal}{h:AHeap}{R:AVal->AHeap->Prop}{fn:Func}{c:Code}{rs:List ResultVar}{k:Nat}(hf:P.funcs[f]?=some fn)
 (hname:(fn.name== "runtime.NumGoroutine")=false) (hb:fn.body=some c) (hn:fn.ntmps=k) (hrs:fn.results=rs.toArray) (hargs:args.length<=k)
 (hc:Awp P wz ⟨k,[],GD P wz fn R⟩ c (qeg P wz rs R) (Qg 0 args) h):ACall P wz f args h R:=by
 intro fi vals w hr hv;refine .inl ⟨fn,hf,hname,by rw[hb];rfl,?_⟩;have hl:=Zp hv;refine qjS hf hb (wp_mono (hc fi _ w hr ⟨?_,rfl,fun i=>?_⟩) fun e a' w' q=>?_)
 ·simp[hn]
  omega
 ·have:=(qdl fi args vals 0 i hv).2 undef (Jt i)
  by_cases hi:i<vals.length
  ·have e:(vals.toArray++Jy (fn.ntmps-vals.toArray.size) undef).getD i undef=vals.getD i undef:=by
    simp[Ku,Jz,hi,Ko]
   rw[e];simpa using this
  ·have e:(vals.toArray++Jy (fn.ntmps-vals.toArray.size) undef).getD i undef=undef:=by
    simp[Ku,Jz,hi,Array.getElem?_replicate];split<;>simp
   rw[e];have e2:vals.getD (i-0) undef=undef:=by simp[Ko,List.getElem?_eq_none (Kt hi)]
   rw[e2]at this;exact this
 ·rcases q with q|⟨_,Ps,hl1,q⟩
  ·obtain⟨Ps,s',h',e1,e2,e3,e4⟩:=q
   cases e<;>simp only[qeg]at e4<;>first
    |exact e4.elim
    |skip
   all_goals
    obtain⟨hp,h'',hsub,hR⟩:=e4;have hrs':rs=fn.results.toList:=by rw[hrs]
    rw[hrs']at hp hR;obtain⟨v,f1,f2⟩:=qgJ e2 e3 fn hp;exact⟨w',by rw[e3.defers];rfl,v,f1,v,rfl,Ps,_,h'',e1,e2.forget hsub,f2,hR⟩
  ·obtain⟨rfl,w1,g1,v,g2,χ,x,h',g3,g4,g5,g6⟩:=q
   exact⟨w1,g1,v,g2,v,rfl,χ,x,h',J7 hl1 g3,g4,g5,g6⟩
theorem qhz{P:Program}{wz:World}{rs:List ResultVar}{R:AVal->AHeap->Prop}{ts:Array TypeId}{t kt et:TypeId}{k c j:Nat}{vi x:AVal}{es:List AVal}{s:Slots}{h:AHeap}(h0:ts[0]?=some t)(ht:P.underlying t=some (.map kt et))(hb:h k=some (Zb c es))(hok:qbh P kt vi=true)
 (hf:qbg vi es 0=some (some (j,x))) (hk:qeg P wz rs R .ret s (h.set k (Zb c (es.eraseIdx j)))):qtT P wz rs R ts (.map k) vi .ret s h:=by
 simp only[qtT,qda,h0,ht,UZ hb,hf];exact⟨hok,hk⟩
section
variable {P:Program} {wz:World} {n:FrameK}
def qdG(P:Program)(wz:World)(l:List Oper):List Oper->Nat->List Bool->Slots->AHeap->(Slots->AHeap->Prop)->Prop
 |[],_,_,s,h,K=>K s h
 |o::r,0,_,s,h,K=>QO P wz l (o::r) s h K
 |o::r,m+1,true::bs,s,h,K=>∃V,(∀g,Sub h g->QO P wz l [o] s g fun s' h'=>s'=putD s o.dst V/\h'=g)/\qdG P wz l r m bs (putD s o.dst V) h K
 |o::r,m+1,false::bs,s,h,K=>QO P wz l [o] s h fun s' h'=>Sub h h'/\qdG P wz l r m bs s' h' K
 |o::r,m+1,[],s,h,K=>QO P wz l [o] s h fun s' h'=>Sub h h'/\qdG P wz l r m [] s' h' K
theorem qpy{l:List Oper}{m:Nat}{bs:List Bool}{s:Slots}{h:AHeap}{K:Slots->AHeap->Prop}:qdG P wz l [] m bs s h K=K s h:=rfl
theorem qmR{l:List Oper}{m:Nat}{bs:List Bool}{o:Oper}{r:List Oper}{s:Slots}{h:AHeap}{K:Slots->AHeap->Prop}:qdG P wz l (o::r) (m+1) (false::bs) s h K=QO P wz l [o] s h fun s' h'=>Sub h h'/\qdG P wz l r m bs s' h' K:=rfl
theorem qiH{l:List Oper}{o:Oper}{bs:List Bool}{r:List Oper}{s:Slots}{h:AHeap}{K:Slots->AHeap->Prop}:qdG P wz l (o::r) 0 bs s h K=QO P wz l (o::r) s h K:=rfl
theorem qmP{l:List Oper}{m:Nat}{bs:List Bool}(hb:bs.getD 0 false=false){o:Oper}{r:List Oper}{s:Slots}{h:AHeap}{K:Slots->AHeap->Prop}(hj:qdG P wz l (o::r) (m+1) bs s h K):QO P wz l [o] s h fun s' h'=>Sub h h'/\qdG P wz l r m (bs.drop 1) s' h' K:=by
 cases bs with
 |nil=>exact hj
 |cons b bs=>
  simp only[VZ]at hb;subst hb;exact hj
theorem quB{l:List Oper}{m:Nat}{bs:List Bool}(hb:bs.getD 0 false=true){o:Oper}{r:List Oper}{s:Slots}{h:AHeap}{K:Slots->AHeap->Prop}(hj:qdG P wz l (o::r) (m+1) bs s h K):∃V,(∀g,Sub h g->QO P wz l [o] s g fun s' h'=>s'=putD s o.dst V/\h'=g)/\qdG P wz l r m (bs.drop 1) (putD s o.dst V) h K:=by
 cases bs with
 |nil=>simp at hb
 |cons b bs=>
  simp only[VZ]at hb;subst hb;exact hj
theorem qgh{l:List Oper}{K K':Slots->AHeap->Prop}(hk:∀s h,K s h->K' s h):∀{r:List Oper} {m:Nat} {bs:List Bool} {s:Slots} {h:AHeap},qdG P wz l r m bs s h K->qdG P wz l r m bs s h K'
 |[],m,bs,s,h,ha=>hk _ _ ha
 |o::r,0,bs,s,h,ha=>awp_rseq.aOps_mono hk ha
 |o::r,m+1,true::bs,s,h,ha=>by
  obtain⟨V,h1,h2⟩:=ha;exact⟨V,h1,qgh hk h2⟩
 |o::r,m+1,false::bs,s,h,ha=>qaL (fun s' h' hx=>⟨hx.1,qgh hk hx.2⟩) ha
 |o::r,m+1,[],s,h,ha=>qaL (fun s' h' hx=>⟨hx.1,qgh hk hx.2⟩) ha
def FactC(P:Program)(wz:World)(n:FrameK)(l:List Oper)(g:AHeap)(S:Slots)(o:Oper)(V:AVal):Prop:=
 ∀(Ps:PMap) (w:World) (a:Act) (g':AHeap) (next:Act->World->Prop) (Q:Exit->Act->World->Prop),Sub g g'->HRel wz Ps g' w->LookOk Ps n l o S a->(∀ψ' v w',Ps.le ψ'->HRel wz ψ' g' w'->(∀t,o.dst=some t->VR ψ' V v)->next (a.put o.dst v) w')->
  if Region.wanted o (yielded l.toArray a.tmps)=true then o.wp P a w next Q else next (a.put o.dst undef) w
theorem FactR.toC{l:List Oper}{g:AHeap}{S:Slots}{o:Oper}{V:AVal}(h:FactR P wz n l g S o V):FactC P wz n l g S o V:=
 fun Ps w a g' next Q h1 h2 h3 h4=>h Ps w a g' next Q h1 h2 h3 fun v hv=>h4 Ps v w Ps.le_refl h2 fun _ _=>hv
theorem FactC.sub{l:List Oper}{g g':AHeap}{S:Slots}{o:Oper}{V:AVal}(h:FactC P wz n l g S o V)(hs:Sub g g'):FactC P wz n l g' S o V:=
 fun Ps w a g₂ next Q h1 h2 h3 h4=>h Ps w a g₂ next Q (BL hs h1) h2 h3 h4
theorem FactC.slots{l:List Oper}{g:AHeap}{S S':Slots}{o:Oper}{V:AVal}(h:FactC P wz n l g S o V)(hs:∀t∈QS l o,S'.get t=S.get t):FactC P wz n l g S' o V:=
 fun Ps w a g₂ next Q h1 h2 h3 h4=>h Ps w a g₂ next Q h1 h2 ⟨h3.1,h3.2.1,fun t ht=>by rw[<-hs t ht];exact h3.2.2 t ht⟩ h4
theorem qmZ{l:List Oper}(hall:Xl n l=true){o:Oper}{S:Slots}{g:AHeap}{V:AVal}(ha:∀g',Sub g g'->QO P wz l [o] S g' fun s' h'=>s'=putD S o.dst V/\h'=g'):FactC P wz n l g S o V:=
 fun Ps w a g' next Q h1 h2 h3 h4=>qfr hall (ha g' h1) h2 h3 fun ψ' x h' v w' e1 e2 e3 ⟨e4,e5⟩=>h4 ψ' v w' e1 (e5 ▸ e2) fun t ht=>by
  have:=congrArg (fun s:Slots=>s.get t) e4;simp only[Xv,ht,if_true]at this;rw[<-this];exact e3
def isJ(P:Program)(l:List Oper)(π:List Nat)(fl:List Bool)(m q:Nat):Bool:=decide (q<m) && (fl.getD q false||isF P l (π.getD q 0))
def qnY(P:Program)(l:List Oper)(π:List Nat)(fl:List Bool)(ws:List (Option Nat))(m:Nat):Bool:=
 Uo l && (π.all fun i=>decide (i<l.length)) && ((KP l.length).all fun i=>π.contains i) &&
 ((KP π.length).all fun q=>(KP π.length).all fun r=>decide (q=r)|| !(π.getD q 0==π.getD r 0)) &&
 ((KP π.length).all fun q=>match ws.getD q none with
   |none=>(KP q).all fun c=>isJ P l π fl m c
   |some r=>decide (r<q) && Region.waitsFor .any l.toArray (π.getD q 0) (π.getD r 0) && (KP q).all fun c=>decide (c<=r)||isJ P l π fl m c) &&
 ((KP π.length).all fun q=>match l[π.getD q 0]? with
   |none=>true
   |some o=>(KP π.length).all fun r=>match l[π.getD r 0]? with
    |none=>true
    |some oj=>(match oj.dst with
     |none=>true
     |some t=> !(QS l o).contains t||(decide (q<r) && decide (m<=r))||(decide (r<q) && Region.waitsFor .any l.toArray (π.getD q 0) (π.getD r 0)))) &&
 decide (m<=π.length) && ((KP π.length).all fun q=>decide (q<m)|| !isJ P l π fl m q) &&
 (decide (m=π.length)||(KP m).all fun q=>(KP (m+1)).any fun r=>decide (q<r) && Region.waitsFor .any l.toArray (π.getD r 0) (π.getD q 0))
structure FloatJ(P:Program)(l:List Oper)(π:List Nat)(fl:List Bool)(m:Nat):Prop where
 order:Uo l=true
 inr:∀q,q<π.length->π.getD q 0<l.length
 onto:∀i,i<l.length->∃q,q<π.length/\π.getD q 0=i
 inj:∀q r,q<π.length->r<π.length->π.getD q 0=π.getD r 0->q=r
 wait:∀q c,q<π.length->c<q->isJ P l π fl m c=false->∃r,c<=r/\r<q/\Region.waitsFor .any l.toArray (π.getD q 0) (π.getD r 0)=true
 data:∀q r o oj t,q<π.length->r<π.length->l[π.getD q 0]?=some o->l[π.getD r 0]?=some oj->oj.dst=some t->t∈QS l o->(q<r/\m<=r)\/(r<q/\Region.waitsFor .any l.toArray (π.getD q 0) (π.getD r 0)=true)
 mle:m<=π.length
 tail:∀q,m<=q->q<π.length->isJ P l π fl m q=false
 sink:m<π.length->∀q,q<m->∃r,q<r/\r<=m/\Region.waitsFor .any l.toArray (π.getD r 0) (π.getD q 0)=true
theorem qpB{l:List Oper}{π:List Nat}{fl:List Bool}{ws:List (Option Nat)}{m:Nat}(h:qnY P l π fl ws m=true):FloatJ P l π fl m:=by
 unfold qnY at h;simp only[Ky]at h;obtain⟨⟨⟨⟨⟨⟨⟨⟨h1,h2⟩,h3⟩,h4⟩,h5⟩,h6⟩,h7⟩,h8⟩,h9⟩:=h;simp only[JD,JE]at h2 h3 h4 h5 h6 h8;refine⟨h1,fun q hq=>?_,fun i hi=>?_,fun q r hq hr e=>?_,fun q c hq hc hf=>?_,fun q r o oj t hq hr ho hoj hd ht=>?_,by simpa using h7,fun q hm hq=>?_,fun hm q hq=>?_⟩
 ·have:=h2 (π.getD q 0) (by rw[Ko,JA hq];exact VJ hq)
  simpa using this
 ·have:=h3 i hi
  rw[JX]at this;obtain⟨q,hq,e⟩:=BO this;exact⟨q,hq,by rw[Ko,JA hq];exact e⟩
 ·have:=h4 q hq r hr
  rw[JW,decide_eq_true_eq]at this;rcases this with e'|e'
  ·exact e'
  ·rw[e]at e';simp at e'
 ·have:=h5 q hq
  split at this
  ·rw[JD]at this
   rw[this c (JE.2 hc)]at hf;cases hf
  ·rename_i r _
   simp only[Ky,decide_eq_true_eq,JD,JE,JW]at this;obtain⟨⟨t1,t2⟩,t3⟩:=this;rcases t3 c hc with e|e
   ·exact⟨r,e,t1,t2⟩
   ·rw[e]at hf;cases hf
 ·have:=h6 q hq
  rw[ho]at this;simp only[JD,JE]at this;have:=this r hr;rw[hoj]at this;simp only[hd,JW,Ky,decide_eq_true_eq,Jj]at this;rcases this with(e|e)|e
  ·have hm:(QS l o).contains t=true:=by simpa using ht
   rw[hm]at e;cases e
  ·exact .inl e
  ·exact .inr e
 ·have:=h8 q hq
  simp only[JW,decide_eq_true_eq,Jj]at this;rcases this with e|e
  ·omega
  ·exact e
 ·rw[JW,decide_eq_true_eq]at h9
  rcases h9 with e|e
  ·omega
  ·rw[JD]at e
   have:=e q (JE.2 hq);rw[JY]at this;obtain⟨r,hr,hw⟩:=this;rw[JE]at hr;simp only[Ky,decide_eq_true_eq]at hw;exact⟨r,hw.1,by omega,hw.2⟩
theorem qrk{l:List Oper}(hall:Xl n l=true){π:List Nat}{fl:List Bool}{m:Nat}(F:FloatJ P l π fl m){K:Slots->AHeap->Prop}{g:AHeap}:∀(d p:Nat) (S:Slots),π.length-p=d->p<=π.length->qdG P wz l ((Zy l π).drop p) (m-p) (fl.drop p) S g K->
 ∃p' S',p<=p'/\p'<=π.length/\(p'<π.length->isJ P l π fl m p'=false)/\(∀q,p<=q->q<p'->isJ P l π fl m q=true)/\qdG P wz l ((Zy l π).drop p') (m-p') (fl.drop p') S' g K/\
  (∀q o,p<=q->q<p'->l[π.getD q 0]?=some o->∃V,(∀t,o.dst=some t->S'.get t=V)/\FactC P wz n l g S' o V)/\
  (∀t,(∀q o,p<=q->q<p'->l[π.getD q 0]?=some o->o.dst≠some t)->S'.get t=S.get t):=by
 intro d;induction d with
 |zero=>
  intro p S hd hp ha;exact⟨p,S,KL _,hp,fun h=>by omega,fun q h1 h2=>by omega,ha,fun q o h1 h2=>by omega,fun t _=>rfl⟩
 |succ d ih=>
  intro p S hd hp ha;have hpl:p<π.length:=by omega
  cases hf:isJ P l π fl m p with
  |false=>exact⟨p,S,KL _,hp,fun _=>hf,fun q h1 h2=>by omega,ha,fun q o h1 h2=>by omega,fun t _=>rfl⟩
  |true=>
   have hpm:p<m:=by
    refine JP fun h=>?_;rw[F.tail p h hpl]at hf;cases hf
   obtain⟨o,ho⟩:∃o,l[π.getD p 0]?=some o:=⟨_,JA (F.inr p hpl)⟩
   rw[ZZ F.inr hpl ho,show m-p=(m-(p+1))+1 by omega]at ha;have hfl:(fl.drop p).getD 0 false=fl.getD p false:=by simp[Ko,Kq]
   have hfd:(fl.drop p).drop 1=fl.drop (p+1):=by rw[BP]
   obtain⟨V,hv,hfact⟩:∃V,qdG P wz l ((Zy l π).drop (p+1)) (m-(p+1)) (fl.drop (p+1)) (putD S o.dst V) g K/\FactC P wz n l g S o V:=by
    cases hb:fl.getD p false with
    |true=>
     obtain⟨V,h1,h2⟩:=quB (by rw[hfl,hb]) ha;rw[hfd]at h2;exact⟨V,h2,qmZ hall h1⟩
    |false=>
     have hk2:ZW P o.op=2:=by
      unfold isJ isF at hf;rw[ho,hb]at hf;simp only[Ky,BQ]at hf;simpa using hf.2
     have ha:=qmP (by rw[hfl,hb]) ha;rw[hfd]at ha;obtain⟨V,⟨_,hv⟩,hfact⟩:=qgm hall hk2 ha;exact⟨V,hv,hfact.toC⟩
   obtain⟨p',S',a1,a2,a3,a4,a5,a6,a7⟩:=ih (p+1) (putD S o.dst V) (by omega) (by omega) hv;have notlook:∀q oq t,p<=q->q<p'->l[π.getD q 0]?=some oq->oq.dst=some t->t∉QS l o:=fun q oq t h1 h2 h3 h4 ht=>by
    rcases F.data p q o oq t hpl (by omega) ho h3 h4 ht with⟨c1,c2⟩|⟨c1,_⟩
    ·have:=a4 q (by omega) h2
     rw[F.tail q c2 (by omega)]at this;cases this
    ·omega
   have uniq:∀q oq t,p<q->q<π.length->l[π.getD q 0]?=some oq->oq.dst=some t->o.dst≠some t:=fun q oq t h1 h2 h3 h4 e=>by
    have:=((XP F.order ho).2 _ oq t h3 h4).1 e;have:=F.inj p q hpl h2 this;omega
   refine⟨p',S',by omega,a2,a3,fun q h1 h2=>?_,a5,fun q oq h1 h2 hq=>?_,fun t ht=>?_⟩
   ·rcases JC h1 with e|e
    ·rw[<-e];exact hf
    ·exact a4 q e h2
   ·rcases JC h1 with e|e
    ·subst e
     rw[ho]at hq;obtain rfl:=Option.some.inj hq;refine⟨V,fun t ht=>?_,hfact.slots fun t ht=>?_⟩
     ·rw[a7 t fun q oq h3 h4 h5 h6=>uniq q oq t h3 (by omega) h5 h6 ht,Xv,if_pos ht]
     ·rw[a7 t fun q oq h3 h4 h5 h6=>notlook q oq t (by omega) (by omega) h5 h6 ht,Xv,if_neg fun e=>notlook p o t (KL _) (by omega) ho e ht]
    ·exact a6 q oq e h2 hq
   ·rw[a7 t fun q oq h3 h4 h5=>ht q oq (by omega) h4 h5,Xv,if_neg (ht p o (KL _) (by omega) ho)]
def qzc(P:Program)(wz:World)(n:FrameK)(l:List Oper)(π:List Nat)(fl:List Bool)(m:Nat)(K:Slots->AHeap->Prop)(listed:Array Bool)(Ps:PMap)(a:Act)(w:World):Prop:=
 listed.size=l.length/\(∀j oj,l[j]?=some oj->listed.getD j false=true->∀e∈oj.after,Region.binds .any e=true->listed.getD e.on false=true)/\a.tmps.size=n/\a.defers=n.dfr/\
 ∃p S g,p<=π.length/\(p<π.length->isJ P l π fl m p=false)/\(∀q,p<=q->q<π.length->listed.getD (π.getD q 0) false=false)/\(∀q,q<p->isJ P l π fl m q=false->listed.getD (π.getD q 0) false=true)/\
  (m<p->∀q,q<p->listed.getD (π.getD q 0) false=true)/\HRel wz Ps g w/\qdG P wz l ((Zy l π).drop p) (m-p) (fl.drop p) S g K/\
  (∀q o,q<p->l[π.getD q 0]?=some o->listed.getD (π.getD q 0) false=false->∃V,(∀t,o.dst=some t->S.get t=V)/\FactC P wz n l g S o V)/\
  ∀t,(∃q o,q<p/\l[π.getD q 0]?=some o/\o.dst=some t/\listed.getD (π.getD q 0) false=false)\/VR Ps (S.get t) (a.tmps.getD t undef)
theorem YZ{l:List Oper}{listed:Array Bool}{i j:Nat}{o:Oper}(ho:l[i]?=some o)(hedges:∀e∈o.after,Region.binds .any e=true->listed.getD e.on false=true)(hw:Region.waitsFor .any l.toArray i j=true):listed.getD j false=true:=by
 obtain⟨oi,g1,e,g2,g3,g4⟩:=Region.waitsFor_spec hw;have g1':l[i]?=some oi:=by simpa using g1
 rw[ho]at g1';obtain rfl:=Option.some.inj g1';rw[<-g4];exact hedges e g2 g3
theorem qAt{l:List Oper}(hall:Xl n l=true){π:List Nat}{fl:List Bool}{m:Nat}(F:FloatJ P l π fl m){K:Slots->AHeap->Prop}{fi:PMap}{Q:Exit->Act->World->Prop}
 (hq:∀Ps S g a w,fi.le Ps->HRel wz Ps g w->SRel Ps n S a->K S g->Q .normal a w):∀(fuel:Nat) (listed:Array Bool) (a:Act) (w:World) (Ps:PMap),fi.le Ps->qzc P wz n l π fl m K listed Ps a w->
 (listed.toList.filter (!·)).length<=fuel->wpAny P .any l.toArray Q fuel listed a w:=by
 have hB:=F.order;have fin:∀(listed:Array Bool) (a:Act) (w:World) (Ps:PMap),fi.le Ps->qzc P wz n l π fl m K listed Ps a w->Region.ready .any l.toArray listed=[]->Q .normal a w:=by
  rintro listed a w Ps hle ⟨i1,i2,i3,i4,p,S,g,p1,p2,p3,p4,p5,p6,p7,p8,p9⟩ hrd;have hal:=qaK hB i1 hrd;have hp:p=π.length:=by
   rcases JC p1 with e|e
   ·exact e
   ·have:=p3 p (KL _) e
    rw[hal _ (F.inr p e)]at this;cases this
  subst hp;rw[show(Zy l π).drop π.length=[] by rw[<-qak F.inr];simp,qpy]at p7;refine hq Ps S g a w hle p6 ⟨i3,i4,fun t=>?_⟩ p7;rcases p9 t with⟨q,o,c1,c2,c3,c4⟩|c
  ·rw[hal _ (F.inr q c1)]at c4;cases c4
  ·exact c
 intro fuel;induction fuel with
 |zero=>
  intro listed a w Ps hle inv hc;have hrd:Region.ready .any l.toArray listed=[]:=by
   cases hrd:Region.ready .any l.toArray listed with
   |nil=>rfl
   |cons i r=>
    exfalso;have hm:i∈Region.ready .any l.toArray listed:=by rw[hrd];exact Jf
    obtain⟨h1,o,ho,_⟩:=mem_ready.1 hm;have hi:i<listed.size:=by
     have:l[i]?=some o:=by simpa using ho
     rw[inv.1];exact(JB.1 this).1
    have h2:listed.toList[i]?=some false:=by
     simp[JF,hi]at h1;simp[hi,h1]
    have:=J2 h2;have hmem:false∈listed.toList.filter (!·):=by simp[List.mem_filter,this]
    have:=J4 hmem;omega
  exact⟨hrd,fin listed a w Ps hle inv hrd⟩
 |succ fuel ih=>
  intro listed a w Ps hle inv hc;refine⟨fun hrd=>fin listed a w Ps hle inv hrd,fun i hi=>?_⟩;obtain⟨i1,i2,i3,i4,p,S,g,p1,p2,p3,p4,p5,p6,p7,p8,p9⟩:=inv;obtain⟨h1,o,ho,hedges⟩:=mem_ready.1 hi;have hol:l[i]?=some o:=by simpa using ho
  have hilt:i<l.length:=(JB.1 hol).1;have hisz:i<listed.size:=by rw[i1];exact hilt
  have hif:listed.getD i false=false:=by simp[JF,hisz]at h1|-;exact h1
  have hcount:((listed.setIfInBounds i true).toList.filter (!·)).length<=fuel:=by
   have h2:listed.toList[i]?=some false:=by
    simp[JF,hisz]at h1;simp[hisz,h1]
   have:=qaM listed.toList i h2;have e:(listed.setIfInBounds i true).toList=listed.toList.set i true:=by simp
   rw[e];omega
  have hdn:∀d,o.dst=some d->d<n:=fun d hd=>qbT l i d hall (by rw[Yv,hol];exact hd);obtain⟨q,hql,hqi⟩:=F.onto i hilt;have hoq:l[π.getD q 0]?=some o:=by rw[hqi];exact hol
  have looks:LookOk Ps n l o S a:=⟨i3,i4,fun t ht=>by
   rcases p9 t with⟨r,oj,c1,c2,c3,c4⟩|c
   ·exfalso
    rcases F.data q r o oj t hql (by omega) hoq c2 c3 ht with⟨d1,d2⟩|⟨_,this⟩
    ·rw[p5 (by omega) r c1]at c4
     cases c4
    ·rw[hqi]at this
     rw[YZ hol hedges this]at c4;cases c4
   ·exact c⟩
  have closed':∀j oj,l[j]?=some oj->(listed.setIfInBounds i true).getD j false=true->∀e∈oj.after,Region.binds .any e=true->(listed.setIfInBounds i true).getD e.on false=true:=fun j oj hj hl e he hb=>by
   by_cases e1:e.on=i
   ·rw[e1];exact set_self hisz
   ·rw[XG e1]
    by_cases e2:j=i
    ·subst e2
     rw[hol]at hj;obtain rfl:=Option.some.inj hj;exact hedges e he hb
    ·rw[XG e2]at hl
     exact i2 j oj hj hl e he hb
  have other:∀r,r<π.length->r≠q->(listed.setIfInBounds i true).getD (π.getD r 0) false=listed.getD (π.getD r 0) false:=fun r hr hne=>XG fun e=>hne (F.inj r q hr hql (by rw[e,hqi]));have nobehind:p<q->False:=fun hpq=>by
   obtain⟨r,r1,r2,r3⟩:=F.wait q p hql hpq (p2 (by omega));rw[hqi]at r3;have:=YZ hol hedges r3;rw[p3 r r1 (by omega)]at this;cases this
  have goal:(if Region.wanted o (yielded l.toArray a.tmps)=true then o.wp P a w (wpAny P .any l.toArray Q fuel (listed.setIfInBounds i true)) Q else wpAny P .any l.toArray Q fuel (listed.setIfInBounds i true) (a.put o.dst undef) w):=by
   rcases KU q p with hqp|hqp
   ·
    obtain⟨V,v1,v2⟩:=p8 q o hqp hoq (by rw[hqi];exact hif);refine v2 Ps w a g _ Q (Vm g) p6 looks fun ψ₂ v wx hle₂ hr₂ hv=>?_;refine ih _ _ _ ψ₂ (J7 hle hle₂) ⟨by simp[i1],closed',by rw[WZ];exact i3,by rw[put_defers];exact i4,p,S,g,p1,p2,fun r r1 r2=>?_,fun r r1 r2=>?_,fun hm r r1=>?_,hr₂,p7,fun r oj r1 r2 r3=>?_,fun t=>?_⟩ hcount
    ·rw[other r r2 (by omega)];exact p3 r r1 r2
    ·by_cases e:r=q
     ·rw[e,hqi];exact set_self hisz
     ·rw[other r (by omega) e];exact p4 r r1 r2
    ·by_cases e:r=q
     ·rw[e,hqi];exact set_self hisz
     ·rw[other r (by omega) e];exact p5 hm r r1
    ·by_cases e:r=q
     ·rw[e,hqi,set_self hisz]at r3;cases r3
     ·rw[other r (by omega) e]at r3
      exact p8 r oj r1 r2 r3
    ·by_cases hod:o.dst=some t
     ·right
      rw[v1 t hod,Yg a hod (by rw[i3];exact hdn t hod)];exact hv t hod
     ·rcases p9 t with⟨r,oj,c1,c2,c3,c4⟩|c
      ·refine .inl ⟨r,oj,c1,c2,c3,?_⟩
       rw[other r (by omega) fun e=>by subst e;rw[hoq]at c2;obtain rfl:=Option.some.inj c2;exact hod c3];exact c4
      ·right
       rw[Zo a hod];exact Ye hle₂ _ _ c
   ·have hqe:q=p:=by
     rcases JC hqp with e|e
     ·exact e.symm
     ·exact(nobehind e).elim
    subst hqe;have all_m:m<=q->∀r,r<q->listed.getD (π.getD r 0) false=true:=fun hm r hr=>by
     rcases JC hm with e|e
     ·subst e
      have key:∀d r,r+d=m->r<m->listed.getD (π.getD r 0) false=true:=by
       intro d;induction d using Nat.strongRecOn with
       |ind d ihd=>
        intro r hd hr;obtain⟨r',s1,s2,s3⟩:=F.sink hql r hr;rcases JC s2 with e|e
        ·subst e
         rw[hqi]at s3;exact YZ hol hedges s3
        ·have hl:=ihd (m-r') (by omega) r' (by omega) e
         obtain⟨oj,hoj⟩:∃oj,l[π.getD r' 0]?=some oj:=⟨_,JA (F.inr r' (by omega))⟩
         exact YZ hoj (i2 _ oj hoj hl) s3
      exact key (m-r) r (by omega) hr
     ·exact p5 e r hr
    obtain⟨K',ha,hnext⟩:∃K':Slots->AHeap->Prop,QO P wz l [o] S g K'/\∀s' h',K' s' h'->(q<m->Sub g h')/\qdG P wz l ((Zy l π).drop (q+1)) (m-(q+1)) (fl.drop (q+1)) s' h' K:=by
     rw[ZZ F.inr hql hoq]at p7;have hfl:(fl.drop q).getD 0 false=fl.getD q false:=by simp[Ko,Kq]
     have hfd:(fl.drop q).drop 1=fl.drop (q+1):=by rw[BP]
     have hfb:q<m->fl.getD q false=false:=fun c=>by
      have:=p2 hql;unfold isJ at this;rw[decide_eq_true c,Vg,VT]at this;exact this.1
     by_cases c:q<m
     ·rw[show m-q=(m-(q+1))+1 by omega]at p7
      have p7:=qmP (by rw[hfl,hfb c]) p7;rw[hfd]at p7;exact⟨_,p7,fun s' h' hx=>⟨fun _=>hx.1,hx.2⟩⟩
     ·rw[show m-q=0 by omega,qiH]at p7
      refine⟨_,qlU p7,fun s' h' hx=>⟨fun hc=>absurd hc c,?_⟩⟩;rw[show m-(q+1)=0 by omega];cases hdr:(Zy l π).drop (q+1)with
      |nil=>rw[hdr]at hx;rw[qpy];exact hx
      |cons o' r'=>rw[hdr]at hx;exact hx
    refine qfr hall ha p6 looks fun ψ' x h' v w' e1 e2 e3 hk=>?_;obtain⟨k1,k2⟩:=hnext _ _ hk;obtain⟨p',S',a1,a2,a3,a4,a5,a6,a7⟩:=qrk hall F (π.length-(q+1)) (q+1) (putD S o.dst x) rfl (by omega) k2;have keep:∀r or t,r<q->l[π.getD r 0]?=some or->listed.getD (π.getD r 0) false=false->(or.dst=some t\/t∈QS l or)->S'.get t=S.get t:=fun r or t hr hor hun ht=>by
     have nd:∀u ou,q<=u->u<max p' (q+1)->u<π.length->l[π.getD u 0]?=some ou->ou.dst≠some t:=fun u ou h1 hup h2 h3 h4=>by
      rcases ht with ht|ht
      ·have:=((XP hB hor).2 _ ou t h3 h4).1 ht
       have:=F.inj r u (by omega) h2 this;omega
      ·rcases F.data r u or ou t (by omega) h2 hor h3 h4 ht with⟨c1,c2⟩|⟨c1,_⟩
       ·rcases JC h1 with e|e
        ·subst e
         rw[all_m c2 r hr]at hun;cases hun
        ·have:=a4 u e (by omega)
         rw[F.tail u c2 h2]at this;cases this
       ·omega
     rw[a7 t fun u ou h1 h2 h3=>nd u ou (by omega) (by omega) (by omega) h3,Xv,if_neg (nd q o (KL _) (by omega) hql hoq)]
    refine ih _ _ _ ψ' (J7 hle e1) ⟨by simp[i1],closed',by rw[WZ];exact i3,by rw[put_defers];exact i4,p',S',h',a2,a3,fun r r1 r2=>?_,fun r r1 r2=>?_,fun hm r r1=>?_,e2,a5,fun r oj r1 r2 r3=>?_,fun t=>?_⟩ hcount
    ·rw[other r r2 (by omega)];exact p3 r (by omega) r2
    ·by_cases e:r=q
     ·rw[e,hqi];exact set_self hisz
     ·rw[other r (by omega) e]
      rcases KU r q with c|c
      ·exact p4 r c r2
      ·rw[a4 r (by omega) r1]at r2;cases r2
    ·have hmq:m<=q:=by
      refine Kt fun hc=>?_;have hmp:m<π.length:=by omega
      have:=a4 m (by omega) hm;rw[F.tail m (KL _) hmp]at this;cases this
     by_cases e:r=q
     ·rw[e,hqi];exact set_self hisz
     ·rw[other r (by omega) e]
      rcases KU r q with c|c
      ·exact all_m hmq r c
      ·have:=a4 r (by omega) r1
       rw[F.tail r (by omega) (by omega)]at this;cases this
    ·by_cases e:r=q
     ·rw[e,hqi,set_self hisz]at r3;cases r3
     ·rw[other r (by omega) e]at r3
      rcases KU r q with c|c
      ·obtain⟨V,v1,v2⟩:=p8 r oj c r2 r3
       have hqm:q<m:=by
        refine JP fun hm=>?_;rw[all_m hm r c]at r3;cases r3
       exact⟨V,fun t ht=>(keep r oj t c r2 r3 (.inl ht)).trans (v1 t ht),(v2.sub (k1 hqm)).slots fun t ht=>keep r oj t c r2 r3 (.inr ht)⟩
      ·exact a6 r oj (by omega) r1 r2
    ·by_cases hod:o.dst=some t
     ·right
      rw[a7 t fun u ou h1 h2 h3 h4=>by
       have:=((XP hB hoq).2 _ ou t h3 h4).1 hod;have:=F.inj q u hql (by omega) this;omega,Xv,if_pos hod,Yg a hod (by rw[i3];exact hdn t hod)]
      exact e3
     ·by_cases hw:∃r or,q+1<=r/\r<p'/\l[π.getD r 0]?=some or/\or.dst=some t
      ·obtain⟨r,or,w1,w2,w3,w4⟩:=hw
       exact .inl ⟨r,or,w2,w3,w4,by rw[other r (by omega) (by omega)];exact p3 r (by omega) (by omega)⟩
      ·have hS:S'.get t=S.get t:=by
        rw[a7 t fun u ou h1 h2 h3 h4=>hw ⟨u,ou,h1,h2,h3,h4⟩,Xv,if_neg hod]
       rcases p9 t with⟨r,oj,c1,c2,c3,c4⟩|c
       ·exact .inl ⟨r,oj,by omega,c2,c3,by rw[other r (by omega) (by omega)];exact c4⟩
       ·right
        rw[hS,Zo a hod];exact Ye e1 _ _ c
  simp only[wpOp,ho];split
  ·rename_i hw
   rw[if_pos hw]at goal;exact .inl goal
  ·rename_i hw
   rw[if_neg hw]at goal;exact goal
theorem qlL{Q:Exit->Slots->AHeap->Prop}{s:Slots}{h:AHeap}{id:Nat}{l:List Oper}(π:List Nat)(fl:List Bool)(ws:List (Option Nat))(m:Nat)(hm:P.follows .mixedOrders=true)(hB:qnY P l π fl ws m=true)(hd:Xl n l=true)
 (hc:qdG P wz l (Zy l π) m fl s h fun s' h'=>Q .normal s' h'):Awp P wz n (.region id l.toArray true) Q s h:=by
 refine Awp.of0 ?_;intro fi a w hr hs;have F:=qpB hB;refine wp_region_any hm ?_;have hf:∀j,(Jy l.toArray.size false).getD j false=false:=fun j=>by simp[JF]
 obtain⟨p',S',a1,a2,a3,a4,a5,a6,a7⟩:=qrk hd F π.length 0 s rfl (Jt _) (by rw[Nat.sub_zero,KQ];exact hc);refine qAt (fi:=fi) hd F (K:=fun s' h'=>Q .normal s' h') (fun Ps S g a' w' hle h1 h2 h3=>⟨Ps,S,g,hle,h1,h2,h3⟩) _ _ _ _ fi fi.le_refl
  ⟨by simp,fun j oj _ hl=>(by rw[hf]at hl;cases hl),hs.size,hs.defers,p',S',h,a2,a3,fun r _ _=>hf _,fun r r1 r2=>?_,fun hm' r r1=>?_,hr.drew,a5,fun r oj r1 r2 _=>a6 r oj (Jt _) r1 r2,fun t=>?_⟩ ?_
 ·rw[a4 r (Jt _) r1]at r2;cases r2
 ·have:=a4 m (Jt _) hm'
  rw[F.tail m (KL _) (by omega)]at this;cases this
 ·by_cases hw:∃r or,r<p'/\l[π.getD r 0]?=some or/\or.dst=some t
  ·obtain⟨r,or,w2,w3,w4⟩:=hw
   exact .inl ⟨r,or,w2,w3,w4,hf _⟩
  ·right
   rw[a7 t fun u ou _ h2 h3 h4=>hw ⟨u,ou,h2,h3,h4⟩];exact hs.val t
 ·have:=List.length_filter_le (!·) (Jy l.toArray.size false).toList
  simpa using this
theorem qsJ{Q:Exit->Slots->AHeap->Prop}{s:Slots}{h:AHeap}{id:Nat}{l:List Oper}{y:Code}(π:List Nat)(fl:List Bool)(ws:List (Option Nat))(m:Nat)(L:List Nat)(hm:P.follows .mixedOrders=true)(hB:qnY P l π fl ws m=true)(hd:Xl n l=true)
 (hc:∀K:Slots->AHeap->Prop,(∀s h,Awp P wz n y Q s h->K s h)->qdG P wz l (Zy l π) m fl s h fun s' h'=>K (s'.keep L) h'):Awp P wz n (.seq (.region id l.toArray true) y) Q s h:=
 qJ (qlL π fl ws m hm hB hd (qgh (fun _ _ hk=>Vb L hk) (hc (fun s h=>Awp P wz n y Q s h) (fun _ _ hk=>hk))))
end
end Go.AM
namespace Go.AM
section
variable {P:Program} {wz:World} {ops rest:List Oper} {s:Slots} {h:AHeap} {K:Slots->AHeap->Prop} {dst:Option Tmp} {ty:TypeId} {pos:String} {af:Array Edge}
theorem qoN{fo:Operand}{args:List Operand}{ts:Array TypeId}{j:Nat}{want:Bool}(hg:gv s ops j= .bool (!want))(hr:YG P wz ops rest (putD s dst (.tuple [])) h K):
 YG P wz ops (⟨dst, .call ⟨.value fo,args.toArray,ts⟩,ty,pos,af,some (j,want)⟩::rest) s h K:=by
 refine qdW (V:= .dead) (f:=0) (cap:=[]) (xs:=[]) (by rw[hg];rfl) (fun e=>?_) (fun e=>?_) ?_
 ·rw[hg]at e;cases want<;>cases e
 ·rw[hg]at e;cases want<;>cases e
 ·rw[hg];cases want<;>exact hr
theorem qwZ{hZ:AHeap}{fo:Operand}{args:List Operand}{ts:Array TypeId}{j:Nat}{want:Bool}(hg:gv s ops j= .bool (!want))(hr:Yj P wz ops hZ rest (putD s dst (.tuple [])) h K):
 Yj P wz ops hZ (⟨dst, .call ⟨.value fo,args.toArray,ts⟩,ty,pos,af,some (j,want)⟩::rest) s h K:=by
 refine qgU (V:= .bool true) (f:=0) (cap:=[]) (xs:=[]) (by rw[hg];rfl) (fun e=>?_) trivial (fun e=>?_) ?_
 ·rw[hg]at e;cases want<;>cases e
 ·rw[hg]at e;cases want<;>cases e
 ·rw[hg];cases want<;>exact hr
theorem qjJ{t:TypeId}{n:Nat}{ps:List (Nat×Operand)}{cs:List AVal}{j:Nat}{want:Bool}{g:AVal}(hg:gv s ops j=g)(hkn:Wu g=true)(hb:Xk g want=true->qaO P t n (evP s ps)=some cs)
 (hk:∀k H,Sub h H->(Xk g want=true->H k=some ⟨cs,0⟩)->QO P wz ops rest (putD s dst (QK (Xk g want) (.slice (.own k) 0 n (.exact n)))) H K):
 QO P wz ops (⟨dst, .buildSlice t n ps.toArray,ty,pos,af,some (j,want)⟩::rest) s h K:=by
 subst hg;have h0:qM ops j=none->False:=fun hj=>by unfold gv at hkn;rw[hj]at hkn;cases hkn
 cases hj:qM ops j with
 |none=>exact(h0 hj).elim
 |some d=>
  have e:gv s ops j=s.get d:=by unfold gv;rw[hj]
  rw[e]at hkn hb hk;refine qkg hj rfl hkn (fun q=>?_) (fun q=>?_)
  ·refine Qr (hb q) fun k hk'=>?_
   have:=hk k (h.set k ⟨cs,0⟩) (Vh hk') (fun _=>Ve _ _ _);rw[q,QK]at this;exact this
  ·have:=hk 0 h (Vm _) (fun z=>by rw[q]at z;cases z)
   rw[q,QK]at this;exact this
end
theorem qjU{P:Program}{wz:World}{k id:Nat}{l pre:List Oper}{m i:Operand}{ts:Array TypeId}{ty:TypeId}{pos:String}{af:Array Edge}{rest:Code}{s:Slots}{h:AHeap}{fn:Func}{rs:List ResultVar}{R:AVal->AHeap->Prop}{Q:Exit->Slots->AHeap->Prop}{vm vi:AVal}(L:List Nat)
 (hl:l=pre++[⟨none, .defer ⟨.builtin .delete,[m,i].toArray,ts⟩,ty,pos,af,none⟩]) (hd:Xl k l=true) (hrs:fn.results=rs.toArray) (hmx:P.follows .mixedOrders=true) (hB:Region.lexTailB .any l.toArray pre.length=true) (hp:(pre.all fun o=>ZE P o.op)=true)
 (hc:∀K:Slots->AHeap->Prop,(∀s h,(∀d,Awp P wz ⟨k,[d],fun _ _ _ _=>False⟩ rest (qtT P wz rs R ts vm vi) s h)->K s h)->QO P wz l pre s h (fun s' h'=>ev s' m=vm/\ev s' i=vi/\K (s'.keep L) h')):
 Awp P wz ⟨k,[],GD P wz fn R⟩ (.seq (.region id l.toArray true) rest) Q s h:=by
 have hdp:Xl k pre=true:=by
  have:∀(p q:List Oper),Xl k (p++q)=true->Xl k p=true:=by
   intro p q hp;induction p with
   |nil=>rfl
   |cons o p ih=>
    simp only[Kh,Xl,Ky]at hp|-
    exact⟨hp.1,ih hp.2⟩
  exact this pre _ (hl ▸ hd)
 have hc':=hc (fun s h=>∀d,Awp P wz ⟨k,[d],fun _ _ _ _=>False⟩ rest (qtT P wz rs R ts vm vi) s h) (fun _ _ hk=>hk);have htake:l.take pre.length=pre:=by rw[hl];simp
 have hdrop:l.drop pre.length=[⟨none, .defer ⟨.builtin .delete,[m,i].toArray,ts⟩,ty,pos,af,none⟩]:=by rw[hl];simp
 intro fi a w hr hs;refine wp_seq (wp_region_still_tail (w:=w) pre.length hmx hB ?_);rw[htake,hdrop];refine qhv (w:=w.drew) (n:=⟨k,[],GD P wz fn R⟩) l hd hr.drew _ _ pre [] s a hp hdp (by simpa using hc') hs fun s' a' hs' hk=>?_;obtain⟨em,ei,hk⟩:=hk;simp only[wpList];rw[if_pos (by simp[Region.wanted])];have hvm:=hs'.ev m;have hvi:=hs'.ev i;rw[em]at hvm;rw[ei]at hvi;generalize hdd:({target:= .builtin .delete ts ty (([m,i].toArray).map fun| .const _=>true|_=>false),args:=([m,i].toArray).map a'.eval}:Deferred)=d;have hx:(execOp a'.eval ⟨none, .defer ⟨.builtin .delete,[m,i].toArray,ts⟩,ty,pos,af,none⟩).run P w.drew= .ok (.defer d) w.drew:=by
  subst hdd;simp[execOp,resolve];exact⟨by cases m<;>rfl,by cases i<;>rfl⟩
 refine .inl ?_;show Oper.wp P _ a' w.drew _ _
 simp only[Oper.wp,hx,Oper.upon_defer,Act.put,Exit.then];refine wp_mono (Vb L (hk d) fi _ w.drew hr.drew ⟨hs'.size,by rw[hs'.defers],hs'.val⟩) fun e a'' w'' q=>?_;rcases q with⟨χ,s'',h'',e1,e2,e3,e4⟩|⟨_,χ,_,q⟩
 ·cases e<;>simp only[qtT]at e4<;>first
   |exact e4.elim
   |skip
  obtain⟨w3,h3,f1,f2,f3⟩:=qnc (ty:=ty) e4 e2 (Ye e1 _ _ hvm) (Ye e1 _ _ hvi);obtain⟨hp,h4,hsub,hR⟩:=f3;have hrs':rs=fn.results.toList:=by rw[hrs]
  rw[hrs']at hp hR;obtain⟨v,g1,g2⟩:=qgJ f2 e3 fn hp;refine .inr ⟨trivial,χ,e1,rfl,w3,?_,v,g1,χ,_,h4,χ.le_refl,f2.forget hsub,g2,hR⟩;rw[e3.defers];subst hdd;exact⟨.delete,ts,ty,_,undef,w3,rfl,by simpa[invoke,builtin]using ZK f1,rfl⟩
 ·exact q.elim
theorem qjT{P:Program}{wz:World}{k id:Nat}{l:List Oper}{m i:Operand}{ts:Array TypeId}{ty:TypeId}{pos:String}{af:Array Edge}{rest:Code}{s:Slots}{h:AHeap}{fn:Func}{rs:List ResultVar}{R:AVal->AHeap->Prop}{Q:Exit->Slots->AHeap->Prop}{vm vi:AVal}(L:List Nat)(m0:Nat)
 (hl:l.drop m0=[⟨none, .defer ⟨.builtin .delete,[m,i].toArray,ts⟩,ty,pos,af,none⟩]) (hd:Xl k l=true) (hrs:fn.results=rs.toArray) (hmx:P.follows .mixedOrders=true) (hB:Region.lexTailB .any l.toArray m0=true) (hp:((l.take m0).all fun o=>ZE P o.op)=true)
 (hc:∀K:Slots->AHeap->Prop,(∀s h,(∀d,Awp P wz ⟨k,[d],fun _ _ _ _=>False⟩ rest (qtT P wz rs R ts vm vi) s h)->K s h)->QO P wz l (l.take m0) s h (fun s' h'=>ev s' m=vm/\ev s' i=vi/\K (s'.keep L) h')):
 Awp P wz ⟨k,[],GD P wz fn R⟩ (.seq (.region id l.toArray true) rest) Q s h:=by
 have hlen:(l.take m0).length=m0:=by
  have:=congrArg BR hl;rw[K6,JS]at this;rw[K5];omega
 exact qjU L (pre:=l.take m0) (by rw[<-hl,Bq]) hd hrs hmx (by rw[hlen];exact hB) hp hc
theorem Ui{P:Program}{wz:World}{ops rest:List Oper}{s:Slots}{h hZ:AHeap}{K:Slots->AHeap->Prop}{dst:Option Tmp}{ty:TypeId}{pos:String}{af:Array Edge}{t:TypeId}{n:Nat}{ps:List (Nat×Operand)}{cs:List AVal}(hb:qaO P t n (evP s ps)=some cs)
 (hk:∀k,h k=none->Yj P wz ops hZ rest (putD s dst (.slice (.own k) 0 n (.exact n))) (h.set k ⟨cs,0⟩) K):Yj P wz ops hZ (⟨dst, .buildSlice t n ps.toArray,ty,pos,af,none⟩::rest) s h K:=by
 refine qdH rfl ?_;refine Qr hb fun k hk0=>?_;rw[qa];exact hk k hk0
end Go.AM
namespace Go.Cop
open Go.Col (Str FaultC okF)
open Go.Tok
set_option maxRecDepth 100000
def noT:TokC:=⟨0,[],0,0,false⟩
def alike:List TokC->List TokC->Bool
 |[],[]=>true
 |a::l,b::m=>(decide (a.kind=b.kind) && decide (a.text=b.text)) && alike l m
 |_,_=>false
def COPY:Str:=[67,79,80,89]
def BY:Str:=[66,89]
def ZL:Str:=[82,69,80,76,65,67,73,78,71]
structure RepC where
 old:List TokC
 new:List TokC
structure MemC where
 name:Str
 toks:List TokC
def Yb(l old:List TokC):Bool:=decide (old.length<=l.length) && alike old (l.take old.length)
def qkF(r:List RepC):Nat->List TokC->List TokC
 |0,_=>[]
 |_+1,[]=>[]
 |f+1,t::l=>match r.find? (fun x=>Yb (t::l) x.old)with
  |none=>t::qkF r f l
  |some x=>x.new++qkF r f ((t::l).drop x.old.length)
def WL(r:List RepC)(l:List TokC):List TokC:=qkF r l.length l
def qdv(l:List TokC)(r:List RepC):List TokC×Int:=
 if r.any (fun x=>decide (x.old=[]))=true then([],1)
 else if 65536<(WL r l).length then([],3)else(WL r l,0)
def Xc(l:List TokC)(i:Nat)(ks:List UInt8):Bool:=decide (i<l.length) && ks.contains (l.getD i noT).kind
def XH(l:List TokC)(i:Nat)(s:Str):Bool:=Xc l i [1] && decide ((l.getD i noT).text=s)
structure Opd where
 ok:Bool
 lo:Nat
 hi:Nat
 at_:Nat
def Xh(l:List TokC)(i:Nat):Nat:=i+((l.drop i).takeWhile (fun t=> !decide (t.kind=7))).length
def Qd(l:List TokC)(i:Nat)(empty:Bool):Opd:=
 if Xc l i [1,2,3]=true then⟨true,i,i+1,i+1⟩
 else if Xc l i [7]=false then⟨false,0,0,i⟩
 else if Xh l (i+1)=l.length\/(empty=false/\Xh l (i+1)=i+1)then⟨false,0,0,Xh l (i+1)⟩
 else⟨true,i+1,Xh l (i+1),Xh l (i+1)+1⟩
def ZT(l:List TokC)(i j:Nat):List TokC:=(l.drop i).take (j-i)
structure Pair where
 ok:Bool
 rep:RepC
 at_:Nat
def XO(l:List TokC)(i:Nat):Pair:=
 let a:=Qd l i false
 if a.ok=false then⟨false,⟨[],[]⟩,a.at_⟩
 else if XH l a.at_ BY=false then⟨false,⟨[],[]⟩,a.at_⟩
 else
  let b:=Qd l (a.at_+1) true
  ⟨b.ok,⟨ZT l a.lo a.hi,ZT l b.lo b.hi⟩,b.at_⟩
structure Pairs where
 ok:Bool
 reps:List RepC
 at_:Nat
def XB(l:List TokC):Nat->Nat->Bool->List RepC->Pairs
 |0,i,_,acc=>⟨true,acc,i⟩
 |f+1,i,first,acc=>
  if first=true\/(i<l.length/\Xc l i [6]=false)then
   (let p:=XO l i
   if p.ok=false then⟨false,[],p.at_⟩else XB l f p.at_ false (acc++[p.rep]))
  else⟨true,acc,i⟩
structure Stm where
 ok:Bool
 name:TokC
 reps:List RepC
 at_:Nat
def qdD(i:Nat):Stm:=⟨false,noT,[],i⟩
def Ze(l:List TokC)(name:TokC)(p:Pairs):Stm:=
 if p.ok=false then qdD p.at_
 else if Xc l p.at_ [6]=false then qdD p.at_
 else⟨true,name,p.reps,p.at_+1⟩
def Qn(l:List TokC)(i:Nat):Stm:=
 if Xc l i [1,3]=false then qdD i
 else Ze l (l.getD i noT) (if XH l (i+1) ZL=true then XB l (l.length+2) (i+2) true []else⟨true,[],i+1⟩)
def Xm(l:List TokC)(i:Nat):Nat:=i+((l.drop i).takeWhile (fun t=> !(decide (t.kind=1) && decide (t.text=COPY)))).length
def qao(l:List TokC)(copies at_:Nat):FaultC:=
 if at_<l.length then⟨4,(l.getD at_ noT).line,(l.getD at_ noT).col⟩else⟨4,(l.getD copies noT).line,(l.getD copies noT).col⟩
def addE(names:List Str)(s:Str):List Str:=if names.contains s=true then names else names++[s]
structure Xs where
 names:List Str
 copies:Nat
inductive Xr where
 |bad (f:FaultC)
 |ok (out:List TokC) (st:Xs)
def WR(lim:Bool)(l:List TokC):Bool:=lim && decide (65536<l.length)
def WT(lim:Bool)(mem:List MemC)(op:List Str)(rec:List TokC->List Str->Xs->Xr)(s:Stm)(st:Xs):Xr:=
 match mem.find? (fun m=>decide (m.name=s.name.text))with
 |none=> .bad ⟨7,s.name.line,s.name.col⟩
 |some m=>
  if op.contains s.name.text=true then .bad ⟨10,s.name.line,s.name.col⟩
  else if 8<=op.length\/(lim=true/\4096<st.copies+1)then .bad ⟨3,s.name.line,s.name.col⟩
  else match rec m.toks (op++[s.name.text]) ⟨addE st.names s.name.text,st.copies+1⟩with
   | .bad f=> .bad f
   | .ok l st'=>if WR lim l=true then .bad ⟨3,s.name.line,s.name.col⟩else if WR lim (WL s.reps l)=true then .bad ⟨3,s.name.line,s.name.col⟩else .ok (WL s.reps l) st'
def UI(lim:Bool)(mem:List MemC)(op:List Str)(rec:List TokC->List Str->Xs->Xr)(l:List TokC):Nat->Nat->List TokC->Xs->Xr
 |0,_,out,st=> .ok out st
 |f+1,i,out,st=>
  let c:=Xm l i
  if l.length<=c then .ok (out++l.drop i) st
  else
   let s:=Qn l (c+1)
   if s.ok=false then .bad (qao l c s.at_)
   else match WT lim mem op rec s st with
    | .bad f=> .bad f
    | .ok inner st'=>if WR lim (out++ZT l i c++inner)=true then .bad ⟨3,s.name.line,s.name.col⟩else UI lim mem op rec l f s.at_ (out++ZT l i c++inner) st'
def qbI(lim:Bool)(mem:List MemC):Nat->List TokC->List Str->Xs->Xr
 |0,l,op,st=>UI lim mem op (fun _ _ st=> .ok [] st) l (l.length+1) 0 [] st
 |d+1,l,op,st=>UI lim mem op (qbI lim mem d) l (l.length+1) 0 [] st
def qaC(lim:Bool)(l:List TokC)(mem:List MemC):Xr:=qbI lim mem 8 l [] ⟨[],0⟩
theorem qgp{α:Type}(d:α){l:List α}{i:Nat}(hi:i<l.length):l.drop i=l.getD i d::l.drop (i+1):=by
 rw[J5 hi];simp[Ko,hi]
theorem quF{l o:List TokC}(h:Yb l o=true):o.length<=l.length:=by
 unfold Yb at h;simp only[Ky,decide_eq_true_eq]at h;exact h.1
theorem qgK{r:List RepC}(hr:∀x∈r,x.old≠[]):∀(f g:Nat) (l:List TokC),l.length<=f->l.length<=g->qkF r f l=qkF r g l
 |0,g,l,hf,_=>by
  rw[Kg (by omega:l.length=0)];cases g<;>rfl
 |f+1,0,l,_,hg=>by
  rw[Kg (by omega:l.length=0)];rfl
 |f+1,g+1,[],_,_=>rfl
 |f+1,g+1,t::l,hf,hg=>by
  simp only[KY]at hf hg;simp only[qkF];cases hq:r.find? (fun x=>Yb (t::l) x.old)with
  |none=>simp only;rw[qgK hr f g l (by omega) (by omega)]
  |some x=>
   simp only;have hx:0<x.old.length:=BS.2 (hr x (BU hq));have hd:((t::l).drop x.old.length).length<=l.length:=by simp;omega
   rw[qgK hr f g _ (by omega) (by omega)]
theorem qvL(r:List RepC):WL r []=[]:=rfl
theorem qgb{r:List RepC}(hr:∀x∈r,x.old≠[]){l:List TokC}{i:Nat}(hi:i<l.length):WL r (l.drop i)=match r.find? (fun x=>Yb (l.drop i) x.old)with
 |none=>l.getD i noT::WL r (l.drop (i+1))
 |some x=>x.new++WL r (l.drop (i+x.old.length)):=by
 unfold WL;have e:=qgp noT hi;rw[show(l.drop i).length=(l.drop (i+1)).length+1 by simp;omega];rw[e];simp only[qkF];rw[<-e];cases hq:r.find? (fun x=>Yb (l.drop i) x.old)with
 |none=>rfl
 |some x=>
  simp only;have hx:0<x.old.length:=BS.2 (hr x (BU hq));rw[BP,qgK hr _ _ (l.drop (i+x.old.length)) (by simp;omega) (KL _)]
theorem qll{r:List RepC}{p:RepC->Bool}:(r.findIdx? p=none/\r.find? p=none)\/∃i x,r.findIdx? p=some i/\r.find? p=some x/\i<r.length/\r[i]?=some x:=by
 cases h:r.findIdx? p with
 |none=>
  left;refine⟨rfl,?_⟩;rw[BV]at h;rw[List.find?_eq_none];intro x hx;simp[h x hx]
 |some i=>
  right;rw[BX]at h;obtain⟨h1,h2,h3⟩:=h;refine⟨i,r[i],rfl,?_,h1,by simp[h1]⟩;rw[List.find?_eq_some_iff_getElem];exact⟨h2,i,h1,rfl,fun j hj=>by simpa using h3 j hj⟩
theorem Yw{l:List TokC}{i:Nat}{ks:List UInt8}(h:Xc l i ks=true):i<l.length:=by
 unfold Xc at h;simp only[Ky,decide_eq_true_eq]at h;exact h.1
theorem qdh{α:Type}(p:α->Bool):∀l:List α,(l.takeWhile p).length<=l.length
 |[]=>KL _
 |a::l=>by
  rw[BZ];split
  ·simp;exact qdh p l
  ·simp
theorem qhD{l:List TokC}{i:Nat}(h:i<=l.length):i<=Xh l i/\Xh l i<=l.length:=by
 unfold Xh;have:=qdh (fun t:TokC=> !decide (t.kind=7)) (l.drop i);rw[K6]at this;omega
theorem qap{l:List TokC}{i:Nat}(h:i<=l.length):i<=Xm l i/\Xm l i<=l.length:=by
 unfold Xm;have:=qdh (fun t:TokC=> !(decide (t.kind=1) && decide (t.text=COPY))) (l.drop i);rw[K6]at this;omega
theorem Ur{l:List TokC}{i:Nat}{e:Bool}(h:i<=l.length):i<=(Qd l i e).at_/\(Qd l i e).at_<=l.length/\((Qd l i e).ok=true->i<(Qd l i e).at_/\(Qd l i e).lo<=(Qd l i e).hi/\(Qd l i e).hi<=l.length/\(e=false->(Qd l i e).lo<(Qd l i e).hi)):=by
 unfold Qd;split
 ·rename_i h1
  have:=Yw h1;exact⟨by simp only;omega,by simp only;omega,fun _=>⟨by simp only;omega,by simp only;omega,by simp only;omega,fun _=>by simp only;omega⟩⟩
 ·split
  ·exact⟨KL _,h,fun q=>by cases q⟩
  ·rename_i h2
   have h2':Xc l i [7]=true:=by simpa using h2
   have hl:=Yw h2';obtain⟨p1,p2⟩:=qhD (l:=l) (i:=i+1) (by omega);split
   ·exact⟨by simp only;omega,p2,fun q=>by cases q⟩
   ·rename_i h3
    have hne:Xh l (i+1)≠l.length:=fun q=>h3 (.inl q);refine⟨by simp only;omega,by simp only;omega,fun _=>⟨by simp only;omega,p1,p2,fun he=>?_⟩⟩;simp only;have:Xh l (i+1)≠i+1:=fun q=>h3 (.inr ⟨he,q⟩);omega
theorem qhF{l:List TokC}{i:Nat}(h:i<=l.length):i<=(XO l i).at_/\(XO l i).at_<=l.length/\((XO l i).ok=true->i<(XO l i).at_/\(XO l i).rep.old≠[]):=by
 obtain⟨a1,a2,a3⟩:=Ur (e:=false) h;unfold XO;simp only;split
 ·exact⟨a1,a2,fun q=>by cases q⟩
 ·rename_i h1
  have h1':(Qd l i false).ok=true:=by simpa using h1
  obtain⟨b1,b2,b3,b4⟩:=a3 h1';split
  ·exact⟨a1,a2,fun q=>by cases q⟩
  ·rename_i h2
   have h2':XH l (Qd l i false).at_ BY=true:=by simpa using h2
   have hl:(Qd l i false).at_<l.length:=by
    unfold XH at h2';simp only[Ky]at h2';exact Yw h2'.1
   obtain⟨c1,c2,c3⟩:=Ur (l:=l) (i:=(Qd l i false).at_+1) (e:=true) (by omega);refine⟨by simp only;omega,c2,fun _=>⟨by simp only;omega,?_⟩⟩;simp only[ZT];intro q;have:=congrArg BR q;have:=b4 rfl;simp at*
   omega
theorem qpk{l:List TokC}:∀(f i:Nat) (first:Bool) (acc:List RepC),i<=l.length->(∀x∈acc,x.old≠[])->i<=(XB l f i first acc).at_/\(XB l f i first acc).at_<=l.length/\∀x∈(XB l f i first acc).reps,x.old≠[]
 |0,i,first,acc,h,ha=>⟨KL _,h,ha⟩
 |f+1,i,first,acc,h,ha=>by
  rw[XB];split
  ·obtain⟨p1,p2,p3⟩:=qhF h
   simp only;split
   ·exact⟨p1,p2,fun x hx=>by cases hx⟩
   ·rename_i hok
    obtain⟨p4,p5⟩:=p3 (by simpa using hok);obtain⟨q1,q2,q3⟩:=qpk f (XO l i).at_ false (acc++[(XO l i).rep]) p2 (fun x hx=>by
     rcases JJ.1 hx with hx|hx
     ·exact ha x hx
     ·rw[BG.1 hx];exact p5)
    exact⟨by omega,q2,q3⟩
  ·exact⟨KL _,h,ha⟩
theorem UC{l:List TokC}{i:Nat}{s:Str}(h:XH l i s=true):i<l.length:=by
 unfold XH at h;simp only[Ky]at h;exact Yw h.1
theorem Ul{l:List TokC}{i:Nat}(h:i<=l.length):i<=(Qn l i).at_/\(Qn l i).at_<=l.length/\((Qn l i).ok=true->i<(Qn l i).at_)/\∀x∈(Qn l i).reps,x.old≠[]:=by
 unfold Qn;split
 ·exact⟨KL _,h,(fun q=>by cases q),(fun x hx=>by cases hx)⟩
 ·rename_i h1
  have hl:=Yw (show Xc l i [1,3]=true by simpa using h1);have key:∀p:Pairs,i+1<=p.at_->p.at_<=l.length->(∀x∈p.reps,x.old≠[])->i<=(Ze l (l.getD i noT) p).at_/\(Ze l (l.getD i noT) p).at_<=l.length/\((Ze l (l.getD i noT) p).ok=true->i<(Ze l (l.getD i noT) p).at_)/\∀x∈(Ze l (l.getD i noT) p).reps,x.old≠[]:=by
   intro p p1 p2 p3;unfold Ze;split
   ·exact⟨by simp only[qdD];omega,p2,(fun q=>by cases q),(fun x hx=>by cases hx)⟩
   ·split
    ·exact⟨by simp only[qdD];omega,p2,(fun q=>by cases q),(fun x hx=>by cases hx)⟩
    ·rename_i h3
     have:=Yw (show Xc l p.at_ [6]=true by simpa using h3);exact⟨by simp only;omega,by simp only;omega,fun _=>by simp only;omega,p3⟩
  split
  ·rename_i h2
   have hw:=UC h2;obtain⟨q1,q2,q3⟩:=qpk (l:=l) (l.length+2) (i+2) true [] (by omega) (fun x hx=>by cases hx);exact key _ (by omega) q2 q3
  ·exact key _ (KL _) (by simp only;omega) (fun x hx=>by cases hx)
theorem qrZ(l:List TokC)(c a:Nat):qao l c a≠okF:=by
 unfold qao;split<;>simp[okF]
section
variable {lim:Bool} {mem:List MemC}
end
section
variable {lim:Bool} {mem:List MemC}
def UJ(mem:List MemC)(s:Str):Option MemC:=mem.find? (fun m=>decide (m.name=s))
end
def qiJ(t:TokC):Bool:=decide (t.kind=1) && decide (t.text=COPY)
def qsW(l:List TokC):Prop:=∀t∈l,qiJ t=false
theorem qmE{l:List TokC}(h:qsW l):Xm l 0=l.length:=by
 unfold Xm;rw[KQ,Js];congr 1;induction l with
 |nil=>rfl
 |cons a l ih=>
  rw[BZ];have ha:=h a Jf;unfold qiJ at ha;rw[if_pos (by rw[ha];rfl),ih fun t ht=>h t (Jg _ ht)]
section
variable {lim:Bool} {mem:List MemC}
end
theorem qgR(a b:List TokC)(i:Nat):(a++b).getD (a.length+i) noT=b.getD i noT:=by
 simp only[Ko];rw[List.getElem?_append_right (by omega),Ea]
theorem WG(a b:List TokC)(i:Nat)(ks:List UInt8):Xc (a++b) (a.length+i) ks=Xc b i ks:=by
 unfold Xc;rw[qgR,Jc];congr 1;exact decide_eq_decide.2 (by omega)
theorem qdU(a b:List TokC)(i:Nat)(s:Str):XH (a++b) (a.length+i) s=XH b i s:=by
 unfold XH;rw[WG,qgR]
theorem drop_shift{α:Type}(a b:List α)(i:Nat):(a++b).drop (a.length+i)=b.drop i:=by
 rw[List.drop_append,Vz (by omega),Je,Ea]
theorem qjO(a b:List TokC)(i:Nat):Xh (a++b) (a.length+i)=a.length+Xh b i:=by
 unfold Xh;rw[drop_shift];omega
theorem qik(a b:List TokC)(i:Nat):Xm (a++b) (a.length+i)=a.length+Xm b i:=by
 unfold Xm;rw[drop_shift];omega
theorem qnf(a b:List TokC)(i j:Nat):ZT (a++b) (a.length+i) (a.length+j)=ZT b i j:=by
 unfold ZT;rw[drop_shift];congr 1;omega
theorem qbA(a b:List TokC)(i:Nat)(e:Bool):Qd (a++b) (a.length+i) e=if (Qd b i e).ok=true then⟨true,a.length+(Qd b i e).lo,a.length+(Qd b i e).hi,a.length+(Qd b i e).at_⟩else⟨false,0,0,a.length+(Qd b i e).at_⟩:=by
 unfold Qd;rw[WG,WG,Kw,qjO,Jc];by_cases h1:Xc b i [1,2,3]=true
 ·simp[h1]
 ·rw[if_neg h1,if_neg h1]
  by_cases h2:Xc b i [7]=false
  ·simp[h2]
  ·rw[if_neg h2,if_neg h2]
   by_cases h3:Xh b (i+1)=b.length\/(e=false/\Xh b (i+1)=i+1)
   ·rw[if_pos h3,if_pos (h3.imp (fun q=>by omega) (fun q=>⟨q.1,by omega⟩))]
    simp
   ·rw[if_neg h3,if_neg (fun q=>h3 (q.imp (fun q=>by omega) (fun q=>⟨q.1,by omega⟩)))]
    simp[Kw]
theorem qrI(a b:List TokC)(i:Nat):(XO (a++b) (a.length+i)).ok=(XO b i).ok/\(XO (a++b) (a.length+i)).at_=a.length+(XO b i).at_/\((XO b i).ok=true->(XO (a++b) (a.length+i)).rep=(XO b i).rep):=by
 unfold XO;simp only[qbA a b i false];by_cases h1:(Qd b i false).ok=true
 ·rw[if_pos h1]
  simp only[qdU,Kw,qbA,h1];by_cases h2:XH b (Qd b i false).at_ BY=true
  ·simp only[h2]
   by_cases h3:(Qd b ((Qd b i false).at_+1) true).ok=true
   ·simp[h3,qnf]
   ·simp[h3]
  ·simp[h2]
 ·rw[if_neg h1]
  simp[h1]
theorem qcW(a b:List TokC):∀(f i:Nat) (first:Bool) (acc:List RepC),XB (a++b) f (a.length+i) first acc=⟨(XB b f i first acc).ok,(XB b f i first acc).reps,a.length+(XB b f i first acc).at_⟩
 |0,i,first,acc=>rfl
 |f+1,i,first,acc=>by
  rw[XB,XB];rw[WG,Jc];obtain⟨p1,p2,p3⟩:=qrI a b i;by_cases h:first=true\/(i<b.length/\Xc b i [6]=false)
  ·rw[if_pos h,if_pos (h.imp (fun q=>q) (fun q=>⟨by omega,q.2⟩))]
   simp only[p1,p2];by_cases h2:(XO b i).ok=true
   ·rw[if_neg (by simp[h2]),if_neg (by simp[h2]),p3 h2,qcW a b f]
   ·have h2':(XO b i).ok=false:=by simpa using h2
    rw[if_pos h2',if_pos h2']
  ·rw[if_neg h,if_neg (fun q=>h (q.imp (fun q=>q) (fun q=>⟨by omega,q.2⟩)))]
theorem qaG(l:List TokC):∀(f g i:Nat) (first:Bool) (acc:List RepC),i<=l.length->l.length+1<=f+i->l.length+1<=g+i->XB l f i first acc=XB l g i first acc
 |0,g,i,first,acc,h,hf,hg=>by omega
 |f+1,0,i,first,acc,h,hf,hg=>by omega
 |f+1,g+1,i,first,acc,h,hf,hg=>by
  rw[XB,XB];split
  ·obtain⟨p1,p2,p3⟩:=qhF h
   simp only;split
   ·rfl
   ·rename_i hok
    obtain⟨p4,_⟩:=p3 (by simpa using hok);exact qaG l f g _ _ _ p2 (by omega) (by omega)
  ·rfl
theorem qiv(a b:List TokC)(n:TokC)(p:Pairs):Ze (a++b) n ⟨p.ok,p.reps,a.length+p.at_⟩=⟨(Ze b n p).ok,(Ze b n p).name,(Ze b n p).reps,a.length+(Ze b n p).at_⟩:=by
 unfold Ze;simp only[WG];split
 ·rfl
 ·split
  ·rfl
  ·simp[Kw]
theorem qaA(a b:List TokC)(i:Nat)(hi:i<=b.length):Qn (a++b) (a.length+i)=⟨(Qn b i).ok,(Qn b i).name,(Qn b i).reps,a.length+(Qn b i).at_⟩:=by
 unfold Qn;rw[WG];split
 ·rfl
 ·rename_i h1
  rw[qgR,Kw,qdU];split
  ·rename_i h2
   have:=UC h2;rw[Kw,qaG (a++b) _ (b.length+2) (a.length+(i+2)) true [] (by rw[Jc];omega) (by rw[Jc];omega) (by rw[Jc];omega),qcW,qiv]
  ·exact qiv a b _ ⟨true,[],i+1⟩
section
variable {c b:List TokC}
theorem qgS{i:Nat}(h:i<c.length):(c++b).getD i noT=c.getD i noT:=by
 simp only[Ko];rw[List.getElem?_append_left h]
theorem YW{i:Nat}(h:i<c.length)(ks:List UInt8):Xc (c++b) i ks=Xc c i ks:=by
 unfold Xc;rw[qgS h,Jc,decide_eq_true (by omega),decide_eq_true h]
theorem qca{i:Nat}(h:i<c.length)(s:Str):XH (c++b) i s=XH c i s:=by
 unfold XH;rw[YW h,qgS h]
theorem qgB{α:Type}{p:α->Bool}:∀{l m:List α},(l.takeWhile p).length<l.length->(l++m).takeWhile p=l.takeWhile p
 |[],_,h=>by simp at h
 |x::l,m,h=>by
  rw[Kh,BZ,BZ];rw[BZ]at h;split
  ·rename_i hx
   rw[if_pos hx]at h;rw[qgB (by simpa using h)]
  ·rfl
theorem qjP{i:Nat}(hi:i<=c.length)(h:Xh c i<c.length):Xh (c++b) i=Xh c i:=by
 unfold Xh at h|-
 rw[Eb hi,qgB (by rw[K6];omega)]
theorem qng{i j:Nat}(h:j<=c.length):ZT (c++b) i j=ZT c i j:=by
 unfold ZT;by_cases hi:i<=c.length
 ·rw[Eb hi,List.take_append_of_le_length (by rw[K6];omega)]
 ·rw[show j-i=0 by omega]
  rfl
theorem qgE{i:Nat}{e:Bool}(hi:i<=c.length)(h:(Qd c i e).ok=true):Qd (c++b) i e=Qd c i e:=by
 unfold Qd at h|-
 split at h
 ·rename_i h1
  rw[YW (Yw h1),if_pos h1,if_pos h1]
 ·rename_i h1
  split at h
  ·cases h
  ·rename_i h2
   have h2':Xc c i [7]=true:=by simpa using h2
   have hl:=Yw h2';rw[YW hl,YW hl,if_neg h1,if_neg h2,if_neg h1,if_neg h2];split at h
   ·cases h
   ·rename_i h3
    obtain⟨p1,p2⟩:=qhD (l:=c) (i:=i+1) (by omega);have h4:Xh c (i+1)<c.length:=by omega
    rw[qjP (by omega) h4,if_neg h3,if_neg (by rw[Jc];exact fun q=>h3 (q.imp (fun q=>by omega) (fun q=>q)))]
theorem qkL{i:Nat}(hi:i<=c.length)(h:(XO c i).ok=true):XO (c++b) i=XO c i:=by
 unfold XO at h|-
 simp only at h|-
 split at h
 ·cases h
 ·rename_i h1
  have h1':(Qd c i false).ok=true:=by simpa using h1
  split at h
  ·cases h
  ·rename_i h2
   have h2':XH c (Qd c i false).at_ BY=true:=by simpa using h2
   have hl:=UC h2';obtain⟨_,_,q⟩:=Ur (e:=false) hi;obtain⟨_,q1,q2,_⟩:=q h1';obtain⟨_,_,r⟩:=Ur (l:=c) (i:=(Qd c i false).at_+1) (e:=true) (by omega);obtain⟨_,r1,r2,_⟩:=r h;rw[qgE hi h1',if_neg h1,if_neg h1,qca hl,if_neg h2,if_neg h2,qgE (by omega) h,qng q2,qng r2]
theorem qjn:∀(f i:Nat) (first:Bool) (acc:List RepC),i<=c.length->(XB c f i first acc).ok=true->Xc c (XB c f i first acc).at_ [6]=true->XB (c++b) f i first acc=XB c f i first acc
 |0,i,first,acc,_,_,_=>rfl
 |f+1,i,first,acc,hi,h,h6=>by
  rw[XB]at h h6;rw[XB,XB];by_cases hc:first=true\/(i<c.length/\Xc c i [6]=false)
  ·rw[if_pos hc]at h h6
   simp only at h h6;have hok:(XO c i).ok=true:=by
    by_cases q:(XO c i).ok=true
    ·exact q
    ·rw[if_pos (by simpa using q)]at h
     cases h
   rw[if_neg (by simp[hok])]at h h6;obtain⟨p1,p2,_⟩:=qhF hi;rw[if_pos hc,if_pos (by
    rcases hc with q|⟨q1,q2⟩
    ·exact .inl q
    ·exact .inr ⟨by rw[Jc];omega,by rw[YW q1];exact q2⟩)]
   simp only;rw[qkL hi hok,if_neg (by simp[hok]),if_neg (by simp[hok])];exact qjn f _ _ _ p2 h h6
  ·rw[if_neg hc]at h h6
   simp only at h6;have hl:=Yw h6;rw[if_neg hc,if_neg (by
    rintro(q|⟨_,q2⟩)
    ·exact hc (.inl q)
    ·rw[YW hl,h6]at q2
     cases q2)]
theorem qjK{i:Nat}(hi:i<=c.length)(h:(Qn c i).ok=true):Qn (c++b) i=Qn c i:=by
 unfold Qn at h|-
 split at h
 ·cases h
 ·rename_i h1
  have h1':Xc c i [1,3]=true:=by simpa using h1
  have hl:=Yw h1';rw[YW hl,if_neg h1,if_neg h1,qgS hl];have key:∀(p p':Pairs),(Ze c (c.getD i noT) p).ok=true->((p.ok=true/\Xc c p.at_ [6]=true)->p'=p)->Ze (c++b) (c.getD i noT) p'=Ze c (c.getD i noT) p:=by
   intro p p' hb hp;have hb':=hb;unfold Ze at hb;split at hb
   ·cases hb
   ·rename_i g1
    split at hb
    ·cases hb
    ·rename_i g2
     have g2':Xc c p.at_ [6]=true:=by simpa using g2
     rw[hp ⟨by simpa using g1,g2'⟩];unfold Ze;rw[YW (Yw g2')]
  split at h
  ·rename_i h2
   have hw:=UC h2;rw[qca hw,if_pos h2,if_pos h2];refine key _ _ h fun⟨g1,g2⟩=>?_;rw[qaG (c++b) _ ((c++b).length+c.length+2) (i+2) true [] (by rw[Jc];omega) (by omega) (by omega)];have e:=qaG c (c.length+2) ((c++b).length+c.length+2) (i+2) true [] (by omega) (by omega) (by omega);rw[e]at g1 g2|-
   exact qjn _ _ _ _ (by omega) g1 g2
  ·rename_i h2
   have hlt:i+1<c.length:=by
    unfold Ze at h;simp only at h;split at h
    ·cases h
    ·split at h
     ·cases h
     ·rename_i g
      exact Yw (by simpa using g)
   rw[qca hlt,if_neg h2,if_neg h2];exact key ⟨true,[],i+1⟩ _ h fun _=>rfl
end
def wd(s:Str):TokC:=⟨1,s,0,0,false⟩
def qnK:TokC:=⟨6,[46],0,0,false⟩
def psC:TokC:=⟨7,[61,61],0,0,false⟩
def qCs:TokC:=⟨2,[53],0,0,false⟩
def qCn(s:Str):TokC:=⟨3,s,0,0,false⟩
def plainC:List TokC:=[wd [65],wd [66],wd [67],wd BY,qCs,qCn [65],qnK,⟨5,[40],0,0,false⟩]
def pairsC:List (List TokC):=[
 [wd [65],wd BY,wd [66]],
 [wd [66],wd BY,wd [65],wd [65],wd BY,wd [67]],
 [psC,wd [65],wd [66],psC,wd BY,psC,psC],
 [psC,wd [65],psC,wd BY,psC,wd [65],wd [65],psC],
 [qCs,wd BY,psC,wd COPY,wd [77,49],qnK,psC],
 [psC,qnK,psC,wd BY,qCn [88],psC,wd [67],psC,wd BY,wd [67]]]
def qhI(n:Nat):Str:=if n=255 then[77,57]else[77,KD (48+n%8)]
def XN(n:Nat):List TokC:=
 if n<160 then[plainC.getD (n%8) noT]
 else wd COPY::wd (qhI n)::((if 200<=n then wd ZL::pairsC.getD (n%6) []else[])++(if n=254 then[]else[qnK]))
def XI(ns:List Nat):List TokC:=ns.flatMap XN
theorem UE(n:Nat)(ns:List Nat):XI (n::ns)=XN n++XI ns:=List.flatMap_cons
theorem qcz(a b:List Nat):XI (a++b)=XI a++XI b:=List.flatMap_append
def qpM(t:TokC):Bool:=(decide (t.kind=1) && [[65],[66],[67],BY].contains t.text)||(decide (t.kind=2) && decide (t.text=[53]))||(decide (t.kind=3) && decide (t.text=[65]))
def W:Nat->TokC->Nat
 |0,_=>1
 |j+1,t=>if qpM t=true then 3*2^j else 1
def Phi(j:Nat)(l:List TokC):Nat:=(l.map (W j)).sum
theorem qAY(j:Nat)(t:TokC):1<=W j t:=by
 cases j with
 |zero=>exact KL _
 |succ j=>
  simp only[W];split
  ·have:=Ec (n:=j);omega
  ·exact KL _
theorem qDg(j:Nat)(t:TokC):W j t<=W (j+1) t:=by
 cases j with
 |zero=>exact qAY 1 t
 |succ j=>
  simp only[W];split
  ·have:2^(j+1)=2*2^j:=by rw[Ed,Ee]
   omega
  ·exact KL _
theorem qeI(j:Nat):Phi j []=0:=rfl
theorem qaz(j:Nat)(t:TokC)(l:List TokC):Phi j (t::l)=W j t+Phi j l:=by simp[Phi]
theorem qeK(j:Nat)(a b:List TokC):Phi j (a++b)=Phi j a+Phi j b:=by simp[Phi]
theorem qeJ(j:Nat):∀l:List TokC,l.length<=Phi j l
 |[]=>KL _
 |t::l=>by
  rw[qaz,KY];have:=qeJ j l;have:=qAY j t;omega
theorem qrs:∀l:List TokC,Phi 0 l=l.length
 |[]=>rfl
 |t::l=>by rw[qaz,qrs l,KY];simp only[W];omega
theorem qAF(j:Nat){a b:TokC}(h1:a.kind=b.kind)(h2:a.text=b.text):W j a=W j b:=by
 cases j with
 |zero=>rfl
 |succ j=>
  have e:qpM a=qpM b:=by unfold qpM;rw[h1,h2]
  simp only[W,e]
theorem qnu(j:Nat):∀{a b:List TokC},alike a b=true->Phi j a=Phi j b
 |[],[],_=>rfl
 |[],_::_,h=>by cases h
 |_::_,[],h=>by cases h
 |x::a,y::b,h=>by
  simp only[alike,Ky,decide_eq_true_eq]at h;rw[qaz,qaz,qAF j h.1.1 h.1.2,qnu j h.2]
def RS(x:RepC):Prop:=∀j,Phi j x.new<=Phi (j+1) x.old
theorem qki{r:List RepC}(hr:∀x∈r,x.old≠[])(hs:∀x∈r,RS x)(j:Nat):∀(n:Nat) (l:List TokC),l.length<=n->Phi j (WL r l)<=Phi (j+1) l
 |0,l,h=>by rw[Kg (by omega:l.length=0)];exact Jt _
 |n+1,l,h=>by
  cases hl:l with
  |nil=>exact Jt _
  |cons t l'=>
   rw[<-hl];have hpos:0<l.length:=by rw[hl];simp
   have hst:=qgb hr hpos;rw[KQ]at hst;rw[hst];cases hq:r.find? (fun x=>Yb l x.old)with
   |none=>
    simp only[Js];have e:=qgp noT hpos;rw[KQ,Js]at e;conv=>rhs;rw[e]
    rw[qaz,qaz];have:=qki hr hs j n (l.drop 1) (by simp;omega);have:=qDg j (l.getD 0 noT);omega
   |some x=>
    simp only[Js];have hm:=BU hq;have hf:=Ef hq;have hf':Yb l x.old=true:=hf;unfold Yb at hf';simp only[Ky,decide_eq_true_eq]at hf';have hx:0<x.old.length:=BS.2 (hr x hm);conv=>rhs;rw[<-Bq x.old.length l]
    rw[qeK,qeK,<-qnu (j+1) hf'.2];have:=qki hr hs j n (l.drop x.old.length) (by simp;omega);have:=hs x hm j;omega
def qav(l:List TokC):Nat:=(l.filter qpM).length
def qdj(l:List TokC):Nat:=(l.filter (fun t=> !qpM t)).length
def RSb(x:RepC):Bool:=decide (qav x.new<=2*qav x.old) && (decide (qdj x.new<=qdj x.old+3*(2*qav x.old-qav x.new)) && decide (qav x.new+qdj x.new<=3*qav x.old+qdj x.old))
theorem qkj(j:Nat):∀l:List TokC,Phi (j+1) l=3*2^j*qav l+qdj l
 |[]=>rfl
 |t::l=>by
  rw[qaz,qkj j l];unfold qav qdj;simp only[W];by_cases h:qpM t=true
  ·rw[if_pos h,Eg h,Eh (by simp[h]),KY,Nat.mul_succ]
   omega
  ·rw[if_neg h,Eh h,Eg (by simpa using h),KY]
   omega
theorem qtr:∀l:List TokC,l.length=qav l+qdj l
 |[]=>rfl
 |t::l=>by
  have:=qtr l;unfold qav qdj at*
  by_cases h:qpM t=true
  ·rw[Eg h,Eh (by simp[h]),KY,KY]
   omega
  ·rw[Eh h,Eg (by simpa using h),KY,KY]
   omega
theorem qyW{x:RepC}(h:RSb x=true):RS x:=by
 unfold RSb at h;simp only[Ky,decide_eq_true_eq]at h;obtain⟨h1,h2,h3⟩:=h;intro j;cases j with
 |zero=>
  rw[qrs,qkj,qtr];simp only[Nat.pow_zero,BK];omega
 |succ j=>
  rw[qkj,qkj];have e:2^(j+1)=2*2^j:=by rw[Ed,Ee]
  rw[e];obtain⟨p,hp⟩:∃p,p=2^j:=⟨_,rfl⟩
  have hp1:1<=p:=by rw[hp];exact Ec
  rw[<-hp];obtain⟨a,ha⟩:∃a,2*qav x.old=qav x.new+a:=⟨2*qav x.old-qav x.new,by omega⟩
  have e2:3*(2*p)*qav x.old=3*p*qav x.new+3*p*a:=by
   rw[<-Nat.mul_add,<-ha];rw[show 3*(2*p)=3*p*2 by omega,Ei]
  rw[e2];have h4:qdj x.new<=qdj x.old+3*a:=by omega
  have h5:3*a<=3*p*a:=by
   have:a<=p*a:=Nat.le_mul_of_pos_left _ hp1;rw[Ei];omega
  omega
def qAJ(n:Nat):Bool:=let s:=Qn (XN n) 1;s.ok && (decide (s.at_=(XN n).length) && s.reps.all RSb)
theorem quS:∀k:Fin 96,qAJ (160+k.val)=true\/k.val=94:=by decide+kernel
theorem quT{n:Nat}(h1:160<=n)(h2:n<256)(h3:n≠254):(Qn (XN n) 1).ok=true/\(Qn (XN n) 1).at_=(XN n).length/\∀x∈(Qn (XN n) 1).reps,RS x:=by
 have:=quS ⟨n-160,by omega⟩;simp only at this;rcases this with h|h
 ·rw[show 160+(n-160)=n by omega]at h
  unfold qAJ at h;simp only[Ky,decide_eq_true_eq,JD]at h;exact⟨h.1,h.2.1,fun x hx=>qyW (h.2.2 x hx)⟩
 ·omega
theorem qtl{t:TokC}{R:List TokC}{e:Bool}(h7:t.kind≠7)(ok:(Qd (t::R) 0 e).ok=true):Qd (t::R) 0 e=⟨true,0,1,1⟩/\(t.kind=1\/t.kind=2\/t.kind=3):=by
 have h2:Xc (t::R) 0 [7]=false:=by
  unfold Xc;simp[h7]
 unfold Qd at ok|-
 split at ok
 ·rename_i h1
  rw[if_pos h1];refine⟨rfl,?_⟩;unfold Xc at h1;simpa using h1
 ·cases ok
theorem qba{n:Nat}(h:n<160):XN n=[plainC.getD (n%8) noT]:=by
 unfold XN;rw[if_pos h]
theorem qbJ{n:Nat}(h:160<=n):∃t r,XN n=wd COPY::wd (qhI n)::t::r/\(t=qnK\/t=wd ZL):=by
 unfold XN;rw[if_neg (by omega)];by_cases h2:200<=n
 ·rw[if_pos h2]
  exact⟨_,_,rfl, .inr rfl⟩
 ·rw[if_neg h2,if_neg (by omega)]
  exact⟨_,_,rfl, .inl rfl⟩
theorem qrF(k:Nat):(plainC.getD (k%8) noT).kind≠7/\((plainC.getD (k%8) noT).kind=6↔k%8=6):=by
 have:k%8=0\/k%8=1\/k%8=2\/k%8=3\/k%8=4\/k%8=5\/k%8=6\/k%8=7:=by omega
 rcases this with h|h|h|h|h|h|h|h<;>rw[h]<;>decide
theorem qgV(n:Nat):∃t r,XN n=t::r/\t.kind≠7:=by
 by_cases h:n<160
 ·exact⟨_,_,qba h,(qrF n).1⟩
 ·obtain⟨t,r,e,_⟩:=qbJ (show 160<=n by omega)
  exact⟨_,_,e,by decide⟩
theorem qvs:∀i j:Fin 8,((plainC.getD i.val noT).kind=1\/(plainC.getD i.val noT).kind=2\/(plainC.getD i.val noT).kind=3)->RSb ⟨[plainC.getD i.val noT],[plainC.getD j.val noT]⟩=true:=by decide+kernel
theorem qzD(n:Nat):qhI n≠BY:=by
 unfold qhI;split
 ·decide
 ·intro h
  have:=(List.cons.inj h).1;revert this;decide
theorem qmz{t:TokC}{R:List TokC}(h7:t.kind≠7)(ok:(XO (t::R) 0).ok=true):(t.kind=1\/t.kind=2\/t.kind=3)/\XH R 0 BY=true/\(Qd R 1 true).ok=true/\XO (t::R) 0=⟨true,⟨[t],ZT R (Qd R 1 true).lo (Qd R 1 true).hi⟩,1+(Qd R 1 true).at_⟩:=by
 have hok:(Qd (t::R) 0 false).ok=true:=by
  unfold XO at ok;simp only at ok;split at ok
  ·cases ok
  ·rename_i h;simpa using h
 obtain⟨e1,e2⟩:=qtl h7 hok;unfold XO at ok|-
 simp only[e1]at ok|-
 rw[if_neg (by simp)]at ok|-
 have hw:=qdU [t] R 0 BY;have ho:=qbA [t] R 1 true;simp only[KY,J9,Js,K7,Kh,Je,Nat.reduceAdd]at hw ho;rw[hw]at ok|-
 simp only[Nat.reduceAdd]at ok|-
 rw[ho]at ok|-
 by_cases h:XH R 0 BY=true
 ·rw[if_neg (by simp[h])]at ok|-
  by_cases h3:(Qd R 1 true).ok=true
  ·rw[if_pos h3]
   refine⟨e2,h,h3,?_⟩;simp only;have hc:=qnf [t] R (Qd R 1 true).lo (Qd R 1 true).hi;simp only[KY,J9,Js,Kh,Je]at hc;rw[hc];rfl
  ·rw[if_neg h3]at ok
   simp at ok
 ·rw[if_pos (by simpa using h)]at ok
  simp at ok
theorem qvU{ns:List Nat}{s:Str}(h:XH (XI ns) 0 s=true):∃n ns',ns=n::ns':=by
 cases ns with
 |nil=>have:=UC h;simp[XI]at this
 |cons n ns=>exact⟨n,ns,rfl⟩
theorem qeU(t:TokC)(R:List TokC)(s:Str):XH (t::R) 0 s=(decide (t.kind=1) && decide (t.text=s)):=by
 unfold XH Xc;simp
theorem qju(t:TokC)(R:List TokC)(k:UInt8):Xc (t::R) 0 [k]=decide (t.kind=k):=by
 unfold Xc;simp
theorem qmw:∀(k:Nat) (ns:List Nat) (f:Nat) (acc:List RepC),ns.length<=k->(XI ns).length+1<=f->(∀x∈acc,RS x)->(XB (XI ns) f 0 false acc).ok=true->Xc (XI ns) (XB (XI ns) f 0 false acc).at_ [6]=true->
 ∃m,m<=ns.length/\(XB (XI ns) f 0 false acc).at_+1=(XI (ns.take m)).length/\∀x∈(XB (XI ns) f 0 false acc).reps,RS x
 |k,[],f,acc,_,hf,_,_,h6=>by
  have h1:=Yw h6;simp[XI]at h1
 |0,n::ns,f,acc,hk,_,_,_,_=>by simp at hk
 |k+1,n::ns,0,acc,_,hf,_,_,_=>by omega
 |k+1,n::ns,f+1,acc,hk,hf,ha,ok,h6=>by
  simp only[KY]at hk;obtain⟨t,r,ht,h7⟩:=qgV n;have hL:XI (n::ns)=t::(r++XI ns):=by rw[UE,ht,Kh]
  rw[hL]at hf ok h6|-
  rw[XB]at ok h6|-
  rw[qju]at ok h6|-
  by_cases hk6:t.kind=6
  ·rw[if_neg (by simp[hk6])]at ok h6|-
   have hn:n<160:=by
    by_cases h:n<160
    ·exact h
    ·obtain⟨t',r',e,_⟩:=qbJ (show 160<=n by omega)
     rw[e]at ht;cases ht;exact absurd hk6 (by decide)
   refine⟨1,by simp,?_,ha⟩;simp only[Ki,V8,UE,qba hn];rfl
  ·have hcond:(false=true\/(0<(t::(r++XI ns)).length/\decide (t.kind=6)=false)):= .inr ⟨by simp,by simpa using hk6⟩
   rw[if_pos hcond]at ok h6|-
   simp only at ok h6|-
   have hok:(XO (t::(r++XI ns)) 0).ok=true:=by
    by_cases q:(XO (t::(r++XI ns)) 0).ok=true
    ·exact q
    ·rw[if_pos (by simpa using q)]at ok
     cases ok
   rw[if_neg (by simp[hok])]at ok h6|-
   obtain⟨p1,p2,p3,p4⟩:=qmz h7 hok;by_cases hn:n<160
   ·have e:=qba hn
    rw[ht]at e;obtain⟨rfl,rfl⟩:=List.cons.inj e;rw[Je]at*
    obtain⟨n2,ns2,rfl⟩:=qvU p2;obtain⟨t2,r2,ht2,_⟩:=qgV n2;rw[UE,ht2,Kh,qeU]at p2;simp only[Ky,decide_eq_true_eq]at p2;have hn2:n2<160:=by
     by_cases h:n2<160
     ·exact h
     ·obtain⟨t',r',e',_⟩:=qbJ (show 160<=n2 by omega)
      rw[e']at ht2;cases ht2;exact absurd p2.2 (by decide)
    have e2:=qba hn2;rw[ht2]at e2;obtain⟨rfl,rfl⟩:=List.cons.inj e2;have hR:XI (n2::ns2)=[plainC.getD (n2%8) noT]++XI ns2:=by rw[UE,ht2]
    have ho:=qbA [plainC.getD (n2%8) noT] (XI ns2) 0 true;simp only[KY,J9,Js,K7]at ho;rw[hR]at p3 p4 hok ok h6 hf|-
    rw[ho]at p3 p4;have p3':(Qd (XI ns2) 0 true).ok=true:=by
     by_cases q:(Qd (XI ns2) 0 true).ok=true
     ·exact q
     ·rw[if_neg q]at p3
      cases p3
    rw[if_pos p3']at p4;cases ns2 with
    |nil=>
     exfalso;revert p3';decide
    |cons n3 ns3=>
     obtain⟨t3,r3,ht3,h73⟩:=qgV n3;have hR3:XI (n3::ns3)=t3::(r3++XI ns3):=by rw[UE,ht3,Kh]
     rw[hR3]at p3' p4 hok ok h6 hf|-
     obtain⟨o1,o2⟩:=qtl h73 p3';rw[o1]at p4;simp only[Nat.reduceAdd]at p4;have hrep:(XO (plainC.getD (n%8) noT::([plainC.getD (n2%8) noT]++t3::(r3++XI ns3))) 0).rep=⟨[plainC.getD (n%8) noT],[t3]⟩:=by rw[p4];rfl
     have hat:(XO (plainC.getD (n%8) noT::([plainC.getD (n2%8) noT]++t3::(r3++XI ns3))) 0).at_=3:=by rw[p4]
     rw[hrep,hat]at ok h6|-
     have i8:n%8<8:=Nat.mod_lt _ (by decide);have hsh:=fun acc'=>qcW [plainC.getD (n%8) noT,plainC.getD (n2%8) noT,t3] (r3++XI ns3) f 0 false acc';simp only[KY,J9,Js,K7,Nat.reduceAdd,Kh,Je]at hsh ok h6 hf|-
     rw[hsh]at ok h6|-
     have hks:=WG [plainC.getD (n%8) noT,plainC.getD (n2%8) noT,t3] (r3++XI ns3) (XB (r3++XI ns3) f 0 false (acc++[⟨[plainC.getD (n%8) noT],[t3]⟩])).at_ [6];simp only[KY,J9,Js,Nat.reduceAdd,Kh,Je]at hks;simp only at ok h6|-
     rw[hks]at h6;by_cases hn3:n3<160
     ·have e3:=qba hn3
      rw[ht3]at e3;obtain⟨rfl,rfl⟩:=List.cons.inj e3;rw[Je]at*
      have j8:n3%8<8:=Nat.mod_lt _ (by decide);have hrs:RS ⟨[plainC.getD (n%8) noT],[plainC.getD (n3%8) noT]⟩:=qyW (qvs ⟨n%8,i8⟩ ⟨n3%8,j8⟩ p1);obtain⟨m,m1,m2,m3⟩:=qmw k ns3 f (acc++[⟨[plainC.getD (n%8) noT],[plainC.getD (n3%8) noT]⟩]) (by simp only[KY]at hk;omega) (by omega) (fun x hx=>by
       rcases JJ.1 hx with hx|hx
       ·exact ha x hx
       ·rw[BG.1 hx];exact hrs) ok h6
      refine⟨m+3,by omega,?_,m3⟩;simp only[Ki,UE,qba hn,qba hn2,qba hn3,Jc,KY,J9];omega
     ·exfalso
      obtain⟨t',r',e',ht'⟩:=qbJ (show 160<=n3 by omega);rw[ht3]at e';obtain⟨_,rfl⟩:=List.cons.inj e';rw[Kh]at ok;have hfpos:∃f',f=f'+1:=by
       refine⟨f-1,?_⟩;omega
      obtain⟨f',rfl⟩:=hfpos;rw[XB]at ok;rw[qju,if_pos (.inr ⟨by simp,show decide ((1:UInt8)=6)=false by decide⟩)]at ok;simp only at ok;have hno:(XO (wd (qhI n3)::(t'::r'++XI ns3)) 0).ok=false:=by
       cases hq:(XO (wd (qhI n3)::(t'::r'++XI ns3)) 0).ok with
       |false=>rfl
       |true=>
        obtain⟨_,q2,_⟩:=qmz (by show(1:UInt8)≠7;decide) hq;rw[Kh,qeU]at q2;rcases ht' with rfl|rfl
        ·revert q2;decide
        ·revert q2;decide
      rw[if_pos hno]at ok;cases ok
   ·exfalso
    obtain⟨t',r',e',_⟩:=qbJ (show 160<=n by omega);rw[ht]at e';obtain⟨_,rfl⟩:=List.cons.inj e';rw[Kh,qeU]at p2;simp only[Ky,decide_eq_true_eq]at p2;exact qzD n p2.2
theorem qyo:(XO (XN 254) 3).ok=true/\(XO (XN 254) 3).at_=10/\RSb (XO (XN 254) 3).rep=true/\(XN 254).length=10/\Xc (XN 254) 1 [1,3]=true/\XH (XN 254) 2 ZL=true:=by decide+kernel
theorem qta{n:Nat}{ns:List Nat}(h1:160<=n)(h2:n<256)(ok:(Qn (XN n++XI ns) 1).ok=true):
 ∃m,m<=ns.length/\(Qn (XN n++XI ns) 1).at_=(XN n++XI (ns.take m)).length/\∀x∈(Qn (XN n++XI ns) 1).reps,RS x:=by
 by_cases h3:n=254
 ·subst h3
  obtain⟨c1,c2,c3,c4,c5,c6⟩:=qyo;have hlen:(XN 254++XI ns).length=10+(XI ns).length:=by rw[Jc,c4]
  have k1:Xc (XN 254++XI ns) 1 [1,3]=true:=by rw[YW (by rw[c4];decide)];exact c5
  have k2:XH (XN 254++XI ns) (1+1) ZL=true:=by rw[qca (by rw[c4];decide)];exact c6
  unfold Qn at ok|-
  rw[if_neg (by rw[k1];simp),if_pos k2,hlen]at ok|-
  have hp:XO (XN 254++XI ns) 3=XO (XN 254) 3:=qkL (by rw[c4];decide) c1;have hrun:XB (XN 254++XI ns) (10+(XI ns).length+2) (1+2) true []=⟨(XB (XI ns) (10+(XI ns).length+1) 0 false [(XO (XN 254) 3).rep]).ok,(XB (XI ns) (10+(XI ns).length+1) 0 false [(XO (XN 254) 3).rep]).reps,10+(XB (XI ns) (10+(XI ns).length+1) 0 false [(XO (XN 254) 3).rep]).at_⟩:=by
   rw[XB,if_pos (.inl rfl)];simp only[Nat.reduceAdd];rw[hp,if_neg (by rw[c1];simp),c2,Je];have:=qcW (XN 254) (XI ns) (10+(XI ns).length+1) 0 false [(XO (XN 254) 3).rep];rw[c4]at this;exact this
  rw[hrun]at ok|-
  obtain⟨p,hpp⟩:∃p,p=XB (XI ns) (10+(XI ns).length+1) 0 false [(XO (XN 254) 3).rep]:=⟨_,rfl⟩
  rw[<-hpp]at ok|-
  unfold Ze at ok|-
  simp only at ok|-
  by_cases g1:p.ok=true
  ·rw[if_neg (by simp[g1])]at ok|-
   have hks:=WG (XN 254) (XI ns) p.at_ [6];rw[c4]at hks;rw[hks]at ok|-
   by_cases g2:Xc (XI ns) p.at_ [6]=true
   ·rw[if_neg (by simp[g2])]at ok|-
    obtain⟨m,m1,m2,m3⟩:=qmw ns.length ns (10+(XI ns).length+1) [(XO (XN 254) 3).rep] (KL _) (by omega) (fun x hx=>by rw[BG.1 hx];exact qyW c3) (by rw[<-hpp];exact g1) (by rw[<-hpp];exact g2);rw[<-hpp]at m2 m3;refine⟨m,m1,?_,m3⟩;simp only;rw[Jc,c4,<-m2];omega
   ·rw[if_pos (by simpa using g2)]at ok
    cases ok
  ·rw[if_pos (by simpa using g1)]at ok
   cases ok
 ·obtain⟨s1,s2,s3⟩:=quT h1 h2 h3
  have hl:1<=(XN n).length:=by
   obtain⟨t,r,e,_⟩:=qbJ h1;rw[e];simp
  have e:=qjK (c:=XN n) (b:=XI ns) hl s1;rw[e];exact⟨0,Jt _,by rw[s2];simp[XI],s3⟩
def strip(t:TokC):TokC:=⟨t.kind,t.text,0,0,false⟩
section
variable (l:List TokC)
theorem qli(i:Nat):(l.map strip).getD i noT=strip (l.getD i noT):=by
 simp only[Ko,Ej];cases l[i]?<;>rfl
theorem qan(i:Nat)(ks:List UInt8):Xc (l.map strip) i ks=Xc l i ks:=by
 unfold Xc;rw[qli,Jp];rfl
theorem qhe(i:Nat)(s:Str):XH (l.map strip) i s=XH l i s:=by
 unfold XH;rw[qli,qan];rfl
theorem qjN(i:Nat):Xh (l.map strip) i=Xh l i:=by
 unfold Xh;rw[<-El,Em,Jp];rfl
theorem qij(i:Nat):Xm (l.map strip) i=Xm l i:=by
 unfold Xm;rw[<-El,Em,Jp];rfl
theorem quM(i j:Nat):ZT (l.map strip) i j=(ZT l i j).map strip:=by
 unfold ZT;rw[<-El,<-En]
theorem qmh(i:Nat)(e:Bool):Qd (l.map strip) i e=Qd l i e:=by
 unfold Qd;rw[qan,qan,qjN,Jp]
def stripR(x:RepC):RepC:=⟨x.old.map strip,x.new.map strip⟩
theorem qrH(i:Nat):XO (l.map strip) i=⟨(XO l i).ok,stripR (XO l i).rep,(XO l i).at_⟩:=by
 unfold XO;simp only[qmh,qhe,quM];split
 ·rfl
 ·split<;>rfl
theorem qjm:∀(f i:Nat) (first:Bool) (acc:List RepC),XB (l.map strip) f i first (acc.map stripR)=⟨(XB l f i first acc).ok,(XB l f i first acc).reps.map stripR,(XB l f i first acc).at_⟩
 |0,i,first,acc=>rfl
 |f+1,i,first,acc=>by
  rw[XB,XB];simp only[qan,Jp,qrH];split
  ·split
   ·rfl
   ·have:=qjm f (XO l i).at_ false (acc++[(XO l i).rep])
    rw[Bd]at this;exact this
  ·rfl
theorem qeM(i:Nat):(Qn (l.map strip) i).ok=(Qn l i).ok/\(Qn (l.map strip) i).at_=(Qn l i).at_/\(Qn (l.map strip) i).reps=(Qn l i).reps.map stripR:=by
 have key:∀(n n':TokC) (p:Pairs),(Ze (l.map strip) n' ⟨p.ok,p.reps.map stripR,p.at_⟩).ok=(Ze l n p).ok/\(Ze (l.map strip) n' ⟨p.ok,p.reps.map stripR,p.at_⟩).at_=(Ze l n p).at_/\(Ze (l.map strip) n' ⟨p.ok,p.reps.map stripR,p.at_⟩).reps=(Ze l n p).reps.map stripR:=by
  intro n n' p;unfold Ze;simp only[qan];split
  ·exact⟨rfl,rfl,rfl⟩
  ·split
   ·exact⟨rfl,rfl,rfl⟩
   ·exact⟨rfl,rfl,rfl⟩
 unfold Qn;rw[qan];split
 ·exact⟨rfl,rfl,rfl⟩
 ·rw[qhe,Jp]
  split
  ·have:=qjm l (l.length+2) (i+2) true []
   rw[Vk]at this;rw[this];exact key _ _ _
  ·exact key _ _ ⟨true,[],i+1⟩
theorem qvt(j:Nat):Phi j (l.map strip)=Phi j l:=by
 induction l with
 |nil=>rfl
 |cons t l ih=>rw[Ke,qaz,qaz,ih];cases j<;>rfl
end
theorem qrr{x:RepC}(h:RS (stripR x)):RS x:=fun j=>by
 have:=h j;unfold stripR at this;simp only[qvt]at this;exact this
def X:Nat->Nat
 |0=>6144
 |1=>768
 |2=>96
 |_=>12
def Y:Nat->Nat
 |0=>73
 |1=>9
 |2=>1
 |_=>0
theorem X_W(k:Nat)(hk:k<=3)(t:TokC):W k t<=X k:=by
 rcases(by omega:k=0\/k=1\/k=2\/k=3)with rfl|rfl|rfl|rfl<;>simp only[W,X]<;>first|omega|(split<;>omega)
theorem qsR{k:Nat}(hk:k<3):X k=8*X (k+1)/\Y k=1+8*Y (k+1)/\X k<=6144:=by
 rcases(by omega:k=0\/k=1\/k=2)with rfl|rfl|rfl<;>decide
theorem qkk{k:Nat}(hk:k<=3):∀l:List TokC,Phi k l<=l.length*X k
 |[]=>Jt _
 |t::l=>by
  rw[qaz,KY,VB];have:=qkk hk l;have:=X_W k hk t;omega
structure Lib(mem:List MemC):Prop where
 few:∀op:List Str,op.Nodup->(∀x∈op,UJ mem x≠none)->op.length<=3
 raw:∀n m,UJ mem n=some m->∃ns,m.toks.map strip=XI ns/\ns.length<=8/\∀n∈ns,n<256
theorem qiD:∀(ns:List Nat),(∀n∈ns,n<160)\/∃ps n rest,ns=ps++n::rest/\(∀p∈ps,p<160)/\160<=n
 |[]=> .inl (fun n hn=>by cases hn)
 |n::ns=>by
  by_cases h:n<160
  ·rcases qiD ns with q|⟨ps,m,rest,rfl,q1,q2⟩
   ·left
    intro x hx;rcases KX.1 hx with rfl|hx
    ·exact h
    ·exact q x hx
   ·right
    refine⟨n::ps,m,rest,rfl,?_,q2⟩;intro x hx;rcases KX.1 hx with rfl|hx
    ·exact h
    ·exact q1 x hx
  ·exact .inr ⟨[],n,ns,rfl,(fun p hp=>by cases hp),by omega⟩
theorem qdw:∀{ps:List Nat},(∀p∈ps,p<160)->(XI ps).length=ps.length/\qsW (XI ps)
 |[],_=>⟨rfl,fun t ht=>by cases ht⟩
 |p::ps,h=>by
  obtain⟨h1,h2⟩:=qdw (ps:=ps) fun x hx=>h x (Jg _ hx);have e:=qba (h p Jf);rw[UE,e];refine⟨by simp[h1],fun t ht=>?_⟩;rcases JJ.1 ht with ht|ht
  ·rw[BG.1 ht]
   have:p%8=0\/p%8=1\/p%8=2\/p%8=3\/p%8=4\/p%8=5\/p%8=6\/p%8=7:=by omega
   rcases this with q|q|q|q|q|q|q|q<;>rw[q]<;>decide
  ·exact h2 t ht
theorem qlp{a b:List TokC}(ha:qsW a):Xm (a++b) 0=a.length+Xm b 0:=by
 unfold Xm;simp only[KQ,Js];induction a with
 |nil=>simp
 |cons t a ih=>
  have h1:=ha t Jf;unfold qiJ at h1;rw[Kh,BZ,if_pos (by rw[h1];rfl),KY,ih (fun x hx=>ha x (Jg _ hx)),KY];omega
theorem qjC{t:TokC}{b:List TokC}(h:qiJ t=true):Xm (t::b) 0=0:=by
 unfold Xm;unfold qiJ at h;rw[KQ,BZ,if_neg (by rw[h];simp)];rfl
section
variable {mem:List MemC} (hL:Lib mem)
include hL
theorem run_go{op:List Str}{recT recF:List TokC->List Str->Xs->Xr}(hk:op.length<=3)(hnd:op.Nodup)(hop:∀x∈op,UJ mem x≠none)
 (hrec:op.length<3->∀n m ns st,n∉op->UJ mem n=some m->m.toks.map strip=XI ns->ns.length<=8->(∀n∈ns,n<256)->st.copies+ns.length*Y (op.length+1)<=4096->
   recT m.toks (op++[n]) st=recF m.toks (op++[n]) st/\∀o s,recF m.toks (op++[n]) st= .ok o s->Phi (op.length+1) o<=ns.length*X (op.length+1)/\s.copies<=st.copies+ns.length*Y (op.length+1)):
 ∀(k:Nat) (a b:List TokC) (ns:List Nat) (f:Nat) (out:List TokC) (st:Xs),ns.length<=k->b.map strip=XI ns->(∀n∈ns,n<256)->b.length<f->st.copies+ns.length*Y op.length<=4096->Phi op.length out+ns.length*X op.length<=65536->
  UI true mem op recT (a++b) f a.length out st=UI false mem op recF (a++b) f a.length out st/\∀o s,UI false mem op recF (a++b) f a.length out st= .ok o s->Phi op.length o<=Phi op.length out+ns.length*X op.length/\s.copies<=st.copies+ns.length*Y op.length:=by
 intro k;induction k with
 |zero=>
  intro a b ns f out st hn hb _ hf _ _;obtain rfl:ns=[]:=Kg (by omega);obtain rfl:b=[]:=by
   have:=congrArg BR hb;exact Kg (by simpa[XI]using this)
  obtain⟨f,rfl⟩:∃f',f=f'+1:=⟨f-1,by simp at hf;omega⟩
  rw[Bg,UI,UI];obtain⟨c1,c2⟩:=qap (l:=a) (i:=a.length) (KL _);simp only;rw[if_pos c1,if_pos c1];refine⟨rfl,fun o s h=>?_⟩;cases h;simp
 |succ k ih=>
  intro a b ns f out st hn hb h256 hf hc hp;obtain⟨f,rfl⟩:∃f',f=f'+1:=⟨f-1,by omega⟩
  rw[UI,UI];have hcs:=qik a b 0;rw[K7]at hcs;have hbs:Xm b 0=Xm (XI ns) 0:=by rw[<-hb,qij]
  have hlen:b.length=(XI ns).length:=by rw[<-hb,Jp]
  simp only[hcs,hbs];rcases qiD ns with hpl|⟨ps,n,rest,rfl,hps,hn1⟩
  ·obtain⟨q1,q2⟩:=qdw hpl
   have e:=qmE q2;have hend:(a++b).length<=a.length+Xm (XI ns) 0:=by rw[e,Jc,hlen];exact KL _
   rw[if_pos hend,if_pos hend];refine⟨rfl,fun o s h=>?_⟩;cases h;have hd:(a++b).drop a.length=b:=by simp
   rw[hd,qeK];have:=qkk hk b;rw[hlen,q1]at this;exact⟨by omega,by omega⟩
  ·obtain⟨q1,q2⟩:=qdw hps
   obtain⟨t1,r1,et,_⟩:=qbJ hn1;have hraw:XI (ps++n::rest)=XI ps++(XN n++XI rest):=by rw[qcz,UE]
   have hcopy:Xm (XI (ps++n::rest)) 0=ps.length:=by
    rw[hraw,qlp q2,et,Kh,qjC (by rfl),q1];omega
   rw[hcopy];have hn2:n<256:=h256 n (by simp);have hblen:b.length=ps.length+((XN n).length+(XI rest).length):=by rw[hlen,hraw,Jc,Jc,q1]
   have hcl:3<=(XN n).length:=by rw[et];simp
   have hnot:¬(a++b).length<=a.length+ps.length:=by rw[Jc];omega
   rw[if_neg hnot,if_neg hnot];have hst:=qaA a b (ps.length+1) (by omega);rw[<-Kw]at hst;rw[hst];obtain⟨s1,s2,s3⟩:=qeM b (ps.length+1);rw[hb,hraw]at s1 s2 s3;have hss:=qaA (XI ps) (XN n++XI rest) 1 (by rw[Jc];omega);rw[q1]at hss;rw[hss]at s1 s2 s3;simp only at s1 s2 s3|-
   obtain⟨S,hS⟩:∃S,S=Qn b (ps.length+1):=⟨_,rfl⟩
   rw[<-hS]at s1 s2 s3|-
   by_cases hno:S.ok=false
   ·rw[if_pos hno,if_pos hno]
    exact⟨rfl,fun o s h=>by cases h⟩
   ·have hok:S.ok=true:=by simpa using hno
    clear hno;rw[if_neg (by simp[hok]),if_neg (by simp[hok])];obtain⟨m,m1,m2,m3⟩:=qta hn1 hn2 (by rw[s1];exact hok);have hrs:∀x∈S.reps,RS x:=fun x hx=>qrr (m3 _ (by rw[s3];exact List.mem_map_of_mem hx));have hold:∀x∈S.reps,x.old≠[]:=by
     obtain⟨_,_,_,q⟩:=Ul (l:=b) (i:=ps.length+1) (by omega);rw[<-hS]at q;exact q
    simp only[Jc,KY]at hn hc hp|-
    have hY:(ps.length+(rest.length+1))*Y op.length=ps.length*Y op.length+(rest.length*Y op.length+Y op.length):=by rw[Nat.add_mul,VB]
    have hX:(ps.length+(rest.length+1))*X op.length=ps.length*X op.length+(rest.length*X op.length+X op.length):=by rw[Nat.add_mul,VB]
    rw[hY]at hc;rw[hX]at hp;rw[hX,hY];have hmem:WT true mem op recT ⟨S.ok,S.name,S.reps,a.length+S.at_⟩ st=WT false mem op recF ⟨S.ok,S.name,S.reps,a.length+S.at_⟩ st/\∀o s,WT false mem op recF ⟨S.ok,S.name,S.reps,a.length+S.at_⟩ st= .ok o s->Phi op.length o<=X op.length/\s.copies<=st.copies+Y op.length:=by
     unfold WT;simp only;cases hfi:mem.find? (fun m=>decide (m.name=S.name.text))with
     |none=>exact⟨rfl,fun o s h=>by cases h⟩
     |some mm=>
      simp only;by_cases hcon:op.contains S.name.text=true
      ·rw[if_pos hcon,if_pos hcon]
       exact⟨rfl,fun o s h=>by cases h⟩
      ·have hnm:S.name.text∉op:=fun q=>hcon (by simpa using q)
       have hk3:op.length<3:=by
        have:=hL.few (op++[S.name.text]) (Eo.2 ⟨hnd,by simp,fun x hx y hy e=>by
         rw[BG.1 hy]at e;exact hnm (e ▸ hx)⟩) (fun x hx=>by
         rcases JJ.1 hx with hx|hx
         ·exact hop x hx
         ·rw[BG.1 hx]
          intro q;unfold UJ at q;rw[hfi]at q;cases q)
        simp at this;omega
       obtain⟨x1,x2,x3⟩:=qsR hk3;have hno:¬(8<=op.length\/(True/\4096<st.copies+1)):=by
        rintro(q|⟨_,q⟩)
        ·omega
        ·omega
       have hno':¬(8<=op.length\/(false=true/\4096<st.copies+1)):=by
        rintro(q|⟨q,_⟩)
        ·omega
        ·cases q
       rw[if_neg hcon,if_neg hcon,if_neg hno,if_neg hno'];obtain⟨ms,r1,r2,r3⟩:=hL.raw _ mm hfi;have h8:ms.length*Y (op.length+1)<=8*Y (op.length+1):=K9 _ r2;have h9:ms.length*X (op.length+1)<=8*X (op.length+1):=K9 _ r2;obtain⟨w1,w2⟩:=hrec hk3 S.name.text mm ms ⟨addE st.names S.name.text,st.copies+1⟩ hnm hfi r1 r2 r3 (by simp only;omega);rw[w1];cases hq:recF mm.toks (op++[S.name.text]) ⟨addE st.names S.name.text,st.copies+1⟩with
       |bad f=>exact⟨rfl,fun o s h=>by cases h⟩
       |ok l2 st2=>
        obtain⟨w3,w4⟩:=w2 l2 st2 hq;simp only at w4;simp only;have l1:=qeJ (op.length+1) l2;have l3:=qki hold hrs op.length _ l2 (KL _);have l4:=qeJ op.length (WL S.reps l2);have n1:WR true l2=false:=by unfold WR;rw[Vg];exact decide_eq_false (by omega)
        have n2:WR true (WL S.reps l2)=false:=by unfold WR;rw[Vg];exact decide_eq_false (by omega)
        have n3:∀l,WR false l=false:=fun l=>rfl;rw[n1,n2,n3,n3];simp only[KW,if_false];refine⟨by trivial,fun o s h=>?_⟩;cases h;exact⟨by omega,by omega⟩
    obtain⟨g1,g2⟩:=hmem;rw[g1];cases hq:WT false mem op recF ⟨S.ok,S.name,S.reps,a.length+S.at_⟩ st with
    |bad f=>exact⟨rfl,fun o s h=>by cases h⟩
    |ok inner st'=>
     obtain⟨g3,g4⟩:=g2 _ _ hq;simp only;have hcut:Phi op.length (ZT (a++b) a.length (a.length+ps.length))<=ps.length*X op.length:=by
      have:=qkk hk (ZT (a++b) a.length (a.length+ps.length));have hl:(ZT (a++b) a.length (a.length+ps.length)).length<=ps.length:=by unfold ZT;simp;omega
      exact V7 this (K9 _ hl)
     have hout:Phi op.length (out++ZT (a++b) a.length (a.length+ps.length)++inner)<=Phi op.length out+ps.length*X op.length+X op.length:=by
      rw[qeK,qeK];omega
     have l1:=qeJ op.length (out++ZT (a++b) a.length (a.length+ps.length)++inner);have n1:WR true (out++ZT (a++b) a.length (a.length+ps.length)++inner)=false:=by unfold WR;rw[Vg];exact decide_eq_false (by omega)
     have n3:∀l,WR false l=false:=fun l=>rfl;rw[n1,n3];simp only[KW,if_false];have hat:S.at_=ps.length+((XN n).length+(XI (rest.take m)).length):=by
      rw[<-s2,m2,Jc]
     have hrl:(XI rest).length=(XI (rest.take m)).length+(XI (rest.drop m)).length:=by
      rw[<-Jc,<-qcz,Bq]
     have hsplit:a++b=(a++b.take S.at_)++b.drop S.at_:=by rw[Ja,Bq]
     have hal:(a++b.take S.at_).length=a.length+S.at_:=by
      rw[Jc,K5];omega
     have hbd:(b.drop S.at_).map strip=XI (rest.drop m):=by
      rw[El,hb,hraw,hat];have e1:XI rest=XI (rest.take m)++XI (rest.drop m):=by rw[<-qcz,Bq]
      rw[e1,<-Ja,<-Ja];rw[Eb (by rw[Jc,Jc,q1];omega)];rw[Vz (by rw[Jc,Jc,q1];omega),Je]
     have hdl:(rest.drop m).length=rest.length-m:=K6;have hY2:(rest.drop m).length*Y op.length<=rest.length*Y op.length:=K9 _ (by omega);have hX2:(rest.drop m).length*X op.length<=rest.length*X op.length:=K9 _ (by omega);have:=ih (a++b.take S.at_) (b.drop S.at_) (rest.drop m) f (out++ZT (a++b) a.length (a.length+ps.length)++inner) st' (by omega) hbd (fun x hx=>h256 x (by simp[List.mem_of_mem_drop hx])) (by rw[K6];omega) (by omega) (by omega);rw[<-hsplit,hal]at this;obtain⟨t1,t2⟩:=this;refine⟨t1,fun o s h=>?_⟩;obtain⟨t3,t4⟩:=t2 o s h;exact⟨by omega,by omega⟩
theorem qkA:∀(d:Nat) (l:List TokC) (ns:List Nat) (op:List Str) (st:Xs),3<=d+op.length->op.length<=3->op.Nodup->(∀x∈op,UJ mem x≠none)->l.map strip=XI ns->(∀n∈ns,n<256)->st.copies+ns.length*Y op.length<=4096->ns.length*X op.length<=65536->
 qbI true mem d l op st=qbI false mem d l op st/\∀o s,qbI false mem d l op st= .ok o s->Phi op.length o<=ns.length*X op.length/\s.copies<=st.copies+ns.length*Y op.length
 |0,l,ns,op,st,hd,h3,hnd,hop,hb,h256,hc,hp=>by
  rw[qbI,qbI];have:=run_go hL (recT:=fun _ _ st=> .ok [] st) (recF:=fun _ _ st=> .ok [] st) h3 hnd hop (fun q=>by omega) ns.length [] l ns (l.length+1) [] st (KL _) hb h256 (by omega) hc (by rw[qeI];omega);rw[qeI,Js]at this;exact this
 |d+1,l,ns,op,st,hd,h3,hnd,hop,hb,h256,hc,hp=>by
  rw[qbI,qbI];have:=run_go hL (recT:=qbI true mem d) (recF:=qbI false mem d) h3 hnd hop (fun q n m ms st' hn hm e1 e2 e3 e4=>by
   have hx:ms.length*X (op.length+1)<=8*X (op.length+1):=K9 _ e2;obtain⟨x1,_,x3⟩:=qsR q;have:=qkA d m.toks ms (op++[n]) st' (by simp;omega) (by simp;omega) (Eo.2 ⟨hnd,by simp,fun x hx y hy e=>by
    rw[BG.1 hy]at e;exact hn (e ▸ hx)⟩) (fun x hx=>by
    rcases JJ.1 hx with hx|hx
    ·exact hop x hx
    ·rw[BG.1 hx,hm]
     simp) e1 e3 (by simpa using e4) (by rw[Jc,JS];omega)
   simpa using this) ns.length [] l ns (l.length+1) [] st (KL _) hb h256 (by omega) hc (by rw[qeI];omega)
  rw[qeI,Js]at this;exact this
theorem qse{l:List TokC}{ns:List Nat}(hb:l.map strip=XI ns)(h256:∀n∈ns,n<256)(hn:ns.length<=10):qaC true l mem=qaC false l mem:=by
 have h1:ns.length*73<=10*73:=K9 _ hn;have h2:ns.length*6144<=10*6144:=K9 _ hn;exact(qkA hL 8 l ns [] ⟨[],0⟩ (by simp) (by simp) List.nodup_nil (fun x hx=>by cases hx) hb h256 (by simp only[J9,Y];omega) (by simp only[J9,X];omega)).1
end
def atT(i:Nat)(t:TokC):TokC:=⟨t.kind,t.text,1+(i / 8:Nat),8+(i%8:Nat),false⟩
def qbn(l:List TokC):List TokC:=l.mapIdx atT
def qcE(x:List UInt8):List Nat:=(x.take 60).map UInt8.toNat
def lOf(x:List UInt8):List TokC:=qbn (XI (qcE x))
theorem qhH(x:List UInt8):∀n∈qcE x,n<256:=by
 intro n hn;obtain⟨b,_,rfl⟩:=JH.1 hn;exact b.toNat_lt
theorem qkV(x:List UInt8):(qcE x).length<=x.length/\(qcE x).length<=60:=by
 unfold qcE;rw[Jp,K5];omega
theorem qpg(l:List TokC):(qbn l).map strip=l.map strip:=by
 unfold qbn;apply List.ext_getElem?;intro i;rw[Ej,List.getElem?_mapIdx,Ej];cases l[i]?<;>rfl
theorem qpN:∀k:Fin 256,(XN k.val).map strip=XN k.val/\(XN k.val).length<=14:=by decide+kernel
theorem qcm:∀{ns:List Nat},(∀n∈ns,n<256)->(XI ns).map strip=XI ns/\(XI ns).length<=14*ns.length
 |[],_=>⟨rfl,KL _⟩
 |n::ns,h=>by
  obtain⟨h1,h2⟩:=qcm (ns:=ns) fun x hx=>h x (Jg _ hx);obtain⟨g1,g2⟩:=qpN ⟨n,h n Jf⟩;rw[UE,Bd,h1,Jc,KY];simp only at g1 g2;rw[g1];exact⟨rfl,by omega⟩
theorem qiG(x:List UInt8):(lOf x).map strip=XI (qcE x):=by
 unfold lOf;rw[qpg,(qcm (qhH x)).1]
theorem qts(x:List UInt8):(lOf x).length<=14*x.length/\(lOf x).length<=840:=by
 have h:=congrArg BR (qiG x);rw[Jp]at h;have h1:=(qcm (qhH x)).2;obtain⟨h2,h3⟩:=qkV x;omega
def qcY(i:Nat):Str:=[77,KD (48+i)]
def qeS(m:List (List UInt8)):List MemC:=(m.take 8).mapIdx fun i x=>⟨qcY i,lOf x⟩
theorem qjB{α:Type}(f:Nat->α->MemC)(hf:∀i x,(f i x).name=qcY i){l:List α}(hl:l.length<=100){n:Str}{m:MemC}(h:UJ (l.mapIdx f) n=some m):∃i x,l[i]?=some x/\i<l.length/\n=qcY i/\m=f i x:=by
 unfold UJ at h;have h1:=BU h;have h2:=Ef h;obtain⟨i,hi,rfl⟩:=List.mem_mapIdx.1 h1;refine⟨i,l[i],by simp[hi],hi,?_,rfl⟩;simp only[decide_eq_true_eq]at h2;rw[<-h2,hf]
theorem qmD{α:Type}[DecidableEq α]:∀{l m:List α},l.Nodup->(∀x∈l,x∈m)->l.length<=m.length
 |[],_,_,_=>Jt _
 |a::l,m,hn,hs=>by
  rw[List.nodup_cons]at hn;have ha:=hs a Jf;have:=qmD (l:=l) (m:=m.erase a) hn.2 fun x hx=>by
   refine(List.mem_erase_of_ne fun e=>hn.1 ?_).2 (hs x (Jg _ hx));rw[<-e];exact hx
  rw[List.length_erase_of_mem ha]at this;have hpos:=J4 ha;rw[KY];omega
theorem qzF{α:Type}(f:Nat->α->MemC)(hf:∀i x,(f i x).name=qcY i){l:List α}(hl:l.length<=100){op:List Str}(hn:op.Nodup)(h:∀x∈op,UJ (l.mapIdx f) x≠none):op.length<=l.length:=by
 have:=qmD (m:=(KP l.length).map qcY) hn fun x hx=>by
  have hx':=h x hx;cases hq:UJ (l.mapIdx f) x with
  |none=>exact absurd hq hx'
  |some m=>
   obtain⟨i,_,_,hi,rfl,_⟩:=qjB f hf hl hq;exact JH.2 ⟨i,JE.2 hi,rfl⟩
 simpa using this
theorem qBj{m:List (List UInt8)}(h3:m.length<=3)(h8:∀x∈m,x.length<=8):Lib (qeS m):=by
 have ht:m.take 8=m:=Jr (by omega);refine⟨fun op hn hx=>?_,fun n mm hm=>?_⟩
 ·have:=qzF (fun i x=>(⟨qcY i,lOf x⟩:MemC)) (fun i x=>rfl) (l:=m.take 8) (by rw[ht];omega) hn hx
  rw[ht]at this;omega
 ·obtain⟨i,x,hx,hi,_,rfl⟩:=qjB (fun i x=>(⟨qcY i,lOf x⟩:MemC)) (fun i x=>rfl) (l:=m.take 8) (by rw[ht];omega) hm
  rw[ht]at hx;have hmem:x∈m:=J2 hx;exact⟨qcE x,qiG x,V7 (qkV x).1 (h8 x hmem),qhH x⟩
def qDf(i:Nat)(l:List TokC):List TokC:=l.mapIdx fun k t=>if 1<=k/\(l.getD (k-1) noT).text=COPY/\t.kind=1/\t.text.length=2/\(t.text.getD 1 0-48).toNat<=i then⟨t.kind,qcY (i+1),t.line,t.col,t.left⟩else t
def qCP(m:List (List UInt8)):List MemC:=(m.take 8).mapIdx fun i x=>⟨qcY i,qDf i (lOf x)⟩
end Go.Cop
namespace Go.Cop
open Go.Col (Str FaultC okF sp)
open Go.Tok
set_option maxRecDepth 100000
section
variable {c n p:TokC} (hc:qiJ c=true) (hst:Qn [c,n,p] 1=⟨true,n,[],3⟩)
include hc hst
end
def qcu(s:Str):List TokC:=(qfW (sp 11++s) false).1
def qdJ:List MemC:=[⟨[65],qcu [48,53,32,88,32,80,73,67,32,57,40,51,41,46]⟩,⟨[66],qcu [48,49,32,82,46,32,67,79,80,89,32,65,32,82,69,80,76,65,67,73,78,71,32,88,32,66,89,32,89,46]⟩]
end Go.Cop
namespace Go.Cop
open Go.Col Go.Tok
end Go.Cop
namespace Go.Proofs.YtlhhaagmakhilaaGreatDoor
open Go.AM
open Go.Proofs
open Go.Col
open Go.Tok
open Go.Cop
open Go.RowKit (Below)
set_option maxRecDepth 100000
theorem qzB:noT=Zi:=rfl
def qdE(k:UInt8):List AVal:=[.int .u8 k.toNat]
theorem qzH{wz:World}{h:AHeap}{v:AVal}{ks:List UInt8}(hv:IsL wz h 1 v (ks.map qdE)):∀H:AHeap,YN Tryz.prog H 159 v=⟨True, .int .i64 ks.length⟩:=by
 have:=hv.len Tryz.underlying159
 rwa [Jp]at this
theorem qwD{wz:World}{h:AHeap}{v:AVal}{ks:List UInt8}(hv:IsL wz h 1 v (ks.map qdE))(hn:0<ks.length):∃lc o c,v= .slice lc o ks.length c:=by
 obtain⟨lc,o,c,e⟩:=hv.open (fun e=>by rw[VW]at e;subst e;simp at hn);rw[Jp]at e;exact⟨lc,o,c,e⟩
theorem qBm{wz:World}{h:AHeap}{ks:List UInt8}{lc:AM.Loc}{o:Nat}{c:Cap}(hv:IsL wz h 1 (.slice lc o ks.length c) (ks.map qdE)){i:Nat}(hi:i<ks.length):rd wz h lc (o+i*1)= .int .u8 (ks.getD i 0).toNat:=by
 have he:=hv.at0 (i:=i) (by rw[Jp];exact hi) (by decide);rw[getD_map (ys:=ks) 0 hi]at he;exact he
theorem qyG(wz:World)(h:AHeap)(v:AVal)(ks:List UInt8)(x:UInt8)(hv:IsL wz h 1 v (ks.map qdE))(hl:ks.length<=1000):
 ACall Tryz.prog wz 114 [v, .int .u8 x.toNat] h (fun r h'=>(∃n:Int,r= .int .i64 n/\decide (0<=n)=ks.contains x)/\h'=h):=by
 have hlv:=hv.live;have nv:=qzH hv;refine qU (n:=19) (rs:=[.tmp 4]) Tryz.func114 rfl rfl rfl rfl (VN rfl) ?_;simp only[Qg];refine awp_rseq [0,1] (by rfl) fun K hK=>?_;simp+decide only[qa,ev,qH,qG,putD,VO,VP,Ka,Kb,↓qd,qb,Js];apply hK;clear hK K;refine qJ ?_;refine awp_rseq [0,1,7,8] (by rfl) fun K hK=>?_;simp+decide only[qa,ev,qH,qG,putD,VO,VQ,VP,Ka,Kb,↓qg,qc,↓Xe,Qw,nv];apply hK;clear hK K;refine Qm ?_;refine XC [0,1,7,8] (fun i:Nat=>[(0,v),(1, .int .u8 x.toNat),(7, .int .i64 ks.length),(8, .int .i64 i)]) (fun i:Nat=>h) (fun i:Nat=>i<=ks.length/\(ks.take i).contains x=false) (fun i:Nat=>ks.length-i) 0 (by rfl) (Vm _) ⟨Jt _,by simp⟩ ?_;rintro i ⟨hi,hq⟩;refine awp_rseq [0,1,7,8,9] (by rfl) fun K hK=>?_;simp+decide only[qa,ev,putD,VO,VQ,VP,Ka,Kb,↓qw,qm,qR,cond_false,qo,XZ];apply hK;clear hK K;refine qJ (qI (b:=_) rfl (fun hb1=>?_) (fun hb1=>?_))
 ·try simp only[decide_eq_true_eq]at hb1
  have hi':i<ks.length:=by omega
  obtain⟨lc,o,c,rfl⟩:=qwD hv (by omega);have e0:=qBm hv hi';rw[BK]at e0;refine qP ?_;change Awp _ _ _ _ _ _ _;refine qJ ?_;refine Qm ?_;refine awp_rseq [0,1,5,7,8] (by rfl) fun K hK=>?_;simp+decide only[qa,ev,putD,VO,VQ,VP,Ka,Kb,↓qg,qc,↓qd,qb];apply hK;clear hK K;refine awp_rseq [0,1,5,7,8,16] (by rfl) fun K hK=>?_;simp+decide only[qa,ev,putD,VO,VQ,VP,Ka,Kb,↓qg,qc,↓QE,qY,qW Tryz.underlying159 qCY,↓qF,qz qjd,↓qw,qm,qR,cond_false,qo,Za,qi,e0,Vr,BK];repeat (with_reducible refine And.intro ?_ ?_;· first|trivial|omega|(intro hg;simp only[Ky,JW,Jj,VS,VT,VU,decide_eq_true_eq,decide_eq_false_iff_not,XY]at hg;omega))
  apply hK;clear hK K;refine qI (b:=_) rfl (fun hb2=>?_) (fun hb2=>?_)
  ·try simp only[decide_eq_true_eq]at hb2
   refine awp_rseq [4] (by rfl) fun K hK=>?_;simp+decide only[qa,ev,putD,VO,VQ,VP,Ka,Kb,↓qg,qc,↓qd,qb];apply hK;clear hK K;refine qL ?_;try simp only[Qe,Qp]
   refine Qb h zqC (qN (Qc)) ?_;simp+decide only[VQ,if_true,and_true,Qs];refine⟨i,rfl,?_⟩;have hx:x=ks.getD i 0:=BN.1 (by omega);have hm:ks.contains x=true:=by
    rw[JX,hx,Ko,JA hi'];exact VJ hi'
   rw[hm,decide_eq_true_eq];omega
  ·try simp only[decide_eq_false_iff_not]at hb2
   refine qP ?_;change Awp _ _ _ _ _ _ _;refine XW [0,1,7,8] (by rfl) ?_;simp+decide only[qa,ev,qH,qG,putD,VO,VQ,VP,Ka,Kb,↓qw,qm,qA,cond_false,qo,Xa,↓qg,qc];try simp(disch:=omega)only[wrap_i64]
   try simp only[Qj]
   refine⟨i+1,rfl,Vm _,⟨hi',?_⟩,by omega⟩;rw[List.take_add_one,JA hi'];have hx:ks[i]≠x:=fun e=>hb2 (by rw[Ko,JA hi',<-e];rfl);simp only[Option.toList_some,List.contains_eq_mem,JJ,BG,decide_eq_false_iff_not,not_or]at hq|-
   exact⟨hq,fun e=>hx e.symm⟩
 ·try simp only[decide_eq_false_iff_not]at hb1
  refine XE ?_;change Awp _ _ _ _ _ _ _;refine awp_rseq [4] (by rfl) fun K hK=>?_;simp+decide only[qa,ev,qH,qG,putD,VO,VP,Ka,Kb,↓qd,qb];apply hK;clear hK K;refine qL ?_;refine Qb h zqC (qN (Qc)) ?_;simp+decide only[VQ,if_true,and_true,Qs];refine⟨-1,rfl,?_⟩;rw[Jr (by omega)]at hq;rw[hq];rfl
theorem qra(wz:World)(h:AHeap)(v:AVal)(ks:List UInt8)(x:UInt8)(hv:IsL wz h 1 v (ks.map qdE))(hl:ks.length<=1000):
 ACall Tryz.prog wz 84 [v, .int .u8 x.toNat] h (fun r h'=>r= .bool (ks.contains x)/\h'=h):=by
 have hlv:=hv.live;refine qU (n:=9) (rs:=[.tmp 4]) Tryz.func84 rfl rfl rfl rfl (VN rfl) ?_;simp only[Qg];refine awp_rseq [0,1] (by rfl) fun K hK=>?_;simp+decide only[qa,ev,qH,qG,putD,VO,VP,Ka,Kb,↓qd,qb,Js];apply hK;clear hK K;refine awp_rseq [4] (by rfl) fun K hK=>?_;simp+decide only[ev,putD,VO,VQ,Ka,Kb,↓qg,qc];refine QU (by rfl) (by rfl) (qyG wz _ v ks x hv hl) fun x1q2 h1q2 hx1q2=>?_;obtain⟨⟨n,rfl,hn⟩,he⟩:=hx1q2;subst h1q2;simp+decide only[qa,ev,qH,qG,putD,VO,VQ,VP,Ka,Kb,↓qw,qm,qA,cond_false,qo,Ua,↓qd,qb];apply hK;clear hK K;refine qL ?_;refine Qb h zqC (qN (Qc)) ?_;simp+decide only[VQ,if_true,and_true,Qs];rw[<-hn]
def qwf(v:AVal)(i:Nat):Blk:=⟨[v, .int .i64 i],0⟩
theorem qBI(wz:World)(h:AHeap)(kp:Nat)(v:AVal)(l:List TokC)(i:Nat)(kv:AVal)(ks:List UInt8)(hk:h kp=some (qwf v i))(hv:IsL wz h 5 v (l.map QI))(hkv:IsL wz h 1 kv (ks.map qdE))(hks:ks.length<=1000)(hi:i<l.length):
 ACall Tryz.prog wz 66 [.ptr (.own kp) 0,kv] h (fun r h'=>r= .bool (Xc l i ks)/\h'=h):=by
 have rx:=fun o=>QB wz hk o;unfold qwf at rx;have hlv:=hv.live;have hlk:=hkv.live;have nv:=Zc hv;obtain⟨lc,o,c,rfl⟩:=YD hv (by omega);obtain⟨e0,-,-,-,-⟩:=YP hv hi;have hki:Xc l i ks=ks.contains (l.getD i noT).kind:=by unfold Xc;rw[decide_eq_true hi,Vg]
 rw[hki,qzB];refine qU (n:=30) (rs:=[.tmp 4]) Tryz.func66 rfl rfl rfl rfl (VN rfl) ?_;simp only[Qg];refine awp_rseq [0,1] (by rfl) fun K hK=>?_;simp+decide only[qa,ev,qH,qG,putD,VO,VP,Ka,Kb,↓qd,qb,Js];apply hK;clear hK K;refine Uw [4] mixed (by kernel_rfl) (by rfl) fun K hK=>?_;simp+decide only[ev,putD,VO,VQ,Ka,Kb,↓qdV,qc,↓qcS,qV,QA,↓qai,ql,Wn,↓qfS,XU,qz ag3,qaJ,qz qaw,↓qnv,Qw,Zh Tryz.underlying26,↓qhh,qm,qR,cond_false,qo,XZ,↓qnw,vgP,qdp,qM,qK,qC,implies_true,↓qeV,qcL,qcM,↓qaR,ZH,ZI,↓qhj,UF,qtA,qtB,↓qhk,qW Tryz.underlying26 Xb,quL,quK,quP,quO,qbW,qz qjd,VZ,Kn,Js,qi,rx,hlv,e0,Vr,K7];repeat (with_reducible refine And.intro ?_ ?_;· first|trivial|omega|(intro hg;simp only[Ky,JW,Jj,VS,VT,VU,decide_eq_true_eq,decide_eq_false_iff_not,XY]at hg;omega))
 refine qdW (V:= .bool (ks.contains (l.getD i Zi).kind)) (f:=_) (cap:=_) (xs:=_) (by first|rfl|(simp+decide only[gv,qM,VQ,Ka,Xg,qK])) (fun hg=>⟨rfl,?_⟩) (fun hg=>qra wz _ kv ks _ hkv hks) ?_
 ·try simp+decide only[gv,qM,VQ,Ka,qC]at hg
  simp+decide only[evs,ev,VQ,Ka,hg,Qy,Bg,Ke,Vk]
 simp+decide only[qct,ev,qH,qG,putD,VO,VQ,VP,Ka,Kb,gv,qM,qC,↓qhf,Qz,Qk,Xp,Xy,↓qdo,qb];apply hK;clear hK K;refine qL ?_;refine Qb h zqC (qN (Qc)) ?_;simp+decide only[VQ,if_true,and_true,Qs];rw[decide_eq_true (by omega),Vg]
theorem qAb(wz:World)(h:AHeap)(kp:Nat)(v:AVal)(l:List TokC)(i:Nat)(kv:AVal)(ks:List UInt8)(hk:h kp=some (qwf v i))(hv:IsL wz h 5 v (l.map QI))(hlk:kv.live=true)(hi:¬i<l.length):
 ACall Tryz.prog wz 66 [.ptr (.own kp) 0,kv] h (fun r h'=>r= .bool (Xc l i ks)/\h'=h):=by
 have rx:=fun o=>QB wz hk o;unfold qwf at rx;have hlv:=hv.live;have nv:=Zc hv;have hki:Xc l i ks=false:=by unfold Xc;rw[decide_eq_false hi,V4]
 rw[hki];have hge:¬((i:Int)<l.length):=by omega
 refine qU (n:=30) (rs:=[.tmp 4]) Tryz.func66 rfl rfl rfl rfl (VN rfl) ?_;simp only[Qg];refine awp_rseq [0,1] (by rfl) fun K hK=>?_;simp+decide only[qa,ev,qH,qG,putD,VO,VP,Ka,Kb,↓qd,qb,Js];apply hK;clear hK K;refine Uw [4] mixed (by kernel_rfl) (by rfl) fun K hK=>?_;simp+decide only[ev,putD,VO,VQ,Ka,Kb,↓qdV,qc,↓qcS,qV,QA,↓qai,ql,Wn,↓qfS,XU,qz ag3,qaJ,qz qaw,↓qnv,Qw,↓qhh,qm,qR,cond_false,qo,XZ,↓qnw,vgP,qdp,qM,qK,qC,implies_true,decide_false,Zr,false_implies,↓qeV,↓qaR,↓qhj,UF,↓qhk,VZ,Kn,Js,qi,rx,hlv,nv,hge];refine qoN (by rfl) ?_;simp+decide only[qct,ev,qH,qG,putD,VO,VQ,VP,Ka,Kb,↓qhf,Qz,Qk,↓qdo,qb];apply hK;clear hK K;refine qL ?_;refine Qb h zqC (qN (Qc)) ?_;simp+decide only[VQ,if_true,and_true,Qs];all_goals first|rfl|exact⟨rfl,rfl⟩|(simp+decide only[Ka, *];done)|(trace_state;fail)
theorem qom(wz:World)(h:AHeap)(kp:Nat)(v:AVal)(l:List TokC)(i:Nat)(kv:AVal)(ks:List UInt8)(hk:h kp=some (qwf v i))(hv:IsL wz h 5 v (l.map QI))(hkv:IsL wz h 1 kv (ks.map qdE))(hks:ks.length<=1000):
 ACall Tryz.prog wz 66 [.ptr (.own kp) 0,kv] h (fun r h'=>r= .bool (Xc l i ks)/\h'=h):=by
 by_cases hi:i<l.length
 ·exact qBI wz h kp v l i kv ks hk hv hkv hks hi
 ·exact qAb wz h kp v l i kv ks hk hv hkv.live hi
theorem qnB{h:AHeap}{k:Nat}{b:Blk}(hk:h k=some b):h.set k b=h:=by
 funext j;by_cases e:j=k
 ·subst e;rw[Ve,hk]
 ·rw[Vd _ _ e]
theorem qcd{wz:World}{H:AHeap}{k:Nat}{ks:List UInt8}(hk:H k=some ⟨byteCells ks,0⟩):IsL wz H 1 (.slice (.own k) 0 ks.length (.exact ks.length)) (ks.map qdE):=by
 have hw:∀x∈ks.map qdE,x.length=1:=fun x hx=>by obtain⟨y,_,rfl⟩:=JH.1 hx;rfl
 have hc:byteCells ks=(ks.map qdE).flatten:=by
  clear hk hw;induction ks with
  |nil=>rfl
  |cons k ks ih=>rw[Ke,List.flatten_cons,<-ih];rfl
 have:=IsL.own (wz:=wz) (es:=1) (xs:=ks.map qdE) hk hw hc (by rw[YB];intro x hx;obtain⟨y,_,rfl⟩:=JH.1 hx;rfl) (.exact ks.length) (by simp)
 rwa [Jp]at this
theorem quW(wz:World)(h:AHeap)(kp:Nat)(v:AVal)(l:List TokC)(i:Nat)(s:Str)(eb_p:h kp=some ⟨[v, .int .i64 i],0⟩)(hv:IsL wz h 5 v (l.map QI))(hl:l.length<=1099511627776)(hi:i<l.length):
 ACall Tryz.prog wz 51 [.ptr (.own kp) 0, .str s] h (fun r h'=>r= .bool (XH l i s)/\h'=h.set kp ⟨[v, .int .i64 ((if XH l i s=true then i+1 else i:Nat):Int)],0⟩):=by
 have hs_h:Sub h h:=Vm h;have hlv:=hv.live;have nv:=Zc hv;obtain⟨lc,o,c,rfl⟩:=YD hv (by omega);have hki:XH l i s=(Xc l i [1] && decide ((l.getD i Zi).text=s)):=rfl;obtain⟨kb,hkb⟩:∃kb,kb=Xc l i [1]:=⟨_,rfl⟩
 rw[<-hkb]at hki;rw[hki];refine qU (n:=31) (rs:=[.tmp 4]) Tryz.func51 rfl rfl rfl rfl (VN rfl) ?_;simp only[Qg];refine awp_rseq [0,1] (by rfl) fun K hK=>?_;simp+decide only[qa,ev,qH,qG,putD,VO,VP,Ka,Kb,↓qd,qb,Js];apply hK;clear hK K;refine qJ ?_;refine qeC [0,1,2,3,4,5,6,7,8,9,10,11,12,13,14,15,16,17,18] [none,none,some 1,some 2,some 3,some 4,some 5,some 6,some 7,some 4,some 9,some 10,some 11,some 8,some 13,some 14,some 4,some 15,some 4] 19 [0,23] mixed (by kernel_rfl) (by rfl) fun K hK=>?_;simp only[Zy,VK,Ep,Kz,KM];simp+decide only[qa,ev,putD,VO,VQ,Ka,Kb,qco,qcJ,Yt,↓qg,qc];refine Qr (cs:=byteCells [1]) (by kernel_rfl) fun k1q1 hk1q1=>?_;have hn_1q1:h k1q1=none:=by first|assumption|(simp only[V9]at hk1q1;simp only[hk1q1])
 have hf_1q1:h k1q1=none:=Bi hs_h hn_1q1;have ne_1q1_p:k1q1≠kp:=Bj hn_1q1 eb_p;rw[qa];refine And.intro (by first|exact Vm _|assumption|exact Vh (by assumption)) ?_;simp+decide only[putD,VO,if_false];refine qO (V:= .bool kb) (by rfl) (by rfl) (by rw[hkb];exact qom wz _ kp _ l i _ [1] zqA (hv.mono zqB) (qcd (k:=k1q1) (ks:=[1]) zqA) (by decide)) ?_;rw[qa];refine And.intro (by first|exact Vm _|assumption|exact Vh (by assumption)) ?_;simp+decide only[qa,ev,qH,qG,putD,VO,VQ,VP,Ka,Kb,Yt,↓YI,Zl,YC,qc,↓Xf,agP,Qv,qM,qK,Qh,implies_true,Bool.not_not,↓YL,qV,QA,qcL,qcM,↓Xj,ql,qaJ,ZH,ZI,↓Zn,XT,YY,qAw,qz qaw,Wn,qz ag3,↓Zf,qAA,qAy,qW Tryz.underlying26 Xb,Uu,qz ag9,↓Xd,qm,qR,cond_false,Zv,qbB,Zw,qbC,Zj,qeo,↓QW,Qz,Qk,qgD,ZO,QZ,ne_eq,not_false_eq_true,ne_1q1_p.symm,QB wz eb_p,VZ,Kn,Js,qi,qE,hlv,Vr,K7,(YP (hv.mono (Vh hn_1q1)) hi).2.1];repeat (with_reducible refine And.intro ?_ ?_;· first|trivial|omega|(intro hg;simp only[Ky,JW,Jj,VS,VT,VU,decide_eq_true_eq,decide_eq_false_iff_not,XY]at hg;omega))
 apply hK;clear hK K;refine qI (b:=_) rfl (fun hb1=>?_) (fun hb1=>?_)
 ·try simp only[decide_eq_false_iff_not,Jj,JW]at hb1
  refine awp_rseq [4] (by rfl) fun K hK=>?_;simp+decide only[qa,ev,qH,qG,putD,VO,VP,Ka,Kb,↓qd,qb];apply hK;clear hK K;refine qL ?_;try simp only[Qe]
  refine QD (qN (Qc)) ?_;simp+decide only[VQ,if_true,Qs];have hf:(kb && decide ((l.getD i Zi).text=s))=false:=by
   rcases hb1 with q|q
   ·rw[q];rfl
   ·rw[decide_eq_false q,BM]
  exact⟨h,Vh hn_1q1,by rw[hf],by rw[hf];exact(qnB eb_p).symm⟩
 ·try simp only[decide_eq_true_eq,VU,VT]at hb1
  refine qP ?_;change Awp _ _ _ _ _ _ _;refine awp_rseq [] (by rfl) fun K hK=>?_;simp+decide only[ev,qH,qG,putD,VO,VQ,Ka,Kb,↓qg,qc,↓Qo,qV,QA,↓qB,ql,Wn,↓qF,qY,qz ag3,↓qw,qm,qA,cond_false,qo,Xa,QZ,ne_eq,not_false_eq_true,ne_1q1_p.symm,QB wz eb_p,VZ,Kn,Js,qi];try simp(disch:=omega)only[wrap_i64]
  refine qp (by rfl) (by rfl) zqA sz3 (by rfl) (by rfl) zqD (Jt _) (by rfl) ?_;simp only[VX];simp+decide only[qa,ev,putD,VQ,VP,Ka,setAt,VY,Kj];apply hK;clear hK K;refine awp_rseq [4] (by rfl) fun K hK=>?_;simp+decide only[qa,ev,qH,qG,putD,VO,VP,if_true,Kb,↓qd,qb];apply hK;clear hK K;refine qL ?_;refine QD (qN (Qc)) ?_;simp+decide only[VQ,if_true,Qs];have hf:(kb && decide ((l.getD i Zi).text=s))=true:=by
   simp only[Ky,decide_eq_true_eq];simpa using hb1
  exact⟨h.set kp ⟨[.slice lc o l.length c, .int .i64 ((i+1:Nat):Int)],0⟩,Bb (Vh hn_1q1) _ _,by rw[hf],by rw[hf];rfl⟩
theorem qsn(wz:World)(h:AHeap)(kp:Nat)(v:AVal)(l:List TokC)(i:Nat)(s:Str)(eb_p:h kp=some ⟨[v, .int .i64 i],0⟩)(hv:IsL wz h 5 v (l.map QI))(hi:¬i<l.length):
 ACall Tryz.prog wz 51 [.ptr (.own kp) 0, .str s] h (fun r h'=>r= .bool (XH l i s)/\h'=h.set kp ⟨[v, .int .i64 ((if XH l i s=true then i+1 else i:Nat):Int)],0⟩):=by
 have hs_h:Sub h h:=Vm h;have hlv:=hv.live;have nv:=Zc hv;have hk0:Xc l i [1]=false:=by unfold Xc;rw[decide_eq_false hi,V4]
 have hki:XH l i s=false:=by unfold XH;rw[hk0,V4]
 rw[hki];refine qU (n:=31) (rs:=[.tmp 4]) Tryz.func51 rfl rfl rfl rfl (VN rfl) ?_;simp only[Qg];refine awp_rseq [0,1] (by rfl) fun K hK=>?_;simp+decide only[qa,ev,qH,qG,putD,VO,VP,Ka,Kb,↓qd,qb,Js];apply hK;clear hK K;refine qJ ?_;refine qeC [0,1,2,3,4,5,6,7,8,9,10,11,12,13,14,15,16,17,18] [none,none,some 1,some 2,some 3,some 4,some 5,some 6,some 7,some 4,some 9,some 10,some 11,some 8,some 13,some 14,some 4,some 15,some 4] 19 [0,23] mixed (by kernel_rfl) (by rfl) fun K hK=>?_;simp only[Zy,VK,Ep,Kz,KM];simp+decide only[qa,ev,putD,VO,VQ,Ka,Kb,qco,qcJ,Yt,↓qg,qc];refine Qr (cs:=byteCells [1]) (by kernel_rfl) fun k1q1 hk1q1=>?_;have hn_1q1:h k1q1=none:=by first|assumption|(simp only[V9]at hk1q1;simp only[hk1q1])
 have hf_1q1:h k1q1=none:=Bi hs_h hn_1q1;have ne_1q1_p:k1q1≠kp:=Bj hn_1q1 eb_p;rw[qa];refine And.intro (by first|exact Vm _|assumption|exact Vh (by assumption)) ?_;simp+decide only[putD,VO,if_false];refine qO (V:= .bool false) (by rfl) (by rfl) (by rw[<-hk0];exact qom wz _ kp _ l i _ [1] zqA (hv.mono zqB) (qcd (k:=k1q1) (ks:=[1]) zqA) (by decide)) ?_;rw[qa];refine And.intro (by first|exact Vm _|assumption|exact Vh (by assumption)) ?_;simp+decide only[qa,ev,qH,qG,putD,VO,VQ,VP,Ka,Kb,Yt,↓YI,Zl,YC,qc,↓Xf,agP,Qv,qM,qK,Qh,implies_true,Er,V3,Zr,false_implies,qaF,qdR,↓YL,qV,↓Xj,ql,↓Zn,XT,↓Zf,↓Xd,qm,qR,cond_false,↓QW,Qz,Qk];apply hK;clear hK K;refine qI (b:=_) rfl (fun hb1=>?_) (fun hb1=>?_)
 ·try simp only at hb1
  refine awp_rseq [4] (by rfl) fun K hK=>?_;simp+decide only[qa,ev,qH,qG,putD,VO,VP,Ka,Kb,↓qd,qb];apply hK;clear hK K;refine qL ?_;try simp only[Qe]
  refine Qb h zqC (qN (Qc)) ?_;simp+decide only[VQ,Ka,Kb,Qs];exact(qnB eb_p).symm
 ·exact absurd hb1 (by decide)
theorem qzR(wz:World)(h:AHeap)(kp:Nat)(v:AVal)(l:List TokC)(i:Nat)(s:Str)(eb_p:h kp=some ⟨[v, .int .i64 i],0⟩)(hv:IsL wz h 5 v (l.map QI))(hl:l.length<=1099511627776):
 ACall Tryz.prog wz 51 [.ptr (.own kp) 0, .str s] h (fun r h'=>r= .bool (XH l i s)/\h'=h.set kp ⟨[v, .int .i64 ((if XH l i s=true then i+1 else i:Nat):Int)],0⟩):=by
 by_cases hi:i<l.length
 ·exact quW wz h kp v l i s eb_p hv hl hi
 ·exact qsn wz h kp v l i s eb_p hv hi
def qdB(v:AVal)(o:Opd):AVal:=if o.ok=true then qhs 5 v o.lo o.hi else .nilSlice
theorem qcV{l:List TokC}{i:Nat}(hi:i<l.length):(Xh l i=if (l.getD i noT).kind=7 then i else Xh l (i+1)):=by
 unfold Xh;rw[qgp noT hi,BZ];split
 ·rename_i h
  rw[if_neg (by simpa using h),KY];omega
 ·rename_i h
  rw[if_pos (by simpa using h)];rfl
theorem qkI{l:List TokC}{i:Nat}(hi:l.length<=i):Xh l i=i:=by
 unfold Xh;rw[Vu hi];rfl
theorem qgO{l:List TokC}{i:Nat}(hi:i<l.length):Xc l i [7]=decide ((l.getD i noT).kind=7):=by
 unfold Xc;rw[decide_eq_true hi,Vg];simp
set_option maxHeartbeats 1000000 in
theorem qsw(wz:World)(B:AHeap)(kp:Nat)(v:AVal)(l:List TokC)(i:Nat)(e:Bool)(hb:B kp=none)(hv:IsL wz B 5 v (l.map QI))(hl:l.length<=1099511627776)(hi:i<=l.length):
 ACall Tryz.prog wz 85 [.ptr (.own kp) 0, .bool e] (B.set kp ⟨[v, .int .i64 i],0⟩) (fun r h'=>r= .tuple [qdB v (Qd l i e), .bool (Qd l i e).ok]/\h'=B.set kp ⟨[v, .int .i64 (Qd l i e).at_],0⟩):=by
 have hlv:=hv.live;have nv:=Zc hv;obtain⟨H0,hH0⟩:∃H0,H0=B.set kp ⟨[v, .int .i64 i],0⟩:=⟨_,rfl⟩
 have hs_H0:Sub B H0:=by rw[hH0];exact Vh hb
 have eb_p:H0 kp=some ⟨[v, .int .i64 i],0⟩:=by rw[hH0];exact Ve _ _ _
 rw[<-hH0];obtain⟨k1,hk1⟩:∃k,k=Xc l i [1,2,3]:=⟨_,rfl⟩
 obtain⟨k2,hk2⟩:∃k,k=Xc l i [7]:=⟨_,rfl⟩
 obtain⟨O,ho⟩:∃O,O=Qd l i e:=⟨_,rfl⟩
 rw[<-ho];unfold Qd at ho;rw[<-hk1,<-hk2]at ho;refine qU (n:=107) (rs:=[.tmp 4, .tmp 5]) Tryz.func85 rfl rfl rfl rfl (VN rfl) ?_;simp only[Qg];refine awp_rseq [0,1] (by rfl) fun K hK=>?_;simp+decide only[qa,ev,qH,qG,putD,VO,VP,Ka,Kb,↓qd,qb,Js];apply hK;clear hK K;refine awp_rseq [0,1,6] (by rfl) fun K hK=>?_;simp+decide only[qa,ev,putD,VO,VQ,VP,Ka,Kb,↓qg,qc,↓Qo,qV,QA,↓qB,ql,Wn,↓qF,qY,qz ag3,↓qd,qb,QB wz eb_p,VZ,Kn,Js,qi];apply hK;clear hK K;refine qJ ?_;refine awp_rseq [0,1,6,13] (by rfl) fun K hK=>?_;simp+decide only[ev,putD,VO,VQ,Ka,Kb,↓qg,qc];refine Qr (cs:=byteCells [1,2,3]) (by kernel_rfl) fun k2q1 hk2q1=>?_;have hn_2q1:H0 k2q1=none:=by first|assumption|(simp only[V9]at hk2q1;simp only[hk2q1])
 have hf_2q1:B k2q1=none:=Bi hs_H0 hn_2q1;have ne_2q1_p:k2q1≠kp:=Bj hn_2q1 eb_p;refine qO (V:= .bool k1) (by rfl) (by rfl) (by rw[hk1];exact qom wz _ kp _ l i _ [1,2,3] zqA (hv.mono zqB) (qcd (k:=k2q1) (ks:=[1,2,3]) zqA) (by decide)) ?_;simp+decide only[qa,putD,VO,VP,Ka];apply hK;clear hK K;refine qI (b:=_) rfl (fun hb1=>?_) (fun hb1=>?_)
 ·skip
  have hlt:i<l.length:=Yw (hk1.symm.trans hb1);have hsl:=hv.slice Tryz.underlying26 Xb (some (.int .i64 i)) (some (.int .i64 ((i:Int)+1))) (l:=i) (r:=(i:Int)+1) rfl rfl (by omega) (by omega) (by rw[Jp];omega);refine awp_rseq [0,6] (by rfl) fun K hK=>?_;simp+decide only[ev,qH,qG,putD,VO,VQ,Ka,Kb,↓qg,qc,↓Qo,qV,QA,↓qB,ql,Wn,↓qF,qY,qz ag3,↓qw,qm,qA,cond_false,qo,Xa,QZ,ne_eq,not_false_eq_true,ne_2q1_p.symm,QB wz eb_p,VZ,Kn,Js,qi];try simp(disch:=omega)only[wrap_i64]
  refine qp (by rfl) (by rfl) zqA sz3 (by rfl) (by rfl) zqD (Jt _) (by rfl) ?_;simp only[VX];simp+decide only[qa,ev,putD,VQ,VP,Ka,setAt,VY,Kj];apply hK;clear hK K;refine Zt [4,5] mixed (by kernel_rfl) (by rfl) (by rfl) fun K hK=>?_;simp+decide only[qa,ev,qH,qG,putD,VO,VQ,VP,Ka,Kb,↓qg,qc,↓Qo,qV,QA,↓qB,ql,qaJ,↓qF,qY,qz qaw,Wn,qz ag3,↓Wp,ZG,evO,↓qd,qb,QT,VZ,Kn,Js,qi,hlv,hsl];apply hK;clear hK K;refine qL ?_;try simp only[Qe]
  refine QD (qN (qN (Qc))) ?_;simp+decide only[VQ,Ka,WY];rw[if_pos hb1]at ho;refine⟨B.set kp ⟨[v, .int .i64 ((i:Int)+1)],0⟩,?_,?_,?_⟩
  ·exact Bb zqB _ _
  ·rw[ho];rfl
  ·rw[ho];rfl
 ·skip
  refine qP ?_;change Awp _ _ _ _ _ _ _;refine qJ ?_;refine awp_rseq [0,1,6,34] (by rfl) fun K hK=>?_;simp+decide only[ev,putD,VO,VQ,Ka,Kb,↓qg,qc];refine Qr (cs:=byteCells [7]) (by kernel_rfl) fun k5q1 hk5q1=>?_;have ne_5q1_2q1:k5q1≠k2q1:=by simp only[V9]at hk5q1;simp only[hk5q1,ne_eq,not_false_eq_true]
  have hn_5q1:H0 k5q1=none:=by first|assumption|(simp only[V9]at hk5q1;simp only[hk5q1])
  have hf_5q1:B k5q1=none:=Bi hs_H0 hn_5q1;have ne_5q1_p:k5q1≠kp:=Bj hn_5q1 eb_p;refine qO (V:= .bool k2) (by rfl) (by rfl) (by rw[hk2];exact qom wz _ kp _ l i _ [7] zqA (hv.mono zqB) (qcd (k:=k5q1) (ks:=[7]) zqA) (by decide)) ?_;simp+decide only[qa,ev,putD,VO,VQ,VP,Ka,Kb,↓YI,Zl,YC];apply hK;clear hK K;refine qI (b:=_) rfl (fun hb2=>?_) (fun hb2=>?_)
  ·try simp only[Jj]at hb2
   refine awp_rseq [4,5] (by rfl) fun K hK=>?_;simp+decide only[qa,ev,qH,qG,putD,VO,VP,Ka,Kb,↓qd,qb];apply hK;clear hK K;refine qL ?_;try simp only[Qe]
   refine QD (qN (qN (Qc))) ?_;simp+decide only[VQ,Ka,WY];rw[if_neg (by rw[hb1];decide),if_pos (by simpa using hb2)]at ho;refine⟨H0,zqB,?_,?_⟩
   ·rw[ho];rfl
   ·rw[ho];exact hH0
  ·try simp only[VU]at hb2
   have hlt:i<l.length:=Yw (ks:=[7]) (by rw[<-hk2];simpa using hb2);rw[if_neg (by rw[hb1];decide),if_neg (by simpa using hb2)]at ho;refine qP ?_;change Awp _ _ _ _ _ _ _;refine awp_rseq [0,1,6] (by rfl) fun K hK=>?_;simp+decide only[ev,qH,qG,putD,VO,VQ,Ka,Kb,↓qg,qc,↓Qo,qV,QA,↓qB,ql,Wn,↓qF,qY,qz ag3,↓qw,qm,qA,cond_false,qo,Xa,QZ,ne_eq,not_false_eq_true,ne_2q1_p.symm,ne_5q1_p.symm,QB wz eb_p,VZ,Kn,Js,qi];try simp(disch:=omega)only[wrap_i64]
   refine qp (by rfl) (by rfl) zqA sz3 (by rfl) (by rfl) zqD (Jt _) (by rfl) ?_;simp only[VX];simp+decide only[qa,ev,putD,VQ,VP,Ka,setAt,VY,Kj];apply hK;clear hK K;refine qJ ?_;refine Qm ?_;refine XC [0,1,6] (fun j:Nat=>[(0, .ptr (.own kp) 0),(1, .bool e),(6, .int .i64 i)]) (fun j:Nat=>B.set kp ⟨[v, .int .i64 j],0⟩) (fun j:Nat=>i+1<=j/\j<=l.length/\Xh l j=Xh l (i+1)) (fun j:Nat=>l.length-j) (i+1) (by rfl) (Bb zqB _ _) ⟨KL _,hlt,rfl⟩ ?_;rintro j ⟨hj1,hj2,hj3⟩;obtain⟨H1,hH1⟩:∃H1,H1=B.set kp ⟨[v, .int .i64 j],0⟩:=⟨_,rfl⟩
   have hs_H1:Sub B H1:=by rw[hH1];exact Vh hb
   have eb_p:H1 kp=some ⟨[v, .int .i64 j],0⟩:=by rw[hH1];exact Ve _ _ _
   rw[<-hH1];refine qJ ?_;refine qeC [0,1,2,3,4,5,6,7,8,9,10,11,12,13,14,15] [none,none,none,none,none,none,none,none,none,none,none,none,none,some 12,some 13,some 14] 16 [0,1,6,57] mixed (by kernel_rfl) (by rfl) fun K hK=>?_;simp only[Zy,VK,Ep,Kz,KM];simp+decide only[qa,ev,putD,VO,VQ,Ka,Kb,qco,qcJ,Yt,↓qg,qc,↓Qo,qV,QA,↓qB,ql,Wn,↓qF,qY,qz ag3,qaJ,qz qaw,↓Xe,Qw,↓qw,qm,qR,cond_false,qo,XZ,↓Xf,agP,Qv,qM,qK,qC,implies_true,QB wz eb_p,VZ,Kn,Js,qi,hlv,nv];refine qjJ (cs:=byteCells [7]) (g:= .bool (decide ((j:Int)<l.length))) (by rfl) (by rfl) (fun _=>by kernel_rfl) fun k8q12 h8q12 hs8 hb8=>?_;have hs_h8q12:Sub B h8q12:=BL zqC hs8;have hr_h8q12:Sub H1 h8q12:=BL zqC hs8;have eb_p:=hs8 kp _ zqA;rw[qa];refine And.intro (by first|exact Vm _|assumption|exact Vh (by assumption)) ?_;simp+decide only[putD,VO,if_false,qC];first
   |(refine YM (by rfl) ?_;refine qO (V:= .bool (Xc l j [7])) (by rfl) (by rfl) (by
    have hq0:(decide ((j:Int)<l.length)==true)=true:=hg;have hq:decide ((j:Int)<l.length)=true:=by simpa using hq0
    exact qom wz _ kp _ l j _ [7] zqA (hv.mono zqB) (qcd (k:=k8q12) (ks:=[7]) (hb8 hq0)) (by decide)) ?_)
   |(refine qaD (by rfl) (by rfl) ?_)
   |(refine ZC (V:= .bool (Xc l j [7])) (f:=_) (cap:=_) (xs:=_) (by first|rfl|(simp+decide only[gv,qM,VQ,Ka,Xg,qK])) (fun hg=>⟨rfl,?_⟩) (fun hg=>by
    have hq0:(decide ((j:Int)<l.length)==true)=true:=hg;have hq:decide ((j:Int)<l.length)=true:=by simpa using hq0
    exact qom wz _ kp _ l j _ [7] zqA (hv.mono zqB) (qcd (k:=k8q12) (ks:=[7]) (hb8 hq0)) (by decide)) ?_;· (simp+decide only[gv,qM,VQ,Ka,qC]at hg;simp+decide only[evs,ev,VQ,Ka,hg,Qy,Bg,Ke,Vk]<;>try rfl))
   rw[qa];refine And.intro (by first|exact Vm _|assumption|exact Vh (by assumption)) ?_;simp+decide only[qa,ev,qH,qG,putD,VO,VQ,VP,Ka,Kb,Yt,gv,qM,qC,↓qde,Zl,agP,Qv,qK,implies_true,YC,qnd,qnh,↓QW,Qz,Qk,Xp,Xy];apply hK;clear hK K;refine qI (b:=_) rfl (fun hb3=>?_) (fun hb3=>?_)
   ·try simp only[decide_eq_true_eq,Jj,Ky]at hb3
    have hj4:j<l.length:=by omega
    have hst:=qcV hj4;have hk8:=qgO hj4;rw[hb3.2]at hk8;rw[if_neg (by simpa using hk8.symm)]at hst;refine qP ?_;change Awp _ _ _ _ _ _ _;refine Qm ?_;refine XW [0,1,6] (by rfl) ?_;simp+decide only[ev,qH,qG,putD,VO,VQ,Ka,Kb,↓qg,qc,↓Qo,qV,QA,↓qB,ql,Wn,↓qF,qY,qz ag3,↓qw,qm,qA,cond_false,qo,Xa,QB wz eb_p,VZ,Kn,Js,qi];try simp(disch:=omega)only[wrap_i64]
    refine qp (by rfl) (by rfl) zqA sz3 (by rfl) (by rfl) zqD (Jt _) (by rfl) ?_;simp only[VX];simp+decide only[qa,ev,putD,VQ,VP,Ka,setAt,VY,Kj];try simp only[Qj,Yc]
    exact⟨j+1,rfl,Bb zqB _ _,⟨by omega,hj4,by rw[<-hst];exact hj3⟩,by omega⟩
   ·try simp only[decide_eq_false_iff_not,VU,VS]at hb3
    have hje:Xh l (i+1)=j:=by
     rw[<-hj3];rcases KU j l.length with hj4|hj4
     ·have hk8:=qgO hj4
      rcases hb3 with q|q
      ·omega
      ·rw[q]at hk8
       rw[qcV hj4,if_pos (by simpa using hk8.symm)]
     ·exact qkI hj4
    rw[hje]at ho;refine XE ?_;change Awp _ _ _ _ _ _ _;refine qJ ?_;refine Zt [0,6,87] mixed (by kernel_rfl) (by rfl) (by rfl) fun K hK=>?_;simp+decide only[qa,ev,qH,qG,putD,VO,VQ,VP,Ka,Kb,↓qg,qc,↓Qo,qV,QA,↓qB,ql,Wn,↓qF,qY,qz ag3,qaJ,qz qaw,↓Xe,Qw,↓qw,qm,qR,cond_false,qo,Za,↓Xf,agP,Qv,qM,qK,Xg,We,qC,Qh,qpK,implies_true,↓qde,Zl,YC,qnd,qnh,↓YL,qcL,qcM,↓Xj,ZH,ZI,↓Zn,XT,YY,qtI,↓Xd,qA,Zv,qbB,Zw,qbC,Xa,↓qdf,Qz,Qk,ZA,qii,Xy,ZO,qif,qih,↓QW,QB wz eb_p,VZ,Kn,Js,qi,hlv,nv];try simp(disch:=omega)only[wrap_i64]
    apply hK;clear hK K;refine qI (b:=_) rfl (fun hb4=>?_) (fun hb4=>?_)
    ·try simp only[decide_eq_true_eq,Jj,Ky,JW]at hb4
     refine awp_rseq [4,5] (by rfl) fun K hK=>?_;simp+decide only[qa,ev,qH,qG,putD,VO,VP,Ka,Kb,↓qd,qb];apply hK;clear hK K;refine qL ?_;try simp only[Qe]
     refine QD (qN (qN (Qc))) ?_;simp+decide only[VQ,Ka,WY];rw[if_pos (by
      rcases hb4 with q|⟨q1,q2⟩
      ·left;omega
      ·exact .inr ⟨q1,by omega⟩)]at ho
     refine⟨H1,zqB,?_,?_⟩
     ·rw[ho];rfl
     ·rw[ho];exact hH1
    ·try simp only[decide_eq_false_iff_not,VU,VS,VT]at hb4
     rw[if_neg (by
      rintro(q|⟨q1,q2⟩)
      ·omega
      ·obtain⟨-,z⟩:=hb4
       rcases z with z|z
       ·rw[q1]at z;cases z
       ·omega)]at ho
     have hsl:=hv.slice Tryz.underlying26 Xb (some (.int .i64 ((i:Int)+1))) (some (.int .i64 (j:Int))) (l:=(i:Int)+1) (r:=(j:Int)) rfl rfl (by omega) (by omega) (by rw[Jp];omega);refine qP ?_;change Awp _ _ _ _ _ _ _;refine awp_rseq [0,6] (by rfl) fun K hK=>?_;simp+decide only[ev,qH,qG,putD,VO,VQ,Ka,Kb,↓qg,qc,↓Qo,qV,QA,↓qB,ql,Wn,↓qF,qY,qz ag3,↓qw,qm,qA,cond_false,qo,Xa,QB wz eb_p,VZ,Kn,Js,qi];try simp(disch:=omega)only[wrap_i64]
     refine qp (by rfl) (by rfl) zqA sz3 (by rfl) (by rfl) zqD (Jt _) (by rfl) ?_;simp only[VX];simp+decide only[qa,ev,putD,VQ,VP,Ka,setAt,VY,Kj];apply hK;clear hK K;refine Zt [4,5] mixed (by kernel_rfl) (by rfl) (by rfl) fun K hK=>?_;simp+decide only[ev,qH,qG,putD,VO,VQ,Ka,Kb,↓qg,qc,↓Qo,qV,QA,↓qB,ql,qaJ,↓qF,qY,qz qaw,↓qw,qm,qA,cond_false,qo,Xa,Wn,qz ag3,qaI,QT,VZ,Kn,Js,qi,hlv,Int.add_sub_cancel];try simp(disch:=omega)only[wrap_i64]
     try simp+decide only[qa,ev,qH,qG,putD,VO,VQ,VP,Ka,Kb,↓Wp,ZG,evO,↓qd,qb,hsl]
     apply hK;clear hK K;refine qL ?_;refine QD (qN (qN (Qc))) ?_;simp+decide only[VQ,Ka,WY];refine⟨B.set kp ⟨[v, .int .i64 ((j:Int)+1)],0⟩,?_,?_,?_⟩
     ·exact Bb zqB _ _
     ·rw[ho];rfl
     ·rw[ho];rfl
theorem qok{H:AHeap}{k:Nat}(b:Blk):(H.del k).set k b=H.set k b:=by
 funext j;by_cases e:j=k<;>simp[Bf,Vl,e]
theorem YA{H:AHeap}(k:Nat):H.del k k=none:=by simp[Vl]
theorem qcT{B H:AHeap}{k:Nat}(hs:Sub B H)(hb:B k=none):Sub B (H.del k):=fun j b hj=>by
 have hne:j≠k:=fun e=>by subst e;rw[hb]at hj;cases hj
 simp only[Vl,hne,if_false];exact hs j b hj
theorem ZU{B H:AHeap}{k:Nat}(hs:Sub B H)(hb:B k=none)(b:Blk):Sub B (H.set k b):=fun j c hj=>by
 have hne:j≠k:=fun e=>by subst e;rw[hb]at hj;cases hj
 rw[Vd _ _ hne];exact hs j c hj
theorem qgY(wz:World)(H B:AHeap)(kp:Nat)(v:AVal)(l:List TokC)(i:Nat)(e:Bool)(hk:H kp=some ⟨[v, .int .i64 i],0⟩)(hs:Sub B H)(hb:B kp=none)(hv:IsL wz B 5 v (l.map QI))(hl:l.length<=1099511627776)(hi:i<=l.length):
 ACall Tryz.prog wz 85 [.ptr (.own kp) 0, .bool e] H (fun r h'=>r= .tuple [qdB v (Qd l i e), .bool (Qd l i e).ok]/\h'=H.set kp ⟨[v, .int .i64 (Qd l i e).at_],0⟩):=by
 have:=qsw wz (H.del kp) kp v l i e (YA kp) (hv.mono (qcT hs hb)) hl hi;simp only[qok]at this
 rwa [qnB hk]at this
theorem qbH{wz:World}{h:AHeap}{v:AVal}{l:List TokC}(hv:IsL wz h 5 v (l.map QI)){o:Opd}(h1:o.lo<=o.hi)(h2:o.hi<=l.length)(ok:o.ok=true):IsL wz h 5 (qdB v o) ((ZT l o.lo o.hi).map QI):=by
 have:=hv.sub (i:=o.lo) (j:=o.hi) h1 (by rw[Jp];exact h2);unfold qdB ZT;rw[if_pos ok,En,El];exact this
theorem qcC{wz:World}{h:AHeap}{v:AVal}{l:List TokC}(hv:IsL wz h 5 v (l.map QI))(o:Opd):(qdB v o).scal=true:=by
 unfold qdB;split
 ·generalize l.map QI=xs at hv
  cases hv with
  |nil=>rfl
  |mk lc of n c xs hn hw hc hl hcap=>cases c<;>rfl
 ·rfl
theorem qwH{wz:World}{h:AHeap}{es:Nat}{v:AVal}{xs:List (List AVal)}(hv:IsL wz h es v xs):Sc v:=by
 cases hv with
 |nil=>trivial
 |mk lc o n c xs hn hw hc hl hcap=>trivial
theorem qkS{wz:World}{h:AHeap}{v:AVal}{l:List TokC}(hv:IsL wz h 5 v (l.map QI))(o:Opd):Sc (qdB v o)=True:=by
 refine eq_true ?_;unfold qdB;split
 ·generalize l.map QI=xs at hv
  cases hv with
  |nil=>trivial
  |mk lc of n c xs hn hw hc hl hcap=>cases c<;>trivial
 ·trivial
abbrev RepQ:=RepC×AVal×AVal
def UT(q:RepQ):List AVal:=[q.2.1,q.2.2]
structure RepOk(wz:World)(h:AHeap)(q:RepQ):Prop where
 old:IsL wz h 5 q.2.1 (q.1.old.map QI)
 new:IsL wz h 5 q.2.2 (q.1.new.map QI)
theorem RepOk.mono{wz:World}{h h':AHeap}{q:RepQ}(hq:RepOk wz h q)(hs:Sub h h'):RepOk wz h' q:=⟨hq.old.mono hs,hq.new.mono hs⟩
def qzd(wz:World)(B:AHeap)(p:Pair)(r:AVal):Prop:=∃ov nv,r= .tuple [.agg [ov,nv], .bool p.ok]/\ov.scal=true/\nv.scal=true/\(p.ok=true->RepOk wz B (p.rep,ov,nv))
theorem qvd(wz:World)(H B:AHeap)(kp:Nat)(v:AVal)(l:List TokC)(i:Nat)(eb_p:H kp=some ⟨[v, .int .i64 i],0⟩)(hs_H:Sub B H)(hb:B kp=none)(hv:IsL wz B 5 v (l.map QI))(hl:l.length<=1099511627776)(hi:i<=l.length)(hok:(Qd l i false).ok=false):
 ACall Tryz.prog wz 67 [.ptr (.own kp) 0] H (fun r h'=>qzd wz B (XO l i) r/\h'=H.set kp ⟨[v, .int .i64 (XO l i).at_],0⟩):=by
 have hp:XO l i=⟨false,⟨[],[]⟩,(Qd l i false).at_⟩:=by unfold XO;simp only[hok,if_true]
 rw[hp];have hlv:=hv.live;have hss:=qcC hv (Qd l i false);have hsl:=Yu hss;obtain⟨ov,hov⟩:∃ov,ov=qdB v (Qd l i false):=⟨_,rfl⟩
 rw[<-hov]at hss hsl;refine qU (n:=29) (rs:=[.cell 2 46, .tmp 3]) Tryz.func67 rfl rfl rfl rfl (VN rfl) ?_;simp only[Qg];refine awp_rseq [0,2] (by rfl) fun K hK=>?_;refine Qi qvw (cs:=[.nilSlice, .nilSlice]) (by rfl) fun k0q0 hk0q0=>?_;have hn_0q0:H k0q0=none:=by first|assumption|(simp only[V9]at hk0q0;simp only[hk0q0])
 have hf_0q0:B k0q0=none:=Bi hs_H hn_0q0;have ne_0q0_p:k0q0≠kp:=Bj hn_0q0 eb_p;simp+decide only[qa,ev,qH,qG,putD,VO,VP,Ka,Kb,↓qd,qb];apply hK;clear hK K;refine awp_rseq [0,2,4,5] (by rfl) fun K hK=>?_;simp+decide only[ev,putD,VO,VQ,Ka,Kb,↓qg,qc];refine QU (by rfl) (by rfl) (qgY wz _ B kp v l i false zqA zqB hb hv hl hi) fun x1q1 h1q1 hx1q1=>?_;rw[<-hov,hok]at hx1q1;obtain⟨rfl,rfl⟩:=hx1q1;simp+decide only[qa,ev,putD,VO,VQ,VP,Ka,Kb,↓qg,qc,↓QY,QL,QV,KY,J9,VZ,Kn,↓qd,qb,VZ,Kn,Js,Nat.reduceAdd];apply hK;clear hK K;refine qJ ?_;refine awp_rseq [0,2,4,18] (by rfl) fun K hK=>?_;simp+decide only[ev,putD,VO,VQ,Ka,Kb,↓qg,qc,↓YI,Zl,YC,↓Xf,agP,Qv,qM,qK,Qh,implies_true,Er,V3,Zr];refine qaD (by rfl) (by rfl) ?_;simp+decide only[qa,ev,qH,qG,putD,VO,VQ,VP,Ka,Kb,qM,Qh,↓qde,Zl,agP,Qv,qK,V3,Zr,false_implies,qaF,↓QW,Qz,Qk];apply hK;clear hK K;refine qI (b:=_) rfl (fun hb1=>?_) (fun hb1=>?_)
 ·try simp only at hb1
  refine awp_rseq [2,3] (by rfl) fun K hK=>?_;simp+decide only[ev,qH,qG,putD,VO,VQ,if_false,Kb,↓Qu,↓Qa,qyN,evP,Vk];refine qp (by rfl) (by rfl) zqA qea (by rfl) (by rfl) zqD (Jt _) (by first|rfl|(simp+decide only[ev,putD,VO,VQ,Ka,VX,Qt,JU,Vg,hss])) ?_;simp only[VX];simp+decide only[qa,ev,qH,qG,putD,VO,VQ,VP,Ka,Kb,↓qd,qb,setAt,VY,Kj,Js];apply hK;clear hK K;refine qL ?_;try simp only[Qe]
  refine QD (?_) ?_
  ·simp+decide only[QG,qy,qj,VQ,Ka,and_true,qy,qj,qh qrh qea,qZ,qf,VZ,Kn,Js,QM,allLive,JU,qf,VZ,Kn,Js,QM,allLive,JU]
  simp+decide only[VQ,Ka,XA,qy,qj,qh qrh qea,qZ,qf,VZ,Kn,Js,QM,allLive,JU,qf,VZ,Kn,Js,QM,allLive,JU];refine⟨H.set kp ⟨[v, .int .i64 (Qd l i false).at_],0⟩,V5 (Bb (Vh hn_0q0) _ _) ((Vd _ _ ne_0q0_p).trans hn_0q0),⟨.nilSlice, .nilSlice,rfl,rfl,rfl,fun q=>by cases q⟩,rfl⟩
 ·exact absurd hb1 (by decide)
theorem qol(wz:World)(H B:AHeap)(kp:Nat)(v:AVal)(l:List TokC)(i:Nat)(s:Str)(hk:H kp=some ⟨[v, .int .i64 i],0⟩)(hs:Sub B H)(hv:IsL wz B 5 v (l.map QI))(hl:l.length<=1099511627776):
 ACall Tryz.prog wz 51 [.ptr (.own kp) 0, .str s] H (fun r h'=>r= .bool (XH l i s)/\h'=H.set kp ⟨[v, .int .i64 ((if XH l i s=true then i+1 else i:Nat):Int)],0⟩):=qzR wz H kp v l i s hk (hv.mono hs) hl
theorem qsv(wz:World)(H B:AHeap)(kp:Nat)(v:AVal)(l:List TokC)(i:Nat)(eb_p:H kp=some ⟨[v, .int .i64 i],0⟩)(hs_H:Sub B H)(hb:B kp=none)(hv:IsL wz B 5 v (l.map QI))(hl:l.length<=1099511627776)(hi:i<=l.length)(hok:(Qd l i false).ok=true):
 ACall Tryz.prog wz 67 [.ptr (.own kp) 0] H (fun r h'=>qzd wz B (XO l i) r/\h'=H.set kp ⟨[v, .int .i64 (XO l i).at_],0⟩):=by
 obtain⟨o1,o2,o3⟩:=Ur (e:=false) hi;obtain⟨o3,o4,o5⟩:=o3 hok;have hp:XO l i=if XH l (Qd l i false).at_ BY=false then⟨false,⟨[],[]⟩,(Qd l i false).at_⟩else⟨(Qd l ((Qd l i false).at_+1) true).ok,⟨ZT l (Qd l i false).lo (Qd l i false).hi,ZT l (Qd l ((Qd l i false).at_+1) true).lo (Qd l ((Qd l i false).at_+1) true).hi⟩,(Qd l ((Qd l i false).at_+1) true).at_⟩:=by
  conv=>lhs;unfold XO
  simp only[hok];rfl
 have hlv:=hv.live;have hsc:=fun o=>qcC hv o;have hsl:=fun o=>Yu (hsc o);have hSc:=fun o=>qkS hv o;obtain⟨a,ha⟩:∃a,a=Qd l i false:=⟨_,rfl⟩
 rw[<-ha]at hok hp o1 o2 o3 o4 o5;obtain⟨W,hW⟩:∃W,W=XH l a.at_ BY:=⟨_,rfl⟩
 refine qU (n:=29) (rs:=[.cell 2 46, .tmp 3]) Tryz.func67 rfl rfl rfl rfl (VN rfl) ?_;simp only[Qg];refine awp_rseq [0,2] (by rfl) fun K hK=>?_;refine Qi qvw (cs:=[.nilSlice, .nilSlice]) (by rfl) fun k0q0 hk0q0=>?_;have hn_0q0:H k0q0=none:=by first|assumption|(simp only[V9]at hk0q0;simp only[hk0q0])
 have hf_0q0:B k0q0=none:=Bi hs_H hn_0q0;have ne_0q0_p:k0q0≠kp:=Bj hn_0q0 eb_p;simp+decide only[qa,ev,qH,qG,putD,VO,VP,Ka,Kb,↓qd,qb];apply hK;clear hK K;refine awp_rseq [0,2,4,5] (by rfl) fun K hK=>?_;simp+decide only[ev,putD,VO,VQ,Ka,Kb,↓qg,qc];refine QU (by rfl) (by rfl) (qgY wz _ B kp v l i false zqA zqB hb hv hl hi) fun x1q1 h1q1 hx1q1=>?_;rw[<-ha,hok]at hx1q1;obtain⟨rfl,rfl⟩:=hx1q1;simp+decide only[qa,ev,putD,VO,VQ,VP,Ka,Kb,↓qg,qc,↓QY,QL,QV,KY,J9,VZ,Kn,↓qd,qb,VZ,Kn,Js,Nat.reduceAdd];apply hK;clear hK K;refine qJ ?_;refine awp_rseq [0,2,4,18] (by rfl) fun K hK=>?_;simp+decide only[ev,putD,VO,VQ,Ka,Kb,↓qg,qc,↓YI,Zl,YC,↓Xf,agP,Qv,qM,qK,Qh,implies_true,Er,V3,Qy];refine YM (by rfl) ?_;refine QU (by rfl) (by rfl) (qol wz _ B kp v l a.at_ BY (Ve _ _ _) zqB hv hl) fun x2q4 h2q4 hx2q4=>?_;obtain⟨rfl,rfl⟩:=hx2q4;rw[<-hW];simp+decide only[qa,ev,qH,qG,putD,VO,VQ,VP,Ka,Kb,qM,Qh,↓qde,Zl,agP,Qv,qK,implies_true,Er,Qy,BQ,YC,↓QW,Qz,Qk,ZO];apply hK;clear hK K;refine qI (b:=_) rfl (fun hb1=>?_) (fun hb1=>?_)
 ·try simp only[Jj]at hb1
  refine awp_rseq [2,3] (by rfl) fun K hK=>?_;simp+decide only[ev,qH,qG,putD,VO,VQ,if_false,Kb,↓Qu,↓Qa,qyN,evP,Vk];refine qp (by rfl) (by rfl) zqA qea (by rfl) (by rfl) zqD (Jt _) (by first|rfl|(simp+decide only[ev,putD,VO,VQ,Ka,VX,Qt,JU,Vg,hsc])) ?_;simp only[Vi,VX];simp+decide only[qa,ev,qH,qG,putD,VO,VQ,VP,Ka,Kb,↓qd,qb,setAt,VY,Kj,Js];apply hK;clear hK K;refine qL ?_;try simp only[Qe]
  refine QD (?_) ?_
  ·simp+decide only[QG,qy,qj,VQ,Ka,and_true,qy,qj,qh qrh qea,qZ,qf,VZ,Kn,Js,QM,allLive,JU,qf,VZ,Kn,Js,QM,allLive,JU]
  simp+decide only[VQ,Ka,XA,qy,qj,qh qrh qea,qZ,qf,VZ,Kn,Js,QM,allLive,JU,qf,VZ,Kn,Js,QM,allLive,JU];rw[if_pos (by rw[<-hW];exact hb1)]at hp;rw[hp];simp only[hb1,KW,if_false];exact⟨H.set kp ⟨[v, .int .i64 a.at_],0⟩,V5 (Bb (Vh hn_0q0) _ _) ((Vd _ _ ne_0q0_p).trans hn_0q0),⟨.nilSlice, .nilSlice,rfl,rfl,rfl,fun q=>by cases q⟩,rfl⟩
 ·try simp only[VU]at hb1
  rw[if_neg (by rw[<-hW,hb1];decide)]at hp;have hwl:a.at_<l.length:=UC (hW.symm.trans hb1);rw[hb1,if_pos rfl];obtain⟨p1,p2,p3⟩:=Ur (l:=l) (i:=a.at_+1) (e:=true) (by omega);obtain⟨b,hbo⟩:∃b,b=Qd l (a.at_+1) true:=⟨_,rfl⟩
  rw[<-hbo]at hp p1 p2 p3;refine qP ?_;change Awp _ _ _ _ _ _ _;refine awp_rseq [2,4,5,6] (by rfl) fun K hK=>?_;simp+decide only[ev,putD,VO,VQ,Ka,Kb,↓qg,qc];refine QU (by rfl) (by rfl) (qgY wz _ B kp v l (a.at_+1) true zqA zqB hb hv hl (by omega)) fun x4q1 h4q1 hx4q1=>?_;rw[<-hbo]at hx4q1;obtain⟨rfl,rfl⟩:=hx4q1;simp+decide only[qa,ev,putD,VO,VQ,VP,Ka,Kb,↓qg,qc,↓QY,QL,QV,KY,J9,VZ,Kn,↓qd,qb,VZ,Kn,Js,Nat.reduceAdd];apply hK;clear hK K;refine awp_rseq [2,3] (by rfl) fun K hK=>?_;simp+decide only[ev,qH,qG,putD,VO,VQ,Ka,Kb,↓qg,qc,↓Qu,↓Qa,qno,evP,Ke,Vk,hSc];refine qp (by rfl) (by rfl) zqA qea (by rfl) (by rfl) zqD (Jt _) (by first|rfl|(simp+decide only[ev,VQ,Ka,VX,Qt,JU,hsc])) ?_;simp only[Vi,VX];simp+decide only[qa,ev,putD,VO,VQ,VP,Ka,Kb,↓qd,qb,setAt,VY,Kj,Js];apply hK;clear hK K;refine qL ?_;refine QD (?_) ?_
  ·simp+decide only[QG,qy,qj,VQ,Ka,and_true,qy,qj,qh qrh qea,qZ,qf,VZ,Kn,Js,allLive,JU,qf,VZ,Kn,Js,allLive,JU,hsl]
  simp+decide only[VQ,Ka,XA,qy,qj,qh qrh qea,qZ,qf,VZ,Kn,Js,allLive,JU,qf,VZ,Kn,Js,allLive,JU,hsl];rw[hp];exact⟨H.set kp ⟨[v, .int .i64 b.at_],0⟩,V5 (Bb (Vh hn_0q0) _ _) ((Vd _ _ ne_0q0_p).trans hn_0q0),⟨_,_,rfl,hsc _,hsc _,fun q=>⟨qbH hv o4 o5.1 hok,qbH hv (p3 q).2.1 (p3 q).2.2.1 q⟩⟩,rfl⟩
theorem qBC(wz:World)(H B:AHeap)(kp:Nat)(v:AVal)(l:List TokC)(i:Nat)(eb_p:H kp=some ⟨[v, .int .i64 i],0⟩)(hs_H:Sub B H)(hb:B kp=none)(hv:IsL wz B 5 v (l.map QI))(hl:l.length<=1099511627776)(hi:i<=l.length):
 ACall Tryz.prog wz 67 [.ptr (.own kp) 0] H (fun r h'=>qzd wz B (XO l i) r/\h'=H.set kp ⟨[v, .int .i64 (XO l i).at_],0⟩):=by
 cases hok:(Qd l i false).ok with
 |false=>exact qvd wz H B kp v l i eb_p hs_H hb hv hl hi hok
 |true=>exact qsv wz H B kp v l i eb_p hs_H hb hv hl hi hok
def qbP(l:List TokC)(i:Nat)(first:Bool)(acc:List RepC):Pairs:=XB l (l.length+2-i) i first acc
theorem qfm{l:List TokC}{i:Nat}(hi:i<=l.length)(first:Bool)(acc:List RepC):qbP l i first acc=if first=true\/(i<l.length/\Xc l i [6]=false)then(if (XO l i).ok=false then⟨false,[],(XO l i).at_⟩else qbP l (XO l i).at_ false (acc++[(XO l i).rep]))else⟨true,acc,i⟩:=by
 unfold qbP;rw[show l.length+2-i=(l.length+1-i)+1 by omega,XB];split
 ·simp only
  split
  ·rfl
  ·rename_i h1 h2
   obtain⟨p1,p2,p3⟩:=qhF hi;have h3:(XO l i).ok=true:=by simpa using h2
   have:=(p3 h3).1;exact qaG l _ _ _ _ _ p2 (by omega) (by omega)
 ·rfl
def IsReps(wz:World)(h:AHeap)(v:AVal)(rs:List RepC):Prop:=∃qs:List RepQ,rs=qs.map (·.1)/\IsL wz h 2 v (qs.map UT)/\∀q∈qs,RepOk wz h q
theorem IsReps.mono{wz:World}{h h':AHeap}{v:AVal}{rs:List RepC}(hv:IsReps wz h v rs)(hs:Sub h h'):IsReps wz h' v rs:=by
 obtain⟨qs,h1,h2,h3⟩:=hv;exact⟨qs,h1,h2.mono hs,fun q hq=>(h3 q hq).mono hs⟩
theorem IsReps.none{wz:World}{h:AHeap}:IsReps wz h .nilSlice []:=⟨[],rfl, .nil,fun q hq=>by cases hq⟩
theorem qei{qs:List RepQ}:∀x∈qs.map UT,x.length=2:=fun x hx=>by obtain⟨y,_,rfl⟩:=JH.1 hx;rfl
theorem Uv(es:Nat)(b:Option Buf):(QH es b).cells=[QH es b]:=by cases b<;>rfl
def qnz(t:TokC)(rv:AVal):List AVal:=[.int .u8 t.kind.toNat, .str t.text, .int .i64 t.line, .int .i64 t.col, .bool t.left,rv]
structure NewE(B H E:AHeap):Prop where
 sub:Sub B E
 off:∀j,H j≠none->B j=none->E j=none
theorem NewE.refl(B H:AHeap):NewE B H B:=⟨Vm _,fun _ _ h=>h⟩
theorem qws{B H G:AHeap}{es kp:Nat}{pb:Option Buf}{c:Blk}(hok:bufOk G es pb)(hg:Sub (H.del kp) G)(hp:G kp=some c):NewE B H (Ql B pb)\/¬bufOk B es pb:=by
 by_cases hb:bufOk B es pb
 ·refine .inl ⟨BJ hb,fun j h1 h2=>?_⟩
  cases pb with
  |none=>exact h2
  |some b=>
   have hne:j≠b.blk:=fun e=>by
    have h0:G b.blk=none:=hok.1;subst e;by_cases e2:b.blk=kp
    ·rw[e2,hp]at h0;cases h0
    ·cases hj:H b.blk with
     |none=>exact h1 hj
     |some d=>
      have:=hg b.blk d (by simp only[Vl,e2,if_false];exact hj);rw[h0]at this;cases this
   exact(Vd _ _ hne).trans h2
 ·exact .inr hb
def qDh(wz:World)(H B:AHeap)(kp:Nat)(v:AVal)(s:Stm)(r:AVal)(h':AHeap):Prop:=
 Sub (H.del kp) h'/\h' kp=some ⟨[v, .int .i64 s.at_],0⟩/\∃rv E,r= .tuple [.agg (qnz s.name rv), .bool s.ok]/\NewE B H E/\Sub E h'/\IsReps wz E rv s.reps
structure StG where
 at_:Nat
 G:AHeap
 pb:Option Buf
 qs:List RepQ
structure StOk(wz:World)(H B:AHeap)(kp k0 k3:Nat)(v:AVal)(l:List TokC)(t:TokC)(s:StG):Prop where
 at_:s.at_<=l.length
 sub:Sub (H.del kp) s.G
 par:s.G kp=some ⟨[v, .int .i64 s.at_],0⟩
 res:s.G k0=some ⟨[.int .u8 0, .str [], .int .i64 0, .int .i64 0, .bool false, .nilSlice],0⟩
 stm:s.G k3=some ⟨[.int .u8 t.kind.toNat, .str t.text, .int .i64 t.line, .int .i64 t.col, .bool t.left,QH 2 s.pb],0⟩
 ok:bufOk s.G 2 s.pb
 eq:Yh s.pb=(s.qs.map UT).flatten
 reps:∀q∈s.qs,RepOk wz B q
 few:s.qs.length<=s.at_
set_option maxHeartbeats 2000000 in
theorem qpR(wz:World)(H B:AHeap)(kp:Nat)(v:AVal)(l:List TokC)(i:Nat)(eb_p:H kp=some ⟨[v, .int .i64 i],0⟩)(hs_H:Sub B H)(hb:B kp=none)(hv:IsL wz B 5 v (l.map QI))(hl:l.length<=1000000)(hi:i<=l.length):
 ACall Tryz.prog wz 52 [.ptr (.own kp) 0] H (fun r h'=>qDh wz H B kp v (Qn l i) r h'):=by
 have hlv:=hv.live;have nv:=Zc hv;obtain⟨k1,hk1⟩:∃k,k=Xc l i [1,3]:=⟨_,rfl⟩
 obtain⟨W,hW⟩:∃W,W=XH l (i+1) ZL:=⟨_,rfl⟩
 obtain⟨O,ho⟩:∃O,O=Qn l i:=⟨_,rfl⟩
 rw[<-ho];unfold Qn at ho;rw[<-hk1,<-hW]at ho;have hdel:Sub (H.del kp) H:=fun j b hj=>by
  by_cases e:j=kp
  ·subst e;rw[YA]at hj;cases hj
  ·simpa[Vl,e]using hj
 have hsB:Sub B (H.del kp):=qcT hs_H hb;have hso:(AVal.bool true).scal=true:=rfl;have hsn:(AVal.bool true).scal=true:=rfl;have hlo:(AVal.bool true).live=true:=rfl;have hln:(AVal.bool true).live=true:=rfl;have hSo:Sc .nilSlice=True:=eq_true trivial;have hSn:Sc .nilSlice=True:=eq_true trivial;have hbl:=QP 2 none;refine qU (n:=79) (rs:=[.cell 2 91, .tmp 3]) Tryz.func52 rfl rfl rfl rfl (VN rfl) ?_;simp only[Qg];refine awp_rseq [0,2] (by rfl) fun K hK=>?_;refine Qi qvu (cs:=[.int .u8 0, .str [], .int .i64 0, .int .i64 0, .bool false, .nilSlice]) (by rfl) fun k0q0 hk0q0=>?_;have hn_0q0:H k0q0=none:=by first|assumption|(simp only[V9]at hk0q0;simp only[hk0q0])
 have hf_0q0:B k0q0=none:=Bi hs_H hn_0q0;have ne_0q0_p:k0q0≠kp:=Bj hn_0q0 eb_p;simp+decide only[qa,ev,qH,qG,putD,VO,VP,Ka,Kb,↓qd,qb];apply hK;clear hK K;refine qJ ?_;refine awp_rseq [0,2,11] (by rfl) fun K hK=>?_;simp+decide only[ev,putD,VO,VQ,Ka,Kb,↓qg,qc];refine Qr (cs:=byteCells [1,3]) (by kernel_rfl) fun k1q1 hk1q1=>?_;have ne_1q1_0q0:k1q1≠k0q0:=by simp only[V9]at hk1q1;simp only[hk1q1,ne_eq,not_false_eq_true]
 have hn_1q1:H k1q1=none:=by first|assumption|(simp only[V9]at hk1q1;simp only[hk1q1])
 have hf_1q1:B k1q1=none:=Bi hs_H hn_1q1;have ne_1q1_p:k1q1≠kp:=Bj hn_1q1 eb_p;refine qO (V:= .bool k1) (by rfl) (by rfl) (by rw[hk1];exact qom wz _ kp _ l i _ [1,3] zqA (hv.mono zqB) (qcd (k:=k1q1) (ks:=[1,3]) zqA) (by decide)) ?_;simp+decide only[qa,ev,putD,VO,VQ,VP,Ka,Kb,↓YI,Zl,YC];apply hK;clear hK K;refine qI (b:=_) rfl (fun hb1=>?_) (fun hb1=>?_)
 ·try simp only[Jj]at hb1
  refine awp_rseq [2,3] (by rfl) fun K hK=>?_;simp+decide only[ev,qH,qG,putD,VO,VQ,if_false,Kb,↓Qu,↓Qa,qja,evP,Vk];refine qp (by rfl) (by rfl) zqA qaP (by rfl) (by rfl) zqD (Jt _) (by first|rfl|(simp+decide only[ev,putD,VO,VQ,Ka,VX,Qt,JU,Vg,hso,hsn,XR,XJ,XM,Xi])) ?_;simp only[VX];simp+decide only[qa,ev,qH,qG,putD,VO,VQ,VP,Ka,Kb,↓qd,qb,setAt,VY,Kj,Js,Nat.reduceAdd];apply hK;clear hK K;refine qL ?_;try simp only[Qe]
  refine QD (?_) ?_
  ·simp+decide only[QG,qy,qj,VQ,Ka,and_true,qy,qj,qh qeF qaP,qZ,qf,VZ,Kn,Js,Nat.reduceAdd,qD,qi,qE,QM,allLive,JU,qf,VZ,Kn,Js,Nat.reduceAdd,qD,qi,qE,QM,allLive,JU]
  simp+decide only[VQ,Ka,XA,qy,qj,qh qeF qaP,qZ,qf,VZ,Kn,Js,Nat.reduceAdd,qD,qi,qE,QM,allLive,JU,qf,VZ,Kn,Js,Nat.reduceAdd,qD,qi,qE,QM,allLive,JU];rw[if_pos hb1]at ho;rw[ho];exact⟨H,zqB,hdel,eb_p, .nilSlice,B,rfl,NewE.refl _ _,hs_H,IsReps.none⟩
 ·try simp only[VU]at hb1
  rw[if_neg (by rw[hb1];decide)]at ho;have hlt:i<l.length:=Yw (hk1.symm.trans hb1);obtain⟨lc,o,c,rfl⟩:=YD hv (by omega);obtain⟨t,ht⟩:∃t,t=l.getD i Zi:=⟨_,rfl⟩
  rw[show l.getD i noT=t from ht.symm]at ho;have hd0:(H.del kp) k0q0=none:=by simp[Vl,ne_0q0_p,hn_0q0]
  refine qP ?_;change Awp _ _ _ _ _ _ _;obtain⟨H3,hH3⟩:∃H3,H3=H.set k0q0 ⟨[.int .u8 0, .str [], .int .i64 0, .int .i64 0, .bool false, .nilSlice],0⟩:=⟨_,rfl⟩
  refine BI (h':=H3) (by rw[hH3];exact zqB) ?_;have hs_H3:Sub B H3:=by rw[hH3];exact zqB
  have hd3:Sub (H.del kp) H3:=by rw[hH3];exact hdel.trans (Vh hn_0q0)
  have eb_p:H3 kp=some ⟨[.slice lc o l.length c, .int .i64 i],0⟩:=by rw[hH3];exact zqA
  have eb_0q0:H3 k0q0=some ⟨[.int .u8 0, .str [], .int .i64 0, .int .i64 0, .bool false, .nilSlice],0⟩:=by rw[hH3];exact Ve _ _ _
  obtain⟨e0,e1,e2,e3,e4⟩:=YP (hv.mono hs_H3) hlt;rw[<-ht]at e0 e1 e2 e3 e4;have e2':rd wz H3 lc (o+i*5+1+1)= .int .i64 t.line:=e2;have e3':rd wz H3 lc (o+i*5+1+1+1)= .int .i64 t.col:=e3;have e4':rd wz H3 lc (o+i*5+1+1+1+1)= .bool t.left:=e4;refine Wo 12 [] [0,2,4] mixed (by kernel_rfl) (by rfl) fun K hK=>?_;simp only[Ki,V8,VE,KQ];simp+decide only[ev,qH,qG,putD,VO,VQ,Ka,Kb,↓Zd,qc,↓Uh,qV,QA,↓Yd,ql,qaJ,↓ZN,XU,qz qaw,Wn,qz ag3,↓qce,qW Tryz.underlying26 Xb,UF,qh ZB Xb,↓qac,↓Qa,qAk,evP,Ke,Vk,QB wz eb_p,qf,VZ,Kn,Js,qD,qi,qE,allLive,JU,hlv,e0,e1,e2',e3',e4',Vr];repeat (with_reducible refine And.intro ?_ ?_;· first|trivial|omega|(intro hg;simp only[Ky,JW,Jj,VS,VT,VU,decide_eq_true_eq,decide_eq_false_iff_not,XY]at hg;omega))
  refine qdH (by rfl) ?_;refine Qi qvu (cs:=[.int .u8 0, .str [], .int .i64 0, .int .i64 0, .bool false, .nilSlice]) (by rfl) fun k3q11 hk3q11=>?_;have hn_3q11:H3 k3q11=none:=by first|assumption|(simp only[V9]at hk3q11;simp only[hk3q11])
  have hf_3q11:B k3q11=none:=Bi hs_H3 hn_3q11;have ne_3q11_p:k3q11≠kp:=Bj hn_3q11 eb_p;have ne_3q11_0q0:k3q11≠k0q0:=Bj hn_3q11 eb_0q0;rw[qa];try simp only[YK]
  refine qp (by rfl) (by rfl) zqA qaP (by rfl) (by rfl) zqD (Jt _) (by first|rfl|(simp+decide only[ev,putD,VO,VQ,Ka,VX,Qt,JU,Vg,hso,hsn,XR,XJ,XM,Xi])) ?_;simp only[Vi,VX];simp+decide only[qa,ev,putD,VO,VQ,VP,Ka,setAt,VY,Kj,Js,Nat.reduceAdd];apply hK;clear hK K;refine awp_rseq [0,2,4] (by rfl) fun K hK=>?_;simp+decide only[ev,qH,qG,putD,VO,VQ,Ka,Kb,↓qg,qc,↓Qo,qV,QA,↓qB,ql,Wn,↓qF,qY,qz ag3,↓qw,qm,qA,cond_false,qo,Xa,QZ,ne_eq,not_false_eq_true,ne_3q11_p.symm,QB wz eb_p,VZ,Kn,Js,qi];try simp(disch:=omega)only[wrap_i64]
  refine qp (by rfl) (by rfl) zqA sz3 (by rfl) (by rfl) zqD (Jt _) (by first|rfl|(simp+decide only[ev,putD,VO,VQ,Ka,VX,Qt,JU,Vg,hso,hsn,XR,XJ,XM,Xi])) ?_;simp only[VX];simp+decide only[qa,ev,putD,VQ,VP,Ka,setAt,VY,Kj];apply hK;clear hK K;refine qJ ?_;refine awp_rseq [0,2,4,32] (by rfl) fun K hK=>?_;simp+decide only[ev,putD,VO,VQ,Ka,Kb,↓qg,qc];refine QU (by rfl) (by rfl) (qol wz _ B kp _ l (i+1) ZL zqA zqB hv (by omega)) fun x5q1 h5q1 hx5q1=>?_;rw[<-hW]at hx5q1;obtain⟨rfl,rfl⟩:=hx5q1;have hn3H:H k3q11=none:=by
   have:=hn_3q11;rw[hH3,Vd _ _ ne_3q11_0q0]at this;exact this
  obtain⟨P,hP⟩:∃P:Pairs,P=(if W=true then XB l (l.length+2) (i+2) true []else⟨true,[],i+1⟩):=⟨_,rfl⟩
  rw[<-hP]at ho;simp+decide only[qa,putD,VO,VP,Ka];apply hK;clear hK K;refine UH [0,2,4] (fun s:StG=>[(0, .ptr (.own kp) 0),(2, .ptr (.own k0q0) 0),(4, .ptr (.own k3q11) 0)]) (fun s:StG=>Ql s.G s.pb) (fun s:StG=>StOk wz H B kp k0q0 k3q11 (.slice lc o l.length c) l t s/\P=⟨true,s.qs.map (·.1),s.at_⟩) ?_ ?_
  ·refine qI (b:=_) rfl (fun hb2=>?_) (fun hb2=>?_)
   ·skip
    rw[if_pos hb2]at hP;have hlt2:i+1<l.length:=UC (hW.symm.trans hb2);have hPr:P=qbP l (i+2) true []:=hP.trans (qaG l _ _ _ _ _ (by omega) (by omega) (by omega));rw[hb2,if_pos rfl];obtain⟨G0,hG0⟩:∃G0,G0=(H3.set k3q11 ⟨[.int .u8 t.kind.toNat, .str t.text, .int .i64 t.line, .int .i64 t.col, .bool t.left, .nilSlice],0⟩).set kp ⟨[.slice lc o l.length c, .int .i64 ((i+2:Nat):Int)],0⟩:=⟨_,rfl⟩
    refine BI (h':=G0) (by rw[hG0];first|exact Vm _|(rw[Vi];exact Vm _)) ?_;have hs_G0:Sub B G0:=by rw[hG0];exact zqB
    have eb_p:G0 kp=some ⟨[.slice lc o l.length c, .int .i64 ((i+2:Nat):Int)],0⟩:=by rw[hG0];exact Ve _ _ _
    have eb_0q0:G0 k0q0=some ⟨[.int .u8 0, .str [], .int .i64 0, .int .i64 0, .bool false, .nilSlice],0⟩:=by rw[hG0];exact zqA
    have eb_3q11:G0 k3q11=some ⟨[.int .u8 t.kind.toNat, .str t.text, .int .i64 t.line, .int .i64 t.col, .bool t.left, .nilSlice],0⟩:=by rw[hG0];exact zqA
    have hdG0:Sub (H.del kp) G0:=by rw[hG0];exact ZU (hd3.trans (Vh hn_3q11)) (YA kp) _
    clear hG0;refine awp_rseq [0,2,4,5] (by rfl) fun K hK=>?_;simp+decide only[qa,ev,qH,qG,putD,VO,VP,Ka,Kb,↓qd,qb];apply hK;clear hK K;refine Qm ?_;refine XC [0,2,4,5] (fun g:Bool×StG=>[(0, .ptr (.own kp) 0),(2, .ptr (.own k0q0) 0),(4, .ptr (.own k3q11) 0),(5, .bool g.1)]) (fun g:Bool×StG=>Ql g.2.G g.2.pb) (fun g:Bool×StG=>StOk wz H B kp k0q0 k3q11 (.slice lc o l.length c) l t g.2/\P=qbP l g.2.at_ g.1 (g.2.qs.map (·.1))) (fun g:Bool×StG=>l.length-g.2.at_) ⟨true,⟨i+2,G0,none,[]⟩⟩ (by rfl) (Vm _) ⟨⟨by simp only;omega,hdG0,eb_p,eb_0q0,eb_3q11,trivial,rfl,(fun q hq=>by cases hq),Jt _⟩,hPr⟩ ?_;rintro⟨first,⟨at_,G,pb,qs⟩⟩ ⟨⟨g1,g2,g3,g4,g5,g6,g7,g8,g9⟩,hPr⟩;simp only at g1 g2 g3 g4 g5 g6 g7 g8 g9 hPr|-
    obtain⟨H7,hH7⟩:∃H7,H7=Ql G pb:=⟨_,rfl⟩
    have hs_H7:Sub B H7:=by rw[hH7];exact(hsB.trans g2).trans (BJ g6)
    have eb_p:H7 kp=some ⟨[.slice lc o l.length c, .int .i64 at_],0⟩:=by rw[hH7];exact ZY g6 g3
    have eb_0q0:H7 k0q0=some ⟨[.int .u8 0, .str [], .int .i64 0, .int .i64 0, .bool false, .nilSlice],0⟩:=by rw[hH7];exact ZY g6 g4
    have eb_3q11:H7 k3q11=some ⟨[.int .u8 t.kind.toNat, .str t.text, .int .i64 t.line, .int .i64 t.col, .bool t.left,QH 2 pb],0⟩:=by rw[hH7];exact ZY g6 g5
    have hbl:=QP 2 pb;rw[<-hH7];refine qJ ?_;refine qeC [0,1,2,3,4,5,6,7,8,9,10,11,12,13,14,15,16,17,18] [none,none,none,none,none,none,none,none,none,none,none,none,none,none,none,some 14,some 15,some 16,some 17] 19 [0,2,4,51] mixed (by kernel_rfl) (by rfl) fun K hK=>?_;simp only[Zy,VK,Ep,Kz,KM];simp+decide only[qa,ev,putD,VO,VQ,Ka,Kb,qco,qcJ,Yt,↓qg,qc,↓Xf,agP,Qv,qM,qK,Xg,We,qC,Qh,qpK,implies_true,↓YL,qV,QA,qcL,qcM,↓Xj,ql,Wn,ZH,ZI,↓Zn,XT,YY,qdg,qz ag3,qaJ,qz qaw,↓qdn,Qw,Zh Tryz.underlying26,qiU,qiV,↓Xd,qm,qR,cond_false,Zv,qbB,Zw,qbC,qo,XZ,QB wz eb_p,VZ,Kn,Js,qi,hlv];refine qjJ (cs:=byteCells [6]) (g:=QK (!first) (.bool (decide ((at_:Int)<l.length)))) (by rfl) (Xg _ _) (fun _=>by kernel_rfl) fun k7q14 h7q14 hs7 hb7=>?_;have hs_h7q14:Sub B h7q14:=BL zqC hs7;have hr_h7q14:Sub H7 h7q14:=BL zqC hs7;have eb_p:=hs7 kp _ zqA;have eb_0q0:=hs7 k0q0 _ zqA;have eb_3q11:=hs7 k3q11 _ zqA;rw[qa];refine And.intro (by first|exact Vm _|assumption|exact Vh (by assumption)) ?_;simp+decide only[putD,VO,if_false,qC,We]
    (refine ZC (V:= .bool (Xc l at_ [6])) (f:=_) (cap:=_) (xs:=_) (by first|rfl|(simp+decide only[gv,qM,VQ,Ka,Xg])) (fun hg=>⟨rfl,?_⟩) (fun hg=>qom wz _ kp _ l at_ _ [6] zqA (hv.mono zqB) (qcd (k:=k7q14) (ks:=[6]) (hb7 hg)) (by decide)) ?_;· (simp+decide only[gv,qM,VQ,Ka,qC,We]at hg;simp+decide only[evs,ev,VQ,Ka,hg,Qy,Bg,Ke,Vk]<;>try rfl))
    rw[qa];refine And.intro (by first|exact Vm _|assumption|exact Vh (by assumption)) ?_;simp+decide only[qa,ev,qH,qG,putD,VO,VQ,VP,Ka,Kb,Yt,gv,qM,qC,Qh,We,↓qde,Zl,agP,Qv,qK,Xg,implies_true,YC,qnd,qnh,↓qdf,Qz,Qk,ZA,qii,Xy,ZO,qif,qih,↓QW];apply hK;clear hK K;refine qI (b:=_) rfl (fun hb3=>?_) (fun hb3=>?_)
    ·try simp only[decide_eq_true_eq,Jj,Ky,JW]at hb3
     have hst:=qfm g1 first (qs.map (·.1))
     have hc3:first=true\/(at_<l.length/\Xc l at_ [6]=false):=by
      rcases hb3 with q|q
      ·exact .inl q
      ·exact .inr ⟨by omega,q.2⟩
     rw[if_pos hc3]at hst;obtain⟨p1,p2,p3⟩:=qhF (l:=l) (i:=at_) g1;obtain⟨p,hp⟩:∃p,p=XO l at_:=⟨_,rfl⟩
     rw[<-hp]at hst p1 p2 p3;refine qP ?_;change Awp _ _ _ _ _ _ _;refine qJ ?_;refine Qm ?_;refine awp_rseq [0,2,4,6,7] (by rfl) fun K hK=>?_;simp+decide only[ev,putD,VO,VQ,Ka,Kb,↓qg,qc];refine QU (by rfl) (by rfl) (qBC wz _ B kp _ l at_ zqA zqB hb hv (by omega) g1) fun x9q1 h9q1 hx9q1=>?_;rw[<-hp]at hx9q1;obtain⟨⟨ov,nw,rfl,hso,hsn,hrep⟩,rfl⟩:=hx9q1;have hlo:=Yu hso;have hln:=Yu hsn;simp+decide only[ev,putD,VO,VQ,Ka,Kb,↓qg,qc,↓QY,QL,QV,KY,J9,VZ,Kn,VZ,Kn,Js,Nat.reduceAdd];refine Qi qvw (cs:=[.nilSlice, .nilSlice]) (by rfl) fun k9q5 hk9q5=>?_;have hn_9q5:h7q14 k9q5=none:=by first|assumption|(simp only[V9]at hk9q5;simp only[hk9q5])
     have hf_9q5:B k9q5=none:=Bi hs_h7q14 hn_9q5;have ne_9q5_p:k9q5≠kp:=Bj hn_9q5 eb_p;have ne_9q5_0q0:k9q5≠k0q0:=Bj hn_9q5 eb_0q0;have ne_9q5_3q11:k9q5≠k3q11:=Bj hn_9q5 eb_3q11;refine qp (by rfl) (by rfl) zqA qea (by rfl) (by rfl) zqD (Jt _) (by first|rfl|(simp+decide only[ev,putD,VO,VQ,Ka,VX,Qt,JU,hso,hsn])) ?_;simp only[Vi,VX];simp+decide only[qa,ev,putD,VO,VQ,VP,Ka,Kb,↓qd,qb,setAt,VY,Kj,Js];apply hK;clear hK K;refine qJ ?_;refine awp_rseq [0,2,4,6,58] (by rfl) fun K hK=>?_;simp+decide only[qa,ev,putD,VO,VQ,VP,Ka,Kb,↓qg,qc,↓YI,Zl,YC];apply hK;clear hK K;refine qI (b:=_) rfl (fun hb4=>?_) (fun hb4=>?_)
     ·try simp only[Jj]at hb4
      rw[if_pos (by simpa using hb4)]at hst;rw[hPr,hst]at ho;refine awp_rseq [2,3] (by rfl) fun K hK=>?_;simp+decide only[ev,qH,qG,putD,VO,VQ,if_false,Kb,↓Qu,↓Qa,qja,evP,Vk];refine qp (by rfl) (by rfl) zqA qaP (by rfl) (by rfl) zqD (Jt _) (by first|rfl|(simp+decide only[ev,putD,VO,VQ,Ka,VX,Qt,JU,Vg,hso,hsn,XR,XJ,XM,Xi])) ?_;simp only[VX];simp+decide only[qa,ev,qH,qG,putD,VO,VQ,VP,Ka,Kb,↓qd,qb,setAt,VY,Kj,Js,Nat.reduceAdd];apply hK;clear hK K;refine qL ?_;try simp only[Qe,Qp]
      refine QD (?_) ?_
      ·simp+decide only[QG,qy,qj,VQ,Ka,and_true,qy,qj,qh qeF qaP,qZ,qf,VZ,Kn,Js,Nat.reduceAdd,qD,qi,qE,QM,allLive,JU,qf,VZ,Kn,Js,Nat.reduceAdd,qD,qi,qE,QM,allLive,JU]
      simp+decide only[VQ,Ka,XA,qy,qj,qh qeF qaP,qZ,qf,VZ,Kn,Js,Nat.reduceAdd,qD,qi,qE,QM,allLive,JU,qf,VZ,Kn,Js,Nat.reduceAdd,qD,qi,qE,QM,allLive,JU];have hsG:Sub G h7q14:=(show Sub G H7 by rw[hH7];exact BJ g6).trans hs7;have ho':O=qdD p.at_:=by rw[ho];rfl
      rw[ho'];refine⟨(G.set kp ⟨[.slice lc o l.length c, .int .i64 p.at_],0⟩).set k0q0 ⟨[.int .u8 0, .str [], .int .i64 0, .int .i64 0, .bool false, .nilSlice],0⟩,?_,?_⟩
      ·exact Bb (V5 (Bb hsG _ _) ((Vd _ _ ne_9q5_p).trans (Bi hsG hn_9q5))) _ _
      ·exact⟨ZU (ZU g2 (YA kp) _) hd0 _,(Vd _ _ ne_0q0_p.symm).trans (Ve _ _ _), .nilSlice,B,rfl,NewE.refl _ _,hsB.trans (ZU (ZU g2 (YA kp) _) hd0 _),IsReps.none⟩
     ·try simp only[VU]at hb4
      have hok:p.ok=true:=by simpa using hb4
      rw[if_neg (by rw[hok];decide)]at hst;have hsG:Sub G h7q14:=(show Sub G H7 by rw[hH7];exact BJ g6).trans hs7;have hrp:=hrep hok;have p4:=(p3 hok).1;refine qP ?_;change Awp _ _ _ _ _ _ _;refine XW [0,2,4] (by rfl) ?_;simp+decide only[ev,putD,VO,VQ,Ka,Kb,↓qB,ql,qsa,↓qF,qY,qz qAD,qh qrh qea,QZ,ne_eq,not_false_eq_true,ne_9q5_3q11.symm,QB wz eb_3q11,ne_3q11_p,QT,qf,VZ,Kn,Js,allLive,JU,hbl,hlo,hln];refine Qr (cs:=[ov,nw]) (by kernel_rfl) fun k12q3 hk12q3=>?_;have ne_12q3_9q5:k12q3≠k9q5:=by simp only[V9]at hk12q3;simp only[hk12q3,ne_eq,not_false_eq_true]
      have hn_12q3:h7q14 k12q3=none:=by first|assumption|(simp only[V9]at hk12q3;simp only[hk12q3])
      have hf_12q3:B k12q3=none:=Bi hs_h7q14 hn_12q3;have ne_12q3_p:k12q3≠kp:=Bj hn_12q3 eb_p;have ne_12q3_0q0:k12q3≠k0q0:=Bj hn_12q3 eb_0q0;have ne_12q3_3q11:k12q3≠k3q11:=Bj hn_12q3 eb_3q11;refine Xt (es:=2) (zs:=qs.map UT) (xs:=[[ov,nw]]) (hZ:=G.set kp ⟨[.slice lc o l.length c, .int .i64 p.at_],0⟩) (b:=pb) (by rfl) (by rfl) Tryz.underlying43 Tryz.underlying43 (fun k e=>by cases e) qea qCI qvw (by rfl) (by decide) (by rfl) (Yk g6 g3 _) g7 qei (by rw[<-Wv g6 g3,<-hH7];exact V5 (V5 (Bb hs7 _ _) ((Vd _ _ ne_9q5_p).trans (Bi hs7 hn_9q5))) ((Vd _ _ ne_12q3_p).trans (Bi hs7 hn_12q3))) (by rfl) (IsL.own (Ve _ _ _) (by simp) (by rfl) (by simp[allLive,hlo,hln]) (.exact 1) (KL _)) (by simp[Qt,hso,hsn]) (by simp;omega) (by simp;omega) fun pb2 h12 o1 o2 o3=>?_;have eb12:h12 k3q11=some ⟨[.int .u8 t.kind.toNat, .str t.text, .int .i64 t.line, .int .i64 t.col, .bool t.left,QH 2 pb],0⟩:=o3 _ _ (ZY o1 ((Vd _ _ ne_3q11_p).trans g5));simp+decide only[ev,putD,VO,VQ,Ka,Kb,↓qB,ql,qsa,Js];refine qp (v:=QH 2 pb2) (by rfl) (by rfl) eb12 qCh (QP _ _) (by rw[Uv];rfl) (KL _) (Jt _) (by rw[Uv];simp[Qt,XR]) ?_;simp only[setAt,Uv];simp+decide only[qa,putD,VP,Ka];change Awp _ _ _ _ _ _ _;refine XW [0,2,4,5] (by rfl) ?_;simp+decide only[qa,ev,qH,qG,putD,VO,VP,Ka,Kb,↓qd,qb];try simp only[Qj]
      exact⟨(false,⟨p.at_,(G.set kp ⟨[.slice lc o l.length c, .int .i64 p.at_],0⟩).set k3q11 ⟨[.int .u8 t.kind.toNat, .str t.text, .int .i64 t.line, .int .i64 t.col, .bool t.left,QH 2 pb2],0⟩,pb2,qs++[(p.rep,ov,nw)]⟩),rfl,by rw[<-Wv o1 ((Vd _ _ ne_3q11_p).trans g5)];exact Bb o3 _ _,⟨⟨p2,ZU (ZU g2 (YA kp) _) (by simp[Vl,ne_3q11_p,hn3H]) _,(Vd _ _ ne_3q11_p.symm).trans (Ve _ _ _),(Vd _ _ ne_3q11_0q0.symm).trans ((Vd _ _ ne_0q0_p).trans g4),Ve _ _ _,Yk o1 ((Vd _ _ ne_3q11_p).trans g5) _,by rw[o2,Bd];rfl,fun q hq=>by
       rcases JJ.1 hq with z|z
       ·exact g8 q z
       ·rw[BG.1 z];exact hrp,by(simp only[Jc,KY,J9];omega)⟩,by simp only;rw[hPr,hst,Bd];rfl⟩,by simp only;omega⟩
    ·try simp only[decide_eq_false_iff_not,VU,VS,VT]at hb3
     have hst:=qfm g1 first (qs.map (·.1))
     have hc3:¬(first=true\/(at_<l.length/\Xc l at_ [6]=false)):=by
      rintro(q|⟨q1,q2⟩)
      ·rw[q]at hb3
       exact absurd hb3.1 (by decide)
      ·rcases hb3.2 with z|z
       ·omega
       ·rw[q2]at z;cases z
     rw[if_neg hc3]at hst;rw[hst]at hPr;refine XE ?_;first
     |exact⟨⟨at_,G,pb,qs⟩,rfl,by rw[hH7]at hs7;exact hs7,⟨g1,g2,g3,g4,g5,g6,g7,g8,g9⟩,hPr⟩
     |exact⟨⟨i+1,(H3.set k3q11 ⟨[.int .u8 t.kind.toNat, .str t.text, .int .i64 t.line, .int .i64 t.col, .bool t.left, .nilSlice],0⟩).set kp ⟨[.slice lc o l.length c, .int .i64 ((i+1:Nat):Int)],0⟩,none,[]⟩,rfl,(by first|exact Vm _|(simp only[Ql,Vi];exact Vm _)),⟨by(simp only;omega),ZU (hd3.trans (Vh hn_3q11)) (YA kp) _,Ve _ _ _,zqA,zqA,trivial,rfl,(fun q hq=>by cases hq),Jt _⟩,hP⟩
   ·skip
    rw[if_neg (by rw[hb2];decide)]at hP;rw[hb2,if_neg (by decide)];refine qP ?_;try simp only[Qj]
    first
    |exact⟨⟨at_,G,pb,qs⟩,rfl,by rw[hH7]at hs7;exact hs7,⟨g1,g2,g3,g4,g5,g6,g7,g8,g9⟩,hPr⟩
    |exact⟨⟨i+1,(H3.set k3q11 ⟨[.int .u8 t.kind.toNat, .str t.text, .int .i64 t.line, .int .i64 t.col, .bool t.left, .nilSlice],0⟩).set kp ⟨[.slice lc o l.length c, .int .i64 ((i+1:Nat):Int)],0⟩,none,[]⟩,rfl,(by first|exact Vm _|(simp only[Ql,Vi];exact Vm _)),⟨by(simp only;omega),ZU (hd3.trans (Vh hn_3q11)) (YA kp) _,Ve _ _ _,zqA,zqA,trivial,rfl,(fun q hq=>by cases hq),Jt _⟩,hP⟩
  ·rintro⟨at_,G,pb,qs⟩ ⟨⟨g1,g2,g3,g4,g5,g6,g7,g8,g9⟩,hPe⟩
   simp only at g1 g2 g3 g4 g5 g6 g7 g8 g9 hPe|-
   rw[hPe]at ho;obtain⟨H7,hH7⟩:∃H7,H7=Ql G pb:=⟨_,rfl⟩
   have hs_H7:Sub B H7:=by rw[hH7];exact(hsB.trans g2).trans (BJ g6)
   have hsG:Sub G H7:=by rw[hH7];exact BJ g6
   have eb_p:H7 kp=some ⟨[.slice lc o l.length c, .int .i64 at_],0⟩:=by rw[hH7];exact ZY g6 g3
   have eb_0q0:H7 k0q0=some ⟨[.int .u8 0, .str [], .int .i64 0, .int .i64 0, .bool false, .nilSlice],0⟩:=by rw[hH7];exact ZY g6 g4
   have eb_3q11:H7 k3q11=some ⟨[.int .u8 t.kind.toNat, .str t.text, .int .i64 t.line, .int .i64 t.col, .bool t.left,QH 2 pb],0⟩:=by rw[hH7];exact ZY g6 g5
   have hbl:=QP 2 pb;rw[<-hH7];refine qJ ?_;skip;refine awp_rseq [0,2,4,69] (by rfl) fun K hK=>?_;simp+decide only[ev,putD,VO,VQ,Ka,Kb,↓qg,qc];refine Qr (cs:=byteCells [6]) (by kernel_rfl) fun k13q1 hk13q1=>?_;have hn_13q1:H7 k13q1=none:=by first|assumption|(simp only[V9]at hk13q1;simp only[hk13q1])
   have hf_13q1:B k13q1=none:=Bi hs_H7 hn_13q1;have ne_13q1_p:k13q1≠kp:=Bj hn_13q1 eb_p;have ne_13q1_0q0:k13q1≠k0q0:=Bj hn_13q1 eb_0q0;have ne_13q1_3q11:k13q1≠k3q11:=Bj hn_13q1 eb_3q11;refine qO (V:= .bool (Xc l at_ [6])) (by rfl) (by rfl) (qom wz _ kp _ l at_ _ [6] zqA (hv.mono zqB) (qcd (k:=k13q1) (ks:=[6]) zqA) (by decide)) ?_;simp+decide only[qa,ev,putD,VO,VQ,VP,Ka,Kb,↓YI,Zl,YC];apply hK;clear hK K;refine qI (b:=_) rfl (fun hb5=>?_) (fun hb5=>?_)
   ·try simp only[Jj]at hb5
    refine awp_rseq [2,3] (by rfl) fun K hK=>?_;simp+decide only[ev,qH,qG,putD,VO,VQ,if_false,Kb,↓Qu,↓Qa,qja,evP,Vk];refine qp (by rfl) (by rfl) zqA qaP (by rfl) (by rfl) zqD (Jt _) (by first|rfl|(simp+decide only[ev,putD,VO,VQ,Ka,VX,Qt,JU,Vg,hso,hsn,XR,XJ,XM,Xi])) ?_;simp only[VX];simp+decide only[qa,ev,qH,qG,putD,VO,VQ,VP,Ka,Kb,↓qd,qb,setAt,VY,Kj,Js,Nat.reduceAdd];apply hK;clear hK K;refine qL ?_;try simp only[Qe]
    refine QD (?_) ?_
    ·simp+decide only[QG,qy,qj,VQ,Ka,and_true,qy,qj,qh qeF qaP,qZ,qf,VZ,Kn,Js,Nat.reduceAdd,qD,qi,qE,QM,allLive,JU,qf,VZ,Kn,Js,Nat.reduceAdd,qD,qi,qE,QM,allLive,JU]
    simp+decide only[VQ,Ka,XA,qy,qj,qh qeF qaP,qZ,qf,VZ,Kn,Js,Nat.reduceAdd,qD,qi,qE,QM,allLive,JU,qf,VZ,Kn,Js,Nat.reduceAdd,qD,qi,qE,QM,allLive,JU];have ho':O=qdD at_:=by
     rw[ho];unfold Ze;simp only[hb5,if_true,Es,if_false]
    rw[ho'];exact⟨G.set k0q0 ⟨[.int .u8 0, .str [], .int .i64 0, .int .i64 0, .bool false, .nilSlice],0⟩,Bb (V5 hsG (Bi hsG hn_13q1)) _ _,ZU g2 hd0 _,(Vd _ _ ne_0q0_p.symm).trans g3, .nilSlice,B,rfl,NewE.refl _ _,hsB.trans (ZU g2 hd0 _),IsReps.none⟩
   ·try simp only[VU]at hb5
    have ho':O=⟨true,t,qs.map (·.1),at_+1⟩:=by
     rw[ho];unfold Ze;simp only[hb5,if_false,Es]
    refine qP ?_;change Awp _ _ _ _ _ _ _;refine awp_rseq [2,4] (by rfl) fun K hK=>?_;simp+decide only[ev,qH,qG,putD,VO,VQ,Ka,Kb,↓qg,qc,↓Qo,qV,QA,↓qB,ql,Wn,↓qF,qY,qz ag3,↓qw,qm,qA,cond_false,qo,Xa,QZ,ne_eq,not_false_eq_true,ne_13q1_p.symm,QB wz eb_p,VZ,Kn,Js,qi];try simp(disch:=omega)only[wrap_i64]
    refine qp (by rfl) (by rfl) zqA sz3 (by rfl) (by rfl) zqD (Jt _) (by first|rfl|(simp+decide only[ev,putD,VO,VQ,Ka,VX,Qt,JU,Vg,hso,hsn,XR,XJ,XM,Xi])) ?_;simp only[VX];simp+decide only[qa,ev,putD,VQ,VP,Ka,setAt,VY,Kj];apply hK;clear hK K;refine awp_rseq [2,3] (by rfl) fun K hK=>?_;simp+decide only[ev,putD,VO,VQ,Ka,Kb,↓qF,qY,qh qeF qaP,QZ,ne_eq,not_false_eq_true,ne_13q1_3q11.symm,QB wz eb_3q11,ne_3q11_p,qf,VZ,Kn,Js,Nat.reduceAdd,qD,qi,qE,allLive,JU,hbl];refine qp (by rfl) (by rfl) zqA qaP (by rfl) (by rfl) zqD (Jt _) (by first|rfl|(simp+decide only[ev,VQ,Ka,VX,Qt,JU,XR,XJ,XM,Xi])) ?_;simp only[VX];simp+decide only[qa,ev,qH,qG,putD,VO,VQ,VP,Ka,Kb,↓qd,qb,setAt,VY,Kj,Js,Nat.reduceAdd];apply hK;clear hK K;refine qL ?_;refine QD (?_) ?_
    ·simp+decide only[QG,qy,qj,VQ,Ka,and_true,qy,qj,qh qeF qaP,qZ,qf,VZ,Kn,Js,Nat.reduceAdd,qD,qi,qE,allLive,JU,qf,VZ,Kn,Js,Nat.reduceAdd,qD,qi,qE,allLive,JU,hbl]
    simp+decide only[VQ,Ka,XA,qy,qj,qh qeF qaP,qZ,qf,VZ,Kn,Js,Nat.reduceAdd,qD,qi,qE,allLive,JU,qf,VZ,Kn,Js,Nat.reduceAdd,qD,qi,qE,allLive,JU,hbl];rw[ho'];have k1:bufOk ((G.set kp ⟨[.slice lc o l.length c, .int .i64 ((at_+1:Nat):Int)],0⟩).set k0q0 ⟨[.int .u8 t.kind.toNat, .str t.text, .int .i64 t.line, .int .i64 t.col, .bool t.left,QH 2 pb],0⟩) 2 pb:=Yk (Yk g6 g3 _) ((Vd _ _ ne_0q0_p).trans g4) _;have k2:bufOk B 2 pb:=g6.sub (hsB.trans g2);have k3:=(qws (B:=B) g6 g2 g3).resolve_right (fun n=>n k2);refine⟨Ql ((G.set kp ⟨[.slice lc o l.length c, .int .i64 ((at_+1:Nat):Int)],0⟩).set k0q0 ⟨[.int .u8 t.kind.toNat, .str t.text, .int .i64 t.line, .int .i64 t.col, .bool t.left,QH 2 pb],0⟩) pb,?_,?_,?_,QH 2 pb,Ql B pb,rfl,k3,?_,qs,rfl,IsL.buf k2 (by decide) g7 qei (Vm _),fun q hq=>(g8 q hq).mono k3.sub⟩
    ·rw[<-Wv (Yk g6 g3 _) ((Vd _ _ ne_0q0_p).trans g4),<-Wv g6 g3,<-hH7]
     exact Bb (Bb (Vh hn_13q1) _ _) _ _
    ·exact(ZU (ZU g2 (YA kp) _) hd0 _).trans (BJ k1)
    ·exact ZY k1 ((Vd _ _ ne_0q0_p.symm).trans (Ve _ _ _))
    ·exact Sub.bufBoth (hsB.trans (ZU (ZU g2 (YA kp) _) hd0 _))
theorem qdO{l:List TokC}{i:Nat}(hi:i<l.length):Xm l i=if XH l i COPY=true then i else Xm l (i+1):=by
 have hw:XH l i COPY=(decide ((l.getD i noT).kind=1) && decide ((l.getD i noT).text=COPY)):=by
  unfold XH Xc;rw[decide_eq_true hi,Vg];congr 1;simp
 unfold Xm;rw[qgp noT hi,BZ,hw];cases (decide ((l.getD i noT).kind=1) && decide ((l.getD i noT).text=COPY))with
 |true=>simp
 |false=>
  simp only[Er,if_true,KW,if_false,KY];omega
theorem qyn{l:List TokC}{i:Nat}(hi:l.length<=i):Xm l i=i:=by
 unfold Xm;rw[Vu hi];rfl
theorem NewE.none{B H E:AHeap}(h:NewE B H E){k:Nat}{c:Blk}(hk:H k=some c)(hb:B k=Option.none):E k=Option.none:=h.off k (by rw[hk];exact fun e=>by cases e) hb
def qkU(b:AVal)(t:TokC)(rv:AVal)(more:Bool)(f:FaultC):AVal:= .tuple [b, .agg (qnz t rv), .bool more,QC f]
def qCR(wz:World)(H B:AHeap)(kp:Nat)(v:AVal)(l:List TokC)(i:Nat)(r:AVal)(h':AHeap):Prop:=
 Sub (H.del kp) h'/\∃j:Nat,h' kp=some ⟨[v, .int .i64 j],0⟩/\j<=l.length/\
  ((l.length<=Xm l i/\∃bv,r=qkU bv noT .nilSlice false okF/\IsL wz B 5 bv ((l.drop i).map QI))\/
   (Xm l i<l.length/\(Qn l (Xm l i+1)).ok=false/\r=qkU .nilSlice noT .nilSlice false (qao l (Xm l i) (Qn l (Xm l i+1)).at_))\/
   (Xm l i<l.length/\(Qn l (Xm l i+1)).ok=true/\j=(Qn l (Xm l i+1)).at_/\∃bv rv E,r=qkU bv (Qn l (Xm l i+1)).name rv true okF/\IsL wz B 5 bv ((ZT l i (Xm l i)).map QI)/\NewE B H E/\Sub E h'/\IsReps wz E rv (Qn l (Xm l i+1)).reps))
set_option maxHeartbeats 2000000 in
theorem qAa(wz:World)(H B:AHeap)(kp:Nat)(v:AVal)(l:List TokC)(i:Nat)(eb_p:H kp=some ⟨[v, .int .i64 i],0⟩)(hs_H:Sub B H)(hb:B kp=none)(hv:IsL wz B 5 v (l.map QI))(hl:l.length<=1000000)(hi:i<=l.length):
 ACall Tryz.prog wz 43 [.ptr (.own kp) 0] H (qCR wz H B kp v l i):=by
 have hlv:=hv.live;have nv:=Zc hv;have hdel:Sub (H.del kp) H:=fun j b hj=>by
  by_cases e:j=kp
  ·subst e;rw[YA]at hj;cases hj
  ·simpa[Vl,e]using hj
 have hd_p:(H.del kp) kp=none:=YA kp;have hsB:Sub B (H.del kp):=qcT hs_H hb;have hsl:∀a b,(qhs 5 v a b).live=true:=fun a b=>Yu (qcC hv ⟨true,a,b,0⟩);have hrl:(AVal.bool true).live=true:=rfl;have hrc:(AVal.bool true).scal=true:=rfl;refine qU (n:=95) (rs:=[.tmp 2, .cell 3 91, .tmp 4, .cell 5 35]) Tryz.func43 rfl rfl rfl rfl (VN rfl) ?_;simp only[Qg];refine awp_rseq [0,3,5] (by rfl) fun K hK=>?_;simp+decide only[ev,qH,qG,putD,VO,if_false,Kb,↓qd,qb];refine Qi qvu (cs:=[.int .u8 0, .str [], .int .i64 0, .int .i64 0, .bool false, .nilSlice]) (by rfl) fun k0q1 hk0q1=>?_;have hn_0q1:H k0q1=none:=by first|assumption|(simp only[V9]at hk0q1;simp only[hk0q1])
 have hf_0q1:B k0q1=none:=Bi hs_H hn_0q1;have ne_0q1_p:k0q1≠kp:=Bj hn_0q1 eb_p;simp+decide only[ev,qH,qG,putD,VO,if_false,Kb,↓qd,qb];refine Qi qaE (cs:=[.int .i64 0, .int .i64 0, .int .i64 0]) (by rfl) fun k0q3 hk0q3=>?_;have ne_0q3_0q1:k0q3≠k0q1:=by simp only[V9]at hk0q3;simp only[hk0q3,ne_eq,not_false_eq_true]
 have hn_0q3:H k0q3=none:=by first|assumption|(simp only[V9]at hk0q3;simp only[hk0q3])
 have hf_0q3:B k0q3=none:=Bi hs_H hn_0q3;have ne_0q3_p:k0q3≠kp:=Bj hn_0q3 eb_p;simp+decide only[qa,putD,VO,VP,Ka];apply hK;clear hK K;obtain⟨H0,hH0⟩:∃H0,H0=(H.set k0q1 ⟨[.int .u8 0, .str [], .int .i64 0, .int .i64 0, .bool false, .nilSlice],0⟩).set k0q3 ⟨[.int .i64 0, .int .i64 0, .int .i64 0],0⟩:=⟨_,rfl⟩
 refine BI (h':=H0) (by rw[hH0];exact Vm _) ?_;have hs_H0:Sub B H0:=by rw[hH0];exact zqB
 have hd0:Sub (H.del kp) H0:=by rw[hH0];exact hdel.trans (V5 (Vh hn_0q1) hn_0q3)
 have eb_p:H0 kp=some ⟨[v, .int .i64 i],0⟩:=by rw[hH0];exact zqA
 have eb_0q1:H0 k0q1=some ⟨[.int .u8 0, .str [], .int .i64 0, .int .i64 0, .bool false, .nilSlice],0⟩:=by rw[hH0];exact zqA
 have eb_0q3:H0 k0q3=some ⟨[.int .i64 0, .int .i64 0, .int .i64 0],0⟩:=by rw[hH0];exact zqA
 have hd_0q1:(H.del kp) k0q1=none:=hdel.none hn_0q1;have hd_0q3:(H.del kp) k0q3=none:=hdel.none hn_0q3;clear hH0;refine awp_rseq [0,3,5,6] (by rfl) fun K hK=>?_;simp+decide only[qa,ev,putD,VO,VQ,VP,Ka,Kb,↓qg,qc,↓Qo,qV,QA,↓qB,ql,Wn,↓qF,qY,qz ag3,↓qd,qb,QB wz eb_p,VZ,Kn,Js,qi];apply hK;clear hK K;refine qJ ?_;refine Qm ?_;refine XC [0,3,5,6] (fun j:Nat=>[(0, .ptr (.own kp) 0),(3, .ptr (.own k0q1) 0),(5, .ptr (.own k0q3) 0),(6, .int .i64 i)]) (fun j:Nat=>H0.set kp ⟨[v, .int .i64 j],0⟩) (fun j:Nat=>i<=j/\j<=l.length/\Xm l j=Xm l i) (fun j:Nat=>l.length-j) i (by rfl) (by rw[qnB eb_p];exact Vm _) ⟨KL _,hi,rfl⟩ ?_;rintro j ⟨hj1,hj2,hj3⟩;obtain⟨H1,hH1⟩:∃H1,H1=H0.set kp ⟨[v, .int .i64 j],0⟩:=⟨_,rfl⟩
 have hs_H1:Sub B H1:=by rw[hH1];exact ZU hs_H0 hb _
 have hd1:Sub (H.del kp) H1:=by rw[hH1];exact ZU hd0 hd_p _
 have eb_p:H1 kp=some ⟨[v, .int .i64 j],0⟩:=by rw[hH1];exact Ve _ _ _
 have eb_0q1:H1 k0q1=some ⟨[.int .u8 0, .str [], .int .i64 0, .int .i64 0, .bool false, .nilSlice],0⟩:=by rw[hH1];exact zqA
 have eb_0q3:H1 k0q3=some ⟨[.int .i64 0, .int .i64 0, .int .i64 0],0⟩:=by rw[hH1];exact zqA
 rw[<-hH1];refine qJ ?_;refine Zt [0,3,5,6,23] mixed (by kernel_rfl) (by rfl) (by rfl) fun K hK=>?_;simp+decide only[qa,ev,putD,VO,VQ,VP,Ka,Kb,↓qg,qc,↓Qo,qV,QA,↓qB,ql,Wn,↓qF,qY,qz ag3,qaJ,qz qaw,↓Xe,Qw,↓qw,qm,qR,cond_false,qo,XZ,QB wz eb_p,VZ,Kn,Js,qi,hlv,nv];apply hK;clear hK K;refine qI (b:=_) rfl (fun hb1=>?_) (fun hb1=>?_)
 ·try simp only[decide_eq_true_eq]at hb1
  have hjl:j<l.length:=by omega
  obtain⟨W,hW⟩:∃W,W=XH l j COPY:=⟨_,rfl⟩
  have hcs:=qdO hjl;rw[<-hW]at hcs;refine qP ?_;change Awp _ _ _ _ _ _ _;refine Qm ?_;refine awp_rseq [0,3,5,6,7] (by rfl) fun K hK=>?_;simp+decide only[qa,ev,putD,VO,VQ,VP,Ka,Kb,↓qg,qc,↓Qo,qV,QA,↓qB,ql,Wn,↓qF,qY,qz ag3,↓qd,qb,QB wz eb_p,VZ,Kn,Js,qi];apply hK;clear hK K;refine qJ ?_;refine awp_rseq [0,3,5,6,7,30] (by rfl) fun K hK=>?_;simp+decide only[ev,putD,VO,VQ,Ka,Kb,↓qg,qc];refine QU (by rfl) (by rfl) (qol wz _ B kp _ l j COPY zqA zqB hv (by omega)) fun x4q1 h4q1 hx4q1=>?_;rw[<-hW]at hx4q1;obtain⟨rfl,rfl⟩:=hx4q1;simp+decide only[qa,ev,putD,VO,VQ,VP,Ka,Kb,↓YI,Zl,YC];apply hK;clear hK K;refine qI (b:=_) rfl (fun hb2=>?_) (fun hb2=>?_)
  ·try simp only[Jj]at hb2
   rw[if_neg (by simpa using hb2)]at hcs;have hWf:W=false:=by simpa using hb2
   rw[hWf,if_neg (by decide)];refine awp_rseq [0,3,5,6] (by rfl) fun K hK=>?_;simp+decide only[ev,qH,qG,putD,VO,VQ,Ka,Kb,↓qg,qc,↓Qo,qV,QA,↓qB,ql,Wn,↓qF,qY,qz ag3,↓qw,qm,qA,cond_false,qo,Xa,QT,VZ,Kn,Js,qi];try simp(disch:=omega)only[wrap_i64]
   refine qp (by rfl) (by rfl) zqA sz3 (by rfl) (by rfl) zqD (Jt _) (by first|rfl|(simp+decide only[ev,putD,VO,VQ,Ka,VX,Qt,JU,Vg,hrc,XJ,XM,Xi])) ?_;simp only[Vi,VX];simp+decide only[qa,ev,putD,VQ,VP,Ka,setAt,VY,Kj];apply hK;clear hK K;refine XE ?_;exact⟨j+1,rfl,by(rw[hH1];simp only[Vi];exact Vm _),⟨by omega,hjl,by rw[<-hcs];exact hj3⟩,by omega⟩
  ·try simp only[VU]at hb2
   rw[if_pos (by simpa using hb2)]at hcs;have hci:Xm l i=j:=by rw[<-hj3];exact hcs
   have hWt:W=true:=by simpa using hb2
   rw[hWt,if_pos rfl];refine qP ?_;change Awp _ _ _ _ _ _ _;refine awp_rseq [0,3,5,6,7,8,9] (by rfl) fun K hK=>?_;simp+decide only[ev,putD,VO,VQ,Ka,Kb,↓qg,qc];refine QU (by rfl) (by rfl) (qpR wz _ B kp v l (j+1) zqA zqB hb hv hl (by omega)) fun x6q1 h6q1 hx6q1=>?_;obtain⟨st,hst⟩:∃st,st=Qn l (j+1):=⟨_,rfl⟩
   rw[<-hst]at hx6q1;obtain⟨hsub6,eb_p,rv,E,rfl,hE6,hE6s,hrp⟩:=hx6q1;have hstm:=Ul (l:=l) (i:=j+1) (by omega);rw[<-hst]at hstm;have hd6':Sub (H.del kp) ((H1.set kp ⟨[v, .int .i64 ((j+1:Nat):Int)],0⟩).del kp):=qcT (ZU hd1 hd_p _) hd_p;have hd6:Sub (H.del kp) h6q1:=hd6'.trans hsub6;have hs_h6q1:Sub B h6q1:=(qcT (ZU hs_H1 hb _) hb).trans hsub6;have he_0q1:E k0q1=none:=hE6.none ((Vd _ _ ne_0q1_p).trans eb_0q1) hf_0q1;have he_0q3:E k0q3=none:=hE6.none ((Vd _ _ ne_0q3_p).trans eb_0q3) hf_0q3;have he_p:E kp=none:=hE6.none (Ve _ _ _) hb;have hE:NewE B H E:=⟨hE6.sub,fun q h1 h2=>hE6.off q (fun e=>by
    by_cases e2:q=kp
    ·subst e2;rw[Ve]at e;cases e
    ·have:(H.del kp) q=none:=(ZU hd1 hd_p _).none e
     simp only[Vl,e2,if_false]at this;exact h1 this) h2⟩
   have eb_0q1:h6q1 k0q1=some ⟨[.int .u8 0, .str [], .int .i64 0, .int .i64 0, .bool false, .nilSlice],0⟩:=hsub6 _ _ (by rw[Et];simp only[Vl,ne_0q1_p,if_false];exact eb_0q1);have eb_0q3:h6q1 k0q3=some ⟨[.int .i64 0, .int .i64 0, .int .i64 0],0⟩:=hsub6 _ _ (by rw[Et];simp only[Vl,ne_0q3_p,if_false];exact eb_0q3);have hrc:rv.scal=true:=by obtain⟨qs,-,q2,-⟩:=hrp;exact q2.scal
   have hrl:=Yu hrc;unfold qnz;simp+decide only[ev,putD,VO,VQ,Ka,Kb,↓qg,qc,↓QY,QL,QV,KY,J9,VZ,Kn,VZ,Kn,Js,Nat.reduceAdd];refine Qi qvu (cs:=[.int .u8 0, .str [], .int .i64 0, .int .i64 0, .bool false, .nilSlice]) (by rfl) fun k6q5 hk6q5=>?_;have hn_6q5:h6q1 k6q5=none:=by first|assumption|(simp only[V9]at hk6q5;simp only[hk6q5])
   have hf_6q5:B k6q5=none:=Bi hs_h6q1 hn_6q5;have ne_6q5_p:k6q5≠kp:=Bj hn_6q5 eb_p;have ne_6q5_0q1:k6q5≠k0q1:=Bj hn_6q5 eb_0q1;have ne_6q5_0q3:k6q5≠k0q3:=Bj hn_6q5 eb_0q3;refine qp (by rfl) (by rfl) zqA qaP (by rfl) (by rfl) zqD (Jt _) (by first|rfl|(simp+decide only[ev,putD,VO,VQ,Ka,VX,Qt,JU,hrc,XJ,XM,Xi])) ?_;simp only[Vi,VX];simp+decide only[qa,ev,putD,VO,VQ,VP,Ka,Kb,↓qd,qb,setAt,VY,Kj,Js,Nat.reduceAdd];apply hK;clear hK K;refine qJ ?_;refine awp_rseq [0,3,5,6,7,8,44] (by rfl) fun K hK=>?_;simp+decide only[qa,ev,putD,VO,VQ,VP,Ka,Kb,↓qg,qc,↓YI,Zl,YC];apply hK;clear hK K;refine qI (b:=_) rfl (fun hb3=>?_) (fun hb3=>?_)
   ·try simp only[Jj]at hb3
    have hok:st.ok=false:=by simpa using hb3
    obtain⟨lc,o,c,rfl⟩:=YD hv (by omega);refine BI (h':=h6q1) (Vh hn_6q5) ?_;obtain⟨-,-,e2,e3,-⟩:=YP (hv.mono hs_h6q1) hjl;have e3':rd wz h6q1 lc (o+j*5+2+1)= .int .i64 (l.getD j Zi).col:=e3;refine awp_rseq [0,3,5] (by rfl) fun K hK=>?_;simp+decide only[ev,qH,qG,putD,VO,VQ,Ka,Kb,↓qg,qc,↓Qo,qV,QA,↓qB,ql,qaJ,↓qF,qY,qz qaw,↓QE,qW Tryz.underlying26 Xb,qdm,qh qeG qbd,↓Qu,↓Qa,Wi,evP,Ke,Vk,QB wz eb_p,qf,VZ,Js,qi,allLive,JU,hlv,e2,e3',Vr];repeat (with_reducible refine And.intro ?_ ?_;· first|trivial|omega|(intro hg;simp only[Ky,JW,Jj,VS,VT,VU,decide_eq_true_eq,decide_eq_false_iff_not,XY]at hg;omega))
    refine qp (by rfl) (by rfl) zqA QN (by rfl) (by rfl) zqD (Jt _) (by first|rfl|(simp+decide only[ev,putD,VO,VQ,Ka,VX,Qt,JU,Vg,hrc,XJ,XM,Xi])) ?_;simp only[VX];simp+decide only[qa,ev,putD,VQ,VP,Ka,setAt,VY,Kj,Js,Nat.reduceAdd];apply hK;clear hK K;refine qJ ?_;refine Zt [0,3,5,63] mixed (by kernel_rfl) (by rfl) (by rfl) fun K hK=>?_;simp+decide only[qa,ev,putD,VO,VQ,VP,Ka,Kb,↓qg,qc,↓Qo,qV,QA,↓qB,ql,Wn,↓qF,qY,qz ag3,qaJ,qz qaw,↓Xe,Qw,Zh Tryz.underlying26,↓qw,qm,qR,cond_false,qo,XZ,QZ,ne_eq,not_false_eq_true,QB wz eb_p,ne_0q3_p.symm,VZ,Kn,Js,qi,hlv];apply hK;clear hK K;refine qI (b:=_) rfl (fun hb4=>?_) (fun hb4=>?_)
    ·try simp only[decide_eq_true_eq]at hb4
     have hat:st.at_<l.length:=by omega
     obtain⟨-,-,d2,d3,-⟩:=YP (hv.mono (ZU hs_h6q1 hf_0q3 ⟨[.int .i64 4, .int .i64 (l.getD j Zi).line, .int .i64 (l.getD j Zi).col],0⟩)) hat;have d3':rd wz (h6q1.set k0q3 ⟨[.int .i64 4, .int .i64 (l.getD j Zi).line, .int .i64 (l.getD j Zi).col],0⟩) lc (o+st.at_*5+2+1)= .int .i64 (l.getD st.at_ Zi).col:=d3;refine qbD 12 mixed (by kernel_rfl) (by rfl) (by rfl) ?_;simp+decide only[ev,putD,VO,VQ,Ka,Kb,↓qg,qc,↓Qo,qV,QA,↓qB,ql,qaJ,↓qF,qY,qz qaw,Wn,qz ag3,↓QE,qW Tryz.underlying26 Xb,qdm,qh qeG qbd,qBs,QZ,ne_eq,not_false_eq_true,QB wz eb_p,ne_0q3_p.symm,qf,VZ,Kn,Js,qi,allLive,JU,hlv,d2,d3',Vr];repeat (with_reducible refine And.intro ?_ ?_;· first|trivial|omega|(intro hg;simp only[Ky,JW,Jj,VS,VT,VU,decide_eq_true_eq,decide_eq_false_iff_not,XY]at hg;omega))
     refine qp (by rfl) (by rfl) zqA qbd (by rfl) (by rfl) zqD (Jt _) (by first|rfl|(simp+decide only[ev,putD,VO,VQ,Ka,VX,Qt,JU,Vg,hrc,XJ,XM,Xi])) ?_;simp only[Vi,VX];simp+decide only[qa,ev,putD,VQ,Ka,setAt,VY,Kj,Nat.reduceAdd];change Awp _ _ _ _ _ _ _;refine qhb 3 [1] [k0q3] [2,3,4,5] mixed (by kernel_rfl) (by rfl) fun K hK=>?_;simp only[Ki,V8,VE,KQ];simp+decide only[YK,ev,qH,qG,putD,VO,VQ,Ka,Kb,↓qac,↓Qa,qja,evP,Vk,↓ZN,XU,qh Xw QN,↓qbs,qb,QT,qf,VZ,Kn,Js,Nat.reduceAdd,qi,allLive,JU];refine And.intro (by simp(decide:=true) [qdk,ev,VQ]) ?_;refine qcn ?_;refine qp (by rfl) (by rfl) zqA qaP (by rfl) (by rfl) zqD (Jt _) (by first|rfl|(simp+decide only[ev,putD,VO,VQ,Ka,VX,Qt,JU,Vg,hrc,XJ,XM,Xi])) ?_;simp only[VX];rw[qa];refine And.intro (by intro k hk;simp only[KX,Bn,or_false]at hk;first|rfl|(first|subst hk|(rcases hk with rfl|rfl|rfl|rfl|rfl));all_goals (simp[Bf,ne_0q3_0q1]<;>rfl)) ?_;simp+decide only[ev,qH,qG,putD,VO,VQ,Ka,Kb,↓qmM,qb,setAt,VY,Kj,Js,Nat.reduceAdd];refine qcn ?_;refine qp (by rfl) (by rfl) zqA QN (by rfl) (by rfl) zqD (Jt _) (by first|rfl|(simp+decide only[ev,putD,VO,VQ,Ka,VX,Qt,JU,Vg,hrc,XJ,XM,Xi])) ?_;simp only[VX];rw[qa];refine And.intro (by intro k hk;simp only[KX,Bn,or_false]at hk;first|rfl|(first|subst hk|(rcases hk with rfl|rfl|rfl|rfl|rfl));all_goals (simp[Bf,ne_0q3_0q1]<;>rfl)) ?_;simp+decide only[qlf,ev,putD,VQ,VP,Ka,setAt,VY,Kj,Js,Nat.reduceAdd];apply hK;clear hK K;refine qL ?_;try simp only[Qe,Qp]
     refine QD (?_) ?_
     ·simp+decide only[QG,qy,qj,VQ,Ka,and_true,qy,qj,qh qeF qaP,qh Xw QN,qZ,qf,VZ,Kn,Js,Nat.reduceAdd,qD,qi,qE,QM,allLive,JU,QZ,ne_eq,not_false_eq_true,ne_0q3_0q1.symm,qf,VZ,Kn,Js,Nat.reduceAdd,qD,qi,qE,QM,allLive,JU]
     simp+decide only[VQ,Ka,qcU,qy,qj,qh qeF qaP,qh Xw QN,qZ,qf,VZ,Kn,Js,Nat.reduceAdd,qD,qi,qE,QM,allLive,JU,QZ,ne_eq,not_false_eq_true,ne_0q3_0q1.symm,qf,VZ,Kn,Js,Nat.reduceAdd,qD,qi,qE,QM,allLive,JU];refine⟨_,Vm _,zqB,st.at_,zqA,hstm.2.1, .inr (.inl ⟨by rw[hci];exact hjl,by rw[hci,<-hst];exact hok,?_⟩)⟩;rw[hci,<-hst];unfold qkU QC qao;rw[if_pos hat];rfl
    ·try simp only[decide_eq_false_iff_not]at hb4
     refine qP ?_;change Awp _ _ _ _ _ _ _;refine qhb 3 [1] [k0q3] [2,3,4,5] mixed (by kernel_rfl) (by rfl) fun K hK=>?_;simp only[Ki,V8,VE,KQ];simp+decide only[YK,ev,qH,qG,putD,VO,VQ,Ka,Kb,↓qac,↓Qa,qja,evP,Vk,↓ZN,XU,qh Xw QN,↓qbs,qb,QT,qf,VZ,Kn,Js,Nat.reduceAdd,qi,allLive,JU];refine And.intro (by simp(decide:=true) [qdk,ev,VQ]) ?_;refine qcn ?_;refine qp (by rfl) (by rfl) zqA qaP (by rfl) (by rfl) zqD (Jt _) (by first|rfl|(simp+decide only[ev,putD,VO,VQ,Ka,VX,Qt,JU,Vg,hrc,XJ,XM,Xi])) ?_;simp only[VX];rw[qa];refine And.intro (by intro k hk;simp only[KX,Bn,or_false]at hk;first|rfl|(first|subst hk|(rcases hk with rfl|rfl|rfl|rfl|rfl));all_goals (simp[Bf,ne_0q3_0q1]<;>rfl)) ?_;simp+decide only[ev,qH,qG,putD,VO,VQ,Ka,Kb,↓qmM,qb,setAt,VY,Kj,Js,Nat.reduceAdd];refine qcn ?_;refine qp (by rfl) (by rfl) zqA QN (by rfl) (by rfl) zqD (Jt _) (by first|rfl|(simp+decide only[ev,putD,VO,VQ,Ka,VX,Qt,JU,Vg,hrc,XJ,XM,Xi])) ?_;simp only[VX];rw[qa];refine And.intro (by intro k hk;simp only[KX,Bn,or_false]at hk;first|rfl|(first|subst hk|(rcases hk with rfl|rfl|rfl|rfl|rfl));all_goals (simp[Bf,ne_0q3_0q1]<;>rfl)) ?_;simp+decide only[qlf,ev,putD,VQ,VP,Ka,setAt,VY,Kj,Js,Nat.reduceAdd];apply hK;clear hK K;refine qL ?_;try simp only[Qe,Qp]
     refine QD (?_) ?_
     ·simp+decide only[QG,qy,qj,VQ,Ka,and_true,qy,qj,qh qeF qaP,qh Xw QN,qZ,qf,VZ,Kn,Js,Nat.reduceAdd,qD,qi,qE,QM,allLive,JU,QZ,ne_eq,not_false_eq_true,ne_0q3_0q1.symm,qf,VZ,Kn,Js,Nat.reduceAdd,qD,qi,qE,QM,allLive,JU]
     simp+decide only[VQ,Ka,qcU,qy,qj,qh qeF qaP,qh Xw QN,qZ,qf,VZ,Kn,Js,Nat.reduceAdd,qD,qi,qE,QM,allLive,JU,QZ,ne_eq,not_false_eq_true,ne_0q3_0q1.symm,qf,VZ,Kn,Js,Nat.reduceAdd,qD,qi,qE,QM,allLive,JU];refine⟨_,Vm _,zqB,st.at_,zqA,hstm.2.1, .inr (.inl ⟨by rw[hci];exact hjl,by rw[hci,<-hst];exact hok,?_⟩)⟩;rw[hci,<-hst];unfold qkU QC qao;rw[if_neg (by omega)];rfl
   ·try simp only[VU]at hb3
    have hok:st.ok=true:=by simpa using hb3
    have hsl2:=hv.slice Tryz.underlying26 Xb (some (.int .i64 i)) (some (.int .i64 j)) (l:=i) (r:=j) rfl rfl (by omega) (by omega) (by rw[Jp];omega);refine qP ?_;change Awp _ _ _ _ _ _ _;refine Wo 10 [8] [2,3,4,5] mixed (by kernel_rfl) (by rfl) fun K hK=>?_;simp only[Ki,V8,VE,KQ];simp+decide only[YK,ev,qH,qG,putD,VO,VQ,Ka,Kb,↓Zd,qc,↓Uh,qV,QA,↓Yd,ql,qaJ,↓ZN,XU,qz qaw,↓qpz,ZG,evO,qh qeF qaP,↓qac,↓Qa,Yn,evP,Vk,↓qbs,qb,QZ,ne_eq,not_false_eq_true,ne_6q5_p.symm,QB wz eb_p,QT,qf,VZ,Kn,Js,Nat.reduceAdd,qD,qi,qE,allLive,JU,hlv,hrl,hsl2];refine qp (by rfl) (by rfl) zqA qaP (by rfl) (by rfl) zqD (Jt _) (by first|rfl|(simp+decide only[ev,VQ,Ka,VX,Qt,JU,hrc,XJ,XM,Xi])) ?_;simp only[VX];simp+decide only[ev,qH,qG,putD,VO,VQ,Ka,Kb,↓qd,qb,setAt,VY,Kj,Js,Nat.reduceAdd];refine qp (by rfl) (by rfl) zqA QN (by rfl) (by rfl) zqD (Jt _) (by first|rfl|(simp+decide only[ev,putD,VO,VQ,Ka,VX,Qt,JU,Vg,hrc,XJ,XM,Xi])) ?_;simp only[VX];simp+decide only[qa,ev,putD,VQ,VP,Ka,setAt,VY,Kj,Js,Nat.reduceAdd];apply hK;clear hK K;refine qL ?_;try simp only[Qe,Qp]
    refine QD (?_) ?_
    ·simp+decide only[QG,qy,qj,VQ,Ka,and_true,qy,qj,qh qeF qaP,qh Xw QN,qZ,qf,VZ,Kn,Js,Nat.reduceAdd,qD,qi,qE,allLive,JU,QZ,ne_eq,not_false_eq_true,ne_0q3_0q1.symm,qf,VZ,Kn,Js,Nat.reduceAdd,qD,qi,qE,allLive,JU,hrl]
    simp+decide only[VQ,Ka,qcU,qy,qj,qh qeF qaP,qh Xw QN,qZ,qf,VZ,Kn,Js,Nat.reduceAdd,qD,qi,qE,allLive,JU,QZ,ne_eq,not_false_eq_true,ne_0q3_0q1.symm,qf,VZ,Kn,Js,Nat.reduceAdd,qD,qi,qE,allLive,JU,hrl];have hd_6q5:(H.del kp) k6q5=none:=hd6.none hn_6q5;refine⟨_,Vm _,zqB,st.at_,zqA,hstm.2.1, .inr (.inr ⟨by rw[hci];exact hjl,by rw[hci,<-hst];exact hok,by rw[hci,<-hst],qhs 5 v i j,rv,E,?_,?_,hE,?_,?_⟩)⟩
    ·rw[hci,<-hst];rfl
    ·rw[hci];exact qbH hv (o:=⟨true,i,j,0⟩) hj1 hj2 rfl
    ·have he_6q5:E k6q5=none:=hE6s.none hn_6q5
     exact zqB
    ·rw[hci,<-hst];exact hrp
 ·try simp only[decide_eq_false_iff_not]at hb1
  have hje:j=l.length:=by omega
  have hce:Xm l j=j:=qyn (by omega);have hsl3:=hv.slice Tryz.underlying26 Xb (some (.int .i64 i)) none (l:=i) (r:=l.length) rfl (by rw[Jp];rfl) (by omega) (by omega) (by rw[Jp];omega);refine XE ?_;change Awp _ _ _ _ _ _ _;refine awp_rseq [2,3,4,5] (by rfl) fun K hK=>?_;simp+decide only[ev,qH,qG,putD,VO,VQ,Ka,Kb,↓qg,qc,↓Qo,qV,QA,↓qB,ql,qaJ,↓qF,qY,qz qaw,↓Wp,ZG,evO,↓Qu,↓Qa,qja,evP,Vk,Yn,↓qd,qb,QB wz eb_p,VZ,Js,hlv,hsl3];refine qp (by rfl) (by rfl) zqA qaP (by rfl) (by rfl) zqD (Jt _) (by first|rfl|(simp+decide only[ev,putD,VO,VQ,Ka,VX,Qt,JU,Vg,hrc,XJ,XM,Xi])) ?_;simp only[VX];simp+decide only[ev,qH,qG,putD,VO,VQ,Ka,Kb,↓qd,qb,setAt,VY,Kj,Js,Nat.reduceAdd];refine qp (by rfl) (by rfl) zqA QN (by rfl) (by rfl) zqD (Jt _) (by first|rfl|(simp+decide only[ev,putD,VO,VQ,Ka,VX,Qt,JU,Vg,hrc,XJ,XM,Xi])) ?_;simp only[VX];simp+decide only[qa,ev,putD,VQ,VP,Ka,setAt,VY,Kj,Js,Nat.reduceAdd];apply hK;clear hK K;refine qL ?_;refine QD (?_) ?_
  ·simp+decide only[QG,qy,qj,VQ,Ka,and_true,qy,qj,qh qeF qaP,qh Xw QN,qZ,qf,VZ,Kn,Js,Nat.reduceAdd,qD,qi,qE,QM,allLive,JU,QZ,ne_eq,not_false_eq_true,ne_0q3_0q1.symm,qf,VZ,Kn,Js,Nat.reduceAdd,qD,qi,qE,QM,allLive,JU]
  simp+decide only[VQ,Ka,qcU,qy,qj,qh qeF qaP,qh Xw QN,qZ,qf,VZ,Kn,Js,Nat.reduceAdd,qD,qi,qE,QM,allLive,JU,QZ,ne_eq,not_false_eq_true,ne_0q3_0q1.symm,qf,VZ,Kn,Js,Nat.reduceAdd,qD,qi,qE,QM,allLive,JU];refine⟨_,Vm _,zqB,j,zqA,hj2, .inl ⟨by rw[<-hj3,hce];omega,qhs 5 v i l.length,rfl,?_⟩⟩;have:=qbH hv (o:=⟨true,i,l.length,0⟩) hi (KL _) rfl;unfold ZT at this;rw[Jr (by simp[K6])]at this;exact this
def qbV{α:Type}(p:α->Bool)(l:List α):Int:=match l.findIdx? p with
 |some i=>(i:Int)
 |none=> -1
theorem qmS{α:Type}{p:α->Bool}{l:List α}(d:α){i:Nat}(hi:i<l.length)(hp:p (l.getD i d)=true)(hn:∀j,j<i->p (l.getD j d)=false):qbV p l=i:=by
 have:l.findIdx? p=some i:=by
  rw[BX];refine⟨hi,?_,fun j hj=>?_⟩
  ·rw[Ko,JA hi]at hp
   exact hp
  ·have:=hn j hj
   rw[Ko,JA (by omega)]at this;simpa using this
 unfold qbV;rw[this]
theorem qmT{α:Type}{p:α->Bool}{l:List α}(d:α)(hn:∀j,j<l.length->p (l.getD j d)=false):qbV p l= -1:=by
 have:l.findIdx? p=none:=by
  rw[BV];intro x hx;obtain⟨j,hj,rfl⟩:=BO hx;have:=hn j hj;rw[Ko,JA hj]at this;exact this
 unfold qbV;rw[this]
theorem qhR{α β:Type}(f:α->β)(p:β->Bool)(l:List α):qbV p (l.map f)=qbV (fun x=>p (f x)) l:=by
 unfold qbV;rw[List.findIdx?_map];rfl
abbrev MemQ:=MemC×AVal
def qhL(q:MemQ):List AVal:=[.str q.1.name,q.2]
def IsMems(wz:World)(h:AHeap)(v:AVal)(ms:List MemC):Prop:=∃qs:List MemQ,ms=qs.map (·.1)/\IsL wz h 2 v (qs.map qhL)/\∀q∈qs,IsL wz h 5 q.2 (q.1.toks.map QI)
theorem IsMems.mono{wz:World}{h h':AHeap}{v:AVal}{ms:List MemC}(hv:IsMems wz h v ms)(hs:Sub h h'):IsMems wz h' v ms:=by
 obtain⟨qs,h1,h2,h3⟩:=hv;exact⟨qs,h1,h2.mono hs,fun q hq=>(h3 q hq).mono hs⟩
def qcP:MemQ:=(⟨[],[]⟩, .nilSlice)
def qjc:RepQ:=(⟨[],[]⟩, .nilSlice, .nilSlice)
theorem qaZ{α:Type}{l:List α}(d:α){i:Nat}(hi:i<l.length):l.getD i d∈l:=by
 rw[Ko,JA hi];exact VJ hi
section
variable {wz:World} {h:AHeap} {v:AVal}
theorem qtn{qs:List MemQ}(hv:IsL wz h 2 v (qs.map qhL)):∀H:AHeap,YN Tryz.prog H 28 v=⟨True, .int .i64 qs.length⟩:=by
 have:=hv.len Tryz.underlying28
 rwa [Jp]at this
theorem qhK{qs:List MemQ}(hv:IsL wz h 2 v (qs.map qhL))(hn:0<qs.length):∃lc o c,v= .slice lc o qs.length c:=by
 obtain⟨lc,o,c,e⟩:=hv.open (fun e=>by rw[VW]at e;subst e;simp at hn);rw[Jp]at e;exact⟨lc,o,c,e⟩
theorem qkY{qs:List MemQ}{lc:AM.Loc}{o:Nat}{c:Cap}(hv:IsL wz h 2 (.slice lc o qs.length c) (qs.map qhL)){i:Nat}(hi:i<qs.length):rd wz h lc (o+i*2)= .str (qs.getD i qcP).1.name/\rd wz h lc (o+i*2+1)=(qs.getD i qcP).2:=by
 have he:=hv.elem (i:=i) (by rw[Jp];exact hi);rw[getD_map qcP hi]at he;simp only[qf,qhL,List.cons.injEq,and_true]at he;exact he
theorem qnG{qs:List RepQ}(hv:IsL wz h 2 v (qs.map UT)):∀H:AHeap,YN Tryz.prog H 43 v=⟨True, .int .i64 qs.length⟩:=by
 have:=hv.len Tryz.underlying43
 rwa [Jp]at this
theorem qkE{qs:List RepQ}(hv:IsL wz h 2 v (qs.map UT))(hn:0<qs.length):∃lc o c,v= .slice lc o qs.length c:=by
 obtain⟨lc,o,c,e⟩:=hv.open (fun e=>by rw[VW]at e;subst e;simp at hn);rw[Jp]at e;exact⟨lc,o,c,e⟩
theorem qnH{qs:List RepQ}{lc:AM.Loc}{o:Nat}{c:Cap}(hv:IsL wz h 2 (.slice lc o qs.length c) (qs.map UT)){i:Nat}(hi:i<qs.length):rd wz h lc (o+i*2)=(qs.getD i qjc).2.1/\rd wz h lc (o+i*2+1)=(qs.getD i qjc).2.2:=by
 have he:=hv.elem (i:=i) (by rw[Jp];exact hi);rw[getD_map qjc hi]at he;simp only[qf,UT,List.cons.injEq,and_true]at he;exact he
end
theorem qyF(wz:World)(h:AHeap)(v:AVal)(qs:List MemQ)(f:FuncId)(cap:List AVal)(p:MemQ->Bool)(hv:IsL wz h 2 v (qs.map qhL))(hq:∀q∈qs,q.2.live=true)(hl:qs.length<=1099511627776)(hfl:(AVal.func f cap).live=true)
 (hf:∀q∈qs,ACall Tryz.prog wz f ([.agg (qhL q)]++cap) h (fun r h'=>r= .bool (p q)/\h'=h)):
 ACall Tryz.prog wz 57 [v, .func f cap] h (fun r h'=>r= .int .i64 (qbV p qs)/\h'=h):=by
 have hlv:=hv.live;have nv:=qtn hv;refine qU (n:=19) (rs:=[.tmp 4]) Tryz.func57 rfl rfl rfl rfl (VN rfl) ?_;simp only[Qg];refine awp_rseq [0,1] (by rfl) fun K hK=>?_;simp+decide only[qa,ev,qH,qG,putD,VO,VP,Ka,Kb,↓qd,qb,Js];apply hK;clear hK K;refine qJ ?_;refine awp_rseq [0,1,7,8] (by rfl) fun K hK=>?_;simp+decide only[qa,ev,qH,qG,putD,VO,VQ,VP,Ka,Kb,↓qg,qc,↓Xe,Qw,nv];apply hK;clear hK K;refine Qm ?_;refine XC [0,1,7,8] (fun i:Nat=>[(0,v),(1, .func f cap),(7, .int .i64 qs.length),(8, .int .i64 i)]) (fun i:Nat=>h) (fun i:Nat=>i<=qs.length/\∀j,j<i->p (qs.getD j qcP)=false) (fun i:Nat=>qs.length-i) 0 (by rfl) (Vm _) ⟨Jt _,fun j hj=>by omega⟩ ?_;rintro i ⟨hi,hn⟩;refine awp_rseq [0,1,7,8,9] (by rfl) fun K hK=>?_;simp+decide only[qa,ev,putD,VO,VQ,VP,Ka,Kb,↓qw,qm,qR,cond_false,qo,XZ];apply hK;clear hK K;refine qJ (qI (b:=_) rfl (fun hb1=>?_) (fun hb1=>?_))
 ·try simp only[decide_eq_true_eq]at hb1
  have hi':i<qs.length:=by omega
  obtain⟨lc,o,c,rfl⟩:=qhK hv (by omega);obtain⟨e0,e1⟩:=qkY hv hi';obtain⟨q,hqe⟩:∃q,q=qs.getD i qcP:=⟨_,rfl⟩
  have hqm:q∈qs:=by rw[hqe];exact qaZ qcP hi'
  have hql:=hq q hqm;rw[<-hqe]at e0 e1;refine qP ?_;change Awp _ _ _ _ _ _ _;refine qJ ?_;refine Qm ?_;refine awp_rseq [0,1,5,7,8] (by rfl) fun K hK=>?_;simp+decide only[qa,ev,putD,VO,VQ,VP,Ka,Kb,↓qg,qc,↓qd,qb];apply hK;clear hK K;refine awp_rseq [0,1,5,7,8,16] (by rfl) fun K hK=>?_;simp+decide only[ev,putD,VO,VQ,Ka,Kb,↓qg,qc,↓QE,qY,qW Tryz.underlying28 qtO,↓qF,qh qDd qtO,qf,qE,allLive,JU,e0,e1,hql,Vr];repeat (with_reducible refine And.intro ?_ ?_;· first|trivial|omega|(intro hg;simp only[Ky,JW,Jj,VS,VT,VU,decide_eq_true_eq,decide_eq_false_iff_not,XY]at hg;omega))
  refine qO (V:= .bool (p q)) (by rfl) (by rfl) (hf q hqm) ?_;simp+decide only[qa,putD,VO,VP,Ka];apply hK;clear hK K;refine qI (b:=_) rfl (fun hb2=>?_) (fun hb2=>?_)
  ·skip
   refine awp_rseq [4] (by rfl) fun K hK=>?_;simp+decide only[qa,ev,putD,VO,VQ,VP,Ka,Kb,↓qg,qc,↓qd,qb];apply hK;clear hK K;refine qL ?_;try simp only[Qe,Qp]
   refine Qb h zqC (qN (Qc)) ?_;simp+decide only[VQ,if_true,and_true,Qs];rw[qmS qcP hi' (by rw[<-hqe];exact hb2) hn]
  ·skip
   refine qP ?_;change Awp _ _ _ _ _ _ _;refine XW [0,1,7,8] (by rfl) ?_;simp+decide only[qa,ev,qH,qG,putD,VO,VQ,VP,Ka,Kb,↓qw,qm,qA,cond_false,qo,Xa,↓qg,qc];try simp(disch:=omega)only[wrap_i64]
   try simp only[Qj]
   exact⟨i+1,rfl,Vm _,⟨hi',fun j hj=>by
    rcases KU j i with z|z
    ·exact hn j z
    ·rw[show j=i by omega,<-hqe];exact hb2⟩,by omega⟩
 ·try simp only[decide_eq_false_iff_not]at hb1
  refine XE ?_;change Awp _ _ _ _ _ _ _;refine awp_rseq [4] (by rfl) fun K hK=>?_;simp+decide only[qa,ev,qH,qG,putD,VO,VP,Ka,Kb,↓qd,qb];apply hK;clear hK K;refine qL ?_;refine Qb h zqC (qN (Qc)) ?_;simp+decide only[VQ,if_true,and_true,Qs];rw[qmT qcP fun j hj=>hn j (by omega)]
theorem qpW(wz:World)(h:AHeap)(v:AVal)(qs:List RepQ)(f:FuncId)(cap:List AVal)(p:RepQ->Bool)(hv:IsL wz h 2 v (qs.map UT))(hq:∀q∈qs,q.2.1.live=true/\q.2.2.live=true)(hl:qs.length<=1099511627776)(hfl:(AVal.func f cap).live=true)
 (hf:∀q∈qs,ACall Tryz.prog wz f ([.agg (UT q)]++cap) h (fun r h'=>r= .bool (p q)/\h'=h)):
 ACall Tryz.prog wz 37 [v, .func f cap] h (fun r h'=>r= .int .i64 (qbV p qs)/\h'=h):=by
 have hlv:=hv.live;have nv:=qnG hv;refine qU (n:=19) (rs:=[.tmp 4]) Tryz.func37 rfl rfl rfl rfl (VN rfl) ?_;simp only[Qg];refine awp_rseq [0,1] (by rfl) fun K hK=>?_;simp+decide only[qa,ev,qH,qG,putD,VO,VP,Ka,Kb,↓qd,qb,Js];apply hK;clear hK K;refine qJ ?_;refine awp_rseq [0,1,7,8] (by rfl) fun K hK=>?_;simp+decide only[qa,ev,qH,qG,putD,VO,VQ,VP,Ka,Kb,↓qg,qc,↓Xe,Qw,nv];apply hK;clear hK K;refine Qm ?_;refine XC [0,1,7,8] (fun i:Nat=>[(0,v),(1, .func f cap),(7, .int .i64 qs.length),(8, .int .i64 i)]) (fun i:Nat=>h) (fun i:Nat=>i<=qs.length/\∀j,j<i->p (qs.getD j qjc)=false) (fun i:Nat=>qs.length-i) 0 (by rfl) (Vm _) ⟨Jt _,fun j hj=>by omega⟩ ?_;rintro i ⟨hi,hn⟩;refine awp_rseq [0,1,7,8,9] (by rfl) fun K hK=>?_;simp+decide only[qa,ev,putD,VO,VQ,VP,Ka,Kb,↓qw,qm,qR,cond_false,qo,XZ];apply hK;clear hK K;refine qJ (qI (b:=_) rfl (fun hb1=>?_) (fun hb1=>?_))
 ·try simp only[decide_eq_true_eq]at hb1
  have hi':i<qs.length:=by omega
  obtain⟨lc,o,c,rfl⟩:=qkE hv (by omega);obtain⟨e0,e1⟩:=qnH hv hi';obtain⟨q,hqe⟩:∃q,q=qs.getD i qjc:=⟨_,rfl⟩
  have hqm:q∈qs:=by rw[hqe];exact qaZ qjc hi'
  obtain⟨hql,hqr⟩:=hq q hqm;rw[<-hqe]at e0 e1;refine qP ?_;change Awp _ _ _ _ _ _ _;refine qJ ?_;refine Qm ?_;refine awp_rseq [0,1,5,7,8] (by rfl) fun K hK=>?_;simp+decide only[qa,ev,putD,VO,VQ,VP,Ka,Kb,↓qg,qc,↓qd,qb];apply hK;clear hK K;refine awp_rseq [0,1,5,7,8,16] (by rfl) fun K hK=>?_;simp+decide only[ev,putD,VO,VQ,Ka,Kb,↓qg,qc,↓QE,qY,qW Tryz.underlying43 qea,↓qF,qh qrh qea,qf,allLive,JU,e0,e1,hql,hqr,Vr];repeat (with_reducible refine And.intro ?_ ?_;· first|trivial|omega|(intro hg;simp only[Ky,JW,Jj,VS,VT,VU,decide_eq_true_eq,decide_eq_false_iff_not,XY]at hg;omega))
  refine qO (V:= .bool (p q)) (by rfl) (by rfl) (hf q hqm) ?_;simp+decide only[qa,putD,VO,VP,Ka];apply hK;clear hK K;refine qI (b:=_) rfl (fun hb2=>?_) (fun hb2=>?_)
  ·skip
   refine awp_rseq [4] (by rfl) fun K hK=>?_;simp+decide only[qa,ev,putD,VO,VQ,VP,Ka,Kb,↓qg,qc,↓qd,qb];apply hK;clear hK K;refine qL ?_;try simp only[Qe,Qp]
   refine Qb h zqC (qN (Qc)) ?_;simp+decide only[VQ,if_true,and_true,Qs];rw[qmS qjc hi' (by rw[<-hqe];exact hb2) hn]
  ·skip
   refine qP ?_;change Awp _ _ _ _ _ _ _;refine XW [0,1,7,8] (by rfl) ?_;simp+decide only[qa,ev,qH,qG,putD,VO,VQ,VP,Ka,Kb,↓qw,qm,qA,cond_false,qo,Xa,↓qg,qc];try simp(disch:=omega)only[wrap_i64]
   try simp only[Qj]
   exact⟨i+1,rfl,Vm _,⟨hi',fun j hj=>by
    rcases KU j i with z|z
    ·exact hn j z
    ·rw[show j=i by omega,<-hqe];exact hb2⟩,by omega⟩
 ·try simp only[decide_eq_false_iff_not]at hb1
  refine XE ?_;change Awp _ _ _ _ _ _ _;refine awp_rseq [4] (by rfl) fun K hK=>?_;simp+decide only[qa,ev,qH,qG,putD,VO,VP,Ka,Kb,↓qd,qb];apply hK;clear hK K;refine qL ?_;refine Qb h zqC (qN (Qc)) ?_;simp+decide only[VQ,if_true,and_true,Qs];rw[qmT qjc fun j hj=>hn j (by omega)]
theorem qkz:∀l m:List TokC,qcw l m=alike l m
 |[],[]=>rfl
 |[],_::_=>rfl
 |_::_,[]=>rfl
 |a::l,b::m=>by rw[qcw,alike,qkz l m];rfl
theorem qwI{α:Type}(p:α->Bool)(l:List α):decide (0<=qbV p l)=l.any p:=by
 unfold qbV;cases h:l.findIdx? p with
 |none=>
  rw[BV]at h;have:l.any p=false:=by rw[List.any_eq_false];intro x hx;simp[h x hx]
  rw[this];rfl
 |some i=>
  rw[BX]at h;obtain⟨hi,hp,-⟩:=h;have:l.any p=true:=by rw[JY];exact⟨l[i],VJ hi,hp⟩
  rw[this,decide_eq_true_eq];simp only;omega
theorem RepOk.lives{wz:World}{h:AHeap}{q:RepQ}(hq:RepOk wz h q):q.2.1.live=true/\q.2.2.live=true/\q.2.1.scal=true/\q.2.2.scal=true:=⟨hq.old.live,hq.new.live,hq.old.scal,hq.new.scal⟩
theorem qBA(wz:World)(h:AHeap)(q:RepQ)(hq:RepOk wz h q):
 ACall Tryz.prog wz 36 [.agg (UT q)] h (fun r h'=>r= .bool (decide (q.1.old=[]))/\h'=h):=by
 obtain⟨h1,h2,h3,h4⟩:=hq.lives;have no:=Zc hq.old;obtain⟨⟨x,y⟩,ov,nv⟩:=q;simp only at h1 h2 h3 h4 no;unfold UT;have e:decide (x=[])=decide ((x.length:Int)=0):=decide_eq_decide.2 ⟨fun e=>by rw[e];rfl,fun e=>Kg (by omega)⟩;simp only;rw[e];refine qU (n:=7) (rs:=[.tmp 2]) Tryz.func36 rfl rfl rfl rfl (VN rfl) ?_;simp only[Qg];refine awp_rseq [1] (by rfl) fun K hK=>?_;refine Wt (by rfl) (by rfl) (by rfl) fun k0q0 hk0q0=>?_;try have hf_0q0:h k0q0=none:=by first|assumption|(simp only[V9]at hk0q0;simp only[hk0q0])
 skip;simp+decide only[qa,ev,qH,qG,putD,VO,VQ,VP,Ka,Kb,↓qd,qb,VX];apply hK;clear hK K;refine awp_rseq [2] (by rfl) fun K hK=>?_;simp+decide only[qa,ev,qH,qG,putD,VO,VQ,VP,Ka,Kb,↓qB,ql,qiO,↓qF,qY,qz qaw,↓Xe,Qw,↓qw,qm,qA,cond_false,qo,Za,↓qd,qb,QT,VZ,Js,h1,no];apply hK;clear hK K;refine qL ?_;refine Qb h zqC (qN (Qc)) ?_;simp+decide only[VQ,if_true,and_true,Qs];skip
theorem qAd(wz:World)(h:AHeap)(v:AVal)(qs:List RepQ)(hv:IsL wz h 2 v (qs.map UT))(hq:∀q∈qs,RepOk wz h q)(hl:qs.length<=1099511627776):
 ACall Tryz.prog wz 35 [v, .func 36 []] h (fun r h'=>r= .bool (qs.any fun q=>decide (q.1.old=[]))/\h'=h):=by
 have hlv:=hv.live;refine qU (n:=9) (rs:=[.tmp 4]) Tryz.func35 rfl rfl rfl rfl (VN rfl) ?_;simp only[Qg];refine awp_rseq [0,1] (by rfl) fun K hK=>?_;simp+decide only[qa,ev,qH,qG,putD,VO,VP,Ka,Kb,↓qd,qb,Js];apply hK;clear hK K;refine awp_rseq [4] (by rfl) fun K hK=>?_;simp+decide only[ev,putD,VO,VQ,Ka,Kb,↓qg,qc];refine qO (V:= .int .i64 (qbV (fun q=>decide (q.1.old=[])) qs)) (by rfl) (by rfl) (qpW wz _ v qs _ [] (fun q=>decide (q.1.old=[])) hv (fun q hm=>⟨(hq q hm).lives.1,(hq q hm).lives.2.1⟩) hl rfl (fun q hm=>by rw[Bg];exact qBA wz _ q (hq q hm))) ?_;simp+decide only[qa,ev,qH,qG,putD,VO,VQ,VP,Ka,Kb,↓qw,qm,qA,cond_false,qo,Ua,↓qd,qb];apply hK;clear hK K;refine qL ?_;refine Qb h zqC (qN (Qc)) ?_;simp+decide only[VQ,if_true,and_true,Qs];rw[qwI]
theorem quZ(wz:World)(h:AHeap)(q:RepQ)(hq:RepOk wz h q)(kl ka:Nat)(lv:AVal)(l:List TokC)(at_:Nat)(eb_l:h kl=some ⟨[lv],0⟩)(eb_a:h ka=some ⟨[.int .i64 at_],0⟩)(hlv:IsL wz h 5 lv (l.map QI))(hl:l.length<=1099511627776)(hat:at_<=l.length)(hout:¬at_+q.1.old.length<=l.length):
 ACall Tryz.prog wz 38 ([.agg (UT q)]++[.ptr (.own kl) 0, .ptr (.own ka) 0]) h (fun r h'=>r= .bool (Yb (l.drop at_) q.1.old)/\h'=h):=by
 obtain⟨h1,h2,h3,h4⟩:=hq.lives;have no:=Zc hq.old;have nl:=Zc hlv;have hll:=hlv.live;have hr:Yb (l.drop at_) q.1.old=false:=by
  unfold Yb;rw[decide_eq_false (by rw[K6];omega),V4]
 rw[hr];obtain⟨⟨x,y⟩,ov,nv⟩:=q;simp only at h1 h2 h3 h4 no hout;have hs_h:Sub h h:=Vm h;have hw1:IntKind.i64.wrap ((l.length:Int)-at_)=(l.length:Int)-at_:=by simp(disch:=omega)only[wrap_i64]
 have hng:¬((x.length:Int)<=l.length-at_):=by omega
 unfold UT;simp only[Kh,Je];refine qU (n:=26) (rs:=[.tmp 4]) Tryz.func38 rfl rfl rfl rfl (VN rfl) ?_;simp only[Qg];refine awp_rseq [1,2,3] (by rfl) fun K hK=>?_;refine Wt (by rfl) (by rfl) (by rfl) fun k0q0 hk0q0=>?_;have hn_0q0:h k0q0=none:=by first|assumption|(simp only[V9]at hk0q0;simp only[hk0q0])
 have hf_0q0:h k0q0=none:=Bi hs_h hn_0q0;have ne_0q0_l:k0q0≠kl:=Bj hn_0q0 eb_l;have ne_0q0_a:k0q0≠ka:=Bj hn_0q0 eb_a;skip;simp+decide only[qa,ev,qH,qG,putD,VO,VQ,VP,Ka,Kb,↓qd,qb,VX,Js,Nat.reduceAdd];apply hK;clear hK K;refine Uw [4] mixed (by kernel_rfl) (by rfl) fun K hK=>?_;simp+decide only[ev,putD,VO,VQ,Ka,Kb,↓qai,ql,qiO,↓qfS,XU,qz qaw,↓qnv,Qw,qz ag3,↓qhh,qm,qR,cond_false,qo,qaI,qgM,↓qdV,qc,↓qaR,vgP,qdp,qM,qK,qC,implies_true,decide_false,Zr,false_implies,↓qhj,↓qvF,↓qoM,↓qkn,ZG,evO,QZ,ne_eq,not_false_eq_true,ne_0q0_l.symm,ne_0q0_a.symm,QB wz eb_l,QB wz eb_a,QT,VZ,Js,qi,h1,no,nl,hll,hw1,hng];first|refine qoN (by rfl) ?_|refine qwZ (by rfl) ?_
 simp+decide only[qct,ev,qH,qG,putD,VO,VQ,VP,Ka,Kb,↓qhf,Qz,Qk,↓qdo,qb];apply hK;clear hK K;refine qL ?_;refine Qb h zqC (qN (Qc)) ?_;simp+decide only[VQ,if_true,and_true,Qs];all_goals first|rfl|exact⟨rfl,rfl⟩|(simp+decide only[Ka, *];done)|(trace_state;fail)
theorem qyB(wz:World)(h:AHeap)(q:RepQ)(hq:RepOk wz h q)(kl ka:Nat)(lv:AVal)(l:List TokC)(at_:Nat)(eb_l:h kl=some ⟨[lv],0⟩)(eb_a:h ka=some ⟨[.int .i64 at_],0⟩)(hlv:IsL wz h 5 lv (l.map QI))(hl:l.length<=1099511627776)(hin:at_+q.1.old.length<=l.length):
 ACall Tryz.prog wz 38 ([.agg (UT q)]++[.ptr (.own kl) 0, .ptr (.own ka) 0]) h (fun r h'=>r= .bool (Yb (l.drop at_) q.1.old)/\h'=h):=by
 obtain⟨h1,h2,h3,h4⟩:=hq.lives;have no:=Zc hq.old;have nl:=Zc hlv;have hll:=hlv.live;have hr:Yb (l.drop at_) q.1.old=qcw q.1.old (ZT l at_ (at_+q.1.old.length)):=by
  unfold Yb ZT;rw[decide_eq_true (by rw[K6];omega),Vg,qkz,Ea]
 rw[hr];have hoq:=hq.old;obtain⟨⟨x,y⟩,ov,nv⟩:=q;simp only at h1 h2 h3 h4 no hin hoq;have hs_h:Sub h h:=Vm h;have hw1:IntKind.i64.wrap ((l.length:Int)-at_)=(l.length:Int)-at_:=by simp(disch:=omega)only[wrap_i64]
 have hw2:IntKind.i64.wrap ((at_:Int)+x.length)=(at_:Int)+x.length:=by simp(disch:=omega)only[wrap_i64]
 have hg0:(x.length:Int)<=l.length-at_:=by omega
 have hsl:=hlv.slice Tryz.underlying26 Xb (some (.int .i64 at_)) (some (.int .i64 ((at_:Int)+x.length))) (l:=at_) (r:=(at_:Int)+x.length) rfl rfl (by omega) (by omega) (by rw[Jp];omega);have hcut:=qbH hlv (o:=⟨true,at_,at_+x.length,0⟩) (Nat.le_add_right _ _) hin rfl;have hsv:qhs 5 lv ((at_:Int)).toNat (((at_:Int)+x.length)).toNat=qdB lv ⟨true,at_,at_+x.length,0⟩:=by
  rw[show(((at_:Int)+x.length)).toNat=at_+x.length by omega];rfl
 rw[hsv]at hsl;unfold UT;simp only[Kh,Je];refine qU (n:=26) (rs:=[.tmp 4]) Tryz.func38 rfl rfl rfl rfl (VN rfl) ?_;simp only[Qg];refine awp_rseq [1,2,3] (by rfl) fun K hK=>?_;refine Wt (by rfl) (by rfl) (by rfl) fun k0q0 hk0q0=>?_;have hn_0q0:h k0q0=none:=by first|assumption|(simp only[V9]at hk0q0;simp only[hk0q0])
 have hf_0q0:h k0q0=none:=Bi hs_h hn_0q0;have ne_0q0_l:k0q0≠kl:=Bj hn_0q0 eb_l;have ne_0q0_a:k0q0≠ka:=Bj hn_0q0 eb_a;skip;simp+decide only[qa,ev,qH,qG,putD,VO,VQ,VP,Ka,Kb,↓qd,qb,VX,Js,Nat.reduceAdd];apply hK;clear hK K;refine Uw [4] mixed (by kernel_rfl) (by rfl) fun K hK=>?_;simp+decide only[ev,putD,VO,VQ,Ka,Kb,↓qai,ql,qiO,↓qfS,XU,qz qaw,↓qnv,Qw,qz ag3,↓qhh,qm,qR,cond_false,qo,qaI,qgM,↓qdV,qc,↓qaR,vgP,qdp,qM,qK,qC,implies_true,decide_true,Qy,↓qhj,↓qvF,↓qoM,Xa,↓qkn,ZG,evO,QZ,ne_eq,not_false_eq_true,ne_0q0_l.symm,ne_0q0_a.symm,QB wz eb_l,QB wz eb_a,QT,VZ,Js,qi,h1,no,nl,hll,hw1,hw2,hg0,hsl];refine qdW (V:= .bool (qcw x (ZT l at_ (at_+x.length)))) (f:=_) (cap:=_) (xs:=_) (by first|rfl|(simp+decide only[gv,qM,VQ,Ka,Xg,qK])) (fun hg=>⟨rfl,?_⟩) (fun hg=>qBN wz _ ov _ x _ (hoq.mono zqB) (hcut.mono zqB) (by omega)) ?_
 ·try simp+decide only[gv,qM,VQ,Ka,qC]at hg
  simp+decide only[evs,ev,VQ,Ka,Bg,Ke,Vk]
 simp+decide only[qct,ev,qH,qG,putD,VO,VQ,VP,Ka,Kb,gv,qM,qC,↓qhf,Qz,Qk,Xp,Xy,↓qdo,qb];apply hK;clear hK K;refine qL ?_;refine Qb h zqC (qN (Qc)) ?_;simp+decide only[VQ,if_true,and_true,Qs];rw[Vg]
theorem qBz(wz:World)(h:AHeap)(q:RepQ)(hq:RepOk wz h q)(kl ka:Nat)(lv:AVal)(l:List TokC)(at_:Nat)(eb_l:h kl=some ⟨[lv],0⟩)(eb_a:h ka=some ⟨[.int .i64 at_],0⟩)(hlv:IsL wz h 5 lv (l.map QI))(hl:l.length<=1099511627776)(hat:at_<=l.length):
 ACall Tryz.prog wz 38 ([.agg (UT q)]++[.ptr (.own kl) 0, .ptr (.own ka) 0]) h (fun r h'=>r= .bool (Yb (l.drop at_) q.1.old)/\h'=h):=by
 by_cases hin:at_+q.1.old.length<=l.length
 ·exact qyB wz h q hq kl ka lv l at_ eb_l eb_a hlv hl hin
 ·exact quZ wz h q hq kl ka lv l at_ eb_l eb_a hlv hl hat hin
end Go.Proofs.YtlhhaagmakhilaaGreatDoor
