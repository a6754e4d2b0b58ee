/-
  Texts of this proof, joined: CoJ, TkO, TkP, TkQ, TmA, BmC, BmD, BmE, BmF, CpA, CpB, CpC, CpD, CpE, CpF, CpG, CpH, CpI, CpJ, CpK, CpL, CpM, CqA, CqB, CqC, CqD, CqE, CqF, CqG, CqH, CqI, CqJ, CqK, CqL.
  Conditions: none.
-/
import Derived.Test.YtlhhaagmakhilaaGreatDoorUc
import Derived.Test.YtlhhaagmakhilaaGreatDoorUb
import Derived.Defers
import Derived.KernelRfl
set_option linter.unusedSimpArgs false
set_option linter.unnecessarySimpa false
set_option linter.unusedVariables false
open Go.AM.Slots renaming put->VM,get->VO,keep->VN
open Go.AM.Sub renaming refl->Vl,trans_set->V3,set_both->V9,set->Vg,none->Bg,trans->BJ,buf->BH
open Nat renaming zero_le->Js,zero_add->Jr,mul_one->BI,le_of_ble_eq_true->VL,le_of_not_lt->Kr,le_refl->KJ,lt_of_not_le->JO,eq_or_lt_of_le->JB,lt_or_ge->KT,add_zero->K6,le_add_right->El
open List renaming getD->Kn,getElem?_eq_getElem->Jz,getElem_mem->VH,drop_eq_getElem_cons->J4,length_cons->KX,length_nil->J8,getD_cons_zero->VX,getD_cons_succ->Km,set_cons_zero->VW,set_cons_succ->Ki,map_nil->Vj,drop_length->JY,map_cons->Kc,length_map->Jo,map_eq_nil_iff->VU,drop_eq_nil_of_le->Vt,getElem?_eq_none->Kq,range->KO,all_eq_true->JC,mem_range->JD,contains_iff_mem->JW,getElem_of_mem->BM,any_eq_true->JX,getElem?_drop->Ko,drop_drop->BN,mem_cons_self->Je,getElem?_eq_some_iff->JA,mem_of_getElem?->JZ,drop_zero->KP,cons_append->Kg,length->BP,length_drop->K5,length_singleton->JR,length_take->K4,eq_nil_of_length_eq_zero->Ke,length_pos_iff->BQ,mem_of_find?_eq_some->BR,findIdx?_eq_none_iff->BS,findIdx?_eq_some_iff_getElem->BU,find?_eq_some_iff_getElem->BV,takeWhile_cons->BX,mem_append->JI,mem_singleton->BD,mem_cons->KW,find?_some->BZ,mem_cons_of_mem->Jf,mem_map->JG,getElem?_map->Eb,getElem?_mapIdx->Ec,map_append->Ba,length_append->Jb,take_of_length_le->Jq,append_nil->Be,filterMap_cons->VI,filterMap_nil->Ee,getElem?_cons_zero->Ky,getElem?_cons_succ->KL,take_succ_cons->Kh,take_zero->V6,drop_succ_cons->VB,not_mem_nil->Bj,findIdx?_map->Ei,any_eq_false->Ej,nil_append->Jd,append_assoc->K9,flatten_append->Em,getElem_map->En
open Int renaming toNat_natCast->Vq
open Bool renaming and_eq_true->Kw,or_eq_true->JV,not_eq_true'->Ji,and_eq_false_iff->VP,or_eq_false_iff->VQ,not_eq_false'->VS,and_true->JS,and_false->BK,false_and->VZ,true_and->Vf,false_or->BO,not_false->Ef,not_true->VY,false_eq_true->KV,true_eq_false->Eg
open Go.AM.AHeap renaming set_none->V7,set_comm->Vi,set_set->Vh,set_ne->Vb,set_same->Vd,ne_some->Bh,set->Bd,del->Vk,del_set->Eh
open Go.AM.AVal renaming cells->VV
open UInt8 renaming toNat_inj->BL,ofNat->KC,toNat->Ea,toNat_ofNat'->Ed
open Array renaming replicate->Jw,getD_eq_getD_getElem?->Kt,getElem?_append->Jy,getD->JE
open Go.AM.PMap renaming le_trans->J6
open Go.AM.IsL renaming own->V8,buf->BF
open Go.AM.Awp renaming forget->BG
open Option renaming getD_some->VK
namespace Go.Proofs.YtlhhaagmakhilaaGreatDoor
open Go.AM
open Go.Proofs
open Go.Col
set_option maxRecDepth 100000
theorem readLoop(wz:World)(hm:MaxL wz)(h B0:AHeap)(hs0:Sub h B0)(kr kx ks:Nat)(text:Str)(dbg:Bool)(lines:List Str)(hln:lines=Zl (YB text))(hl:text.length<=1048576)
 (er:B0 kr=some ⟨[.int .i64 0, .int .i64 0, .int .i64 0],0⟩) (hr:h kr=none) (es:B0 ks=some ⟨lines.map AVal.str,0⟩) (hi:RdInv wz B0 kx B0 (fun _=>none) none none .start):
 Awp Tryz.prog wz 82 (Ud 4 (qiT (Ud 1 (qcT Tryz.f49)))) (qfy (qdb Tryz.prog wz [.tmp 4, .cell 5 35] (qoW wz h text dbg))) [(1, .bool dbg),(5, .ptr (.own kr) 0),(6, .ptr (.own kx) 0),(7, .slice (.own ks) 0 lines.length (.exact lines.length))] (rdH kx B0 none none .start):=by
 have hnl:lines.length<=1048577:=by
  rw[hln];have:=qew (YB text);have:=qdD text;omega
 change Awp _ _ _ (Code.seq _ _) _ _ _;refine qJ ?_;refine awp_rseq [1,5,6,21,22,23] (by rfl) fun K hK=>?_;simp+decide only[qa,ev,qI,qG,putD,VM,VO,VN,Ka,true_and,↓qg,qc,↓Xc,Qv,Ze Tryz.underlying30];apply hK;clear hK K;refine Qj ?_;refine Xj [1,5,6,21,22,23] (fun g:RdL=>[(1, .bool dbg),(5, .ptr (.own kr) 0),(6, .ptr (.own kx) 0),(21, .slice (.own ks) 0 lines.length (.exact lines.length)),(22, .int .i64 lines.length),(23, .int .i64 g.i)]) (fun g:RdL=>rdH kx g.B g.cb g.mb g.x) (fun g:RdL=>RdInv wz B0 kx g.B g.M g.cb g.mb g.x/\g.i<=lines.length/\RdSm g.i g.x/\WB dbg (lines.drop g.i) (g.i+1) g.x=WB dbg lines 1 .start) (fun g:RdL=>lines.length-g.i) ⟨0,B0,fun _=>none,none,none, .start⟩ (by rfl) (Vl _) ⟨hi,Js _,⟨by simp[Rd.start],by simp[Rd.start]⟩,rfl⟩ ?_;rintro⟨i,B,M,cb,mb,x⟩ ⟨ri,hin,hsm,hrl⟩;simp only at ri hin hsm hrl|-
 have rix:=fun o=>QC wz ri.at o;refine awp_rseq [1,5,6,21,22,23,24] (by rfl) fun K hK=>?_;simp+decide only[qa,ev,putD,VM,VO,VN,Ka,true_and,↓qw,ql,qP,cond_false,qo,XD];apply hK;clear hK K;refine qJ (qH (b:=_) rfl (fun hb1=>?_) (fun hb1=>?_))
 ·try simp only[decide_eq_true_eq]at hb1
  have hi':i<lines.length:=by omega
  have eks:=ri.above _ _ es;have rks:=fun o=>QC wz eks o;have eg:(lines.map AVal.str).getD i .dead= .str (lines.getD i []):=by simp[Kn,hi']
  obtain⟨r,cn,f,hp⟩:∃r cn f,UG (lines.getD i []) ((i:Int)+1) dbg=(r,cn,f):=⟨_,_,_,rfl⟩
  have hsl:=qiv (s:=lines.getD i []) (line:=(i:Int)+1) (dbg:=dbg);rw[hp]at hsl;simp only at hsl;have hlm:(lines.getD i []).length<=1048576:=by
   have h1:=qij (YB text) (lines.getD i []) (by rw[<-hln,Kn,Jz hi'];exact VH hi');have h2:=qdD text;omega
  have hdrop:lines.drop i=lines.getD i []::lines.drop (i+1):=by rw[J4 hi'];simp[Kn,hi']
  refine qN ?_;change Awp _ _ _ _ _ _ _;refine qJ ?_;refine Qj ?_;refine awp_rseq [1,5,6,8,9,21,22,23] (by rfl) fun K hK=>?_;simp+decide only[qa,ev,putD,VM,VO,VN,Ka,true_and,↓qg,qc,↓Qp,qY,qU Tryz.underlying30 sz9,↓qF,qz ag9,↓qd,qb,Jr,qE,rks,eg,Vq,BI];repeat (with_reducible refine And.intro ?_ ?_;· first|trivial|omega|(intro hg;simp only[Kw,JV,Ji,VP,VQ,VS,decide_eq_true_eq,decide_eq_false_iff_not,XK]at hg;omega))
  apply hK;clear hK K;refine awp_rseq [1,5,6,10,11,12,21,22,23] (by rfl) fun K hK=>?_;simp+decide only[ev,qI,qG,putD,VM,VO,Ka,true_and,↓qg,qc,↓qw,ql,qy,cond_false,qo,QS];try simp(disch:=omega)only[wrap_i64]
  refine qM (V:= .tuple [qjv r, .bool cn,Qu f]) (by rfl) (by rfl) ((c_read wz _ (lines.getD i []) ((i:Int)+1) dbg (by omega) (by omega) (by omega)).val (by rw[hp])) ?_;simp+decide only[ev,putD,VM,VO,Ka,true_and,↓qg,qc,↓QV,QJ,QU,KX,J8,VX,Km,VX,Km,Jr,Nat.reduceAdd,Qu,qjv];refine Qi ze120 (cs:=[.int .i64 0, .bool false, .str [], .int .i64 0]) (by rfl) fun k8q9 hk8q9=>?_;try have hf_8q9:(rdH kx B0 none none .start) k8q9=none:=by first|assumption|(simp only[V7]at hk8q9;simp only[hk8q9])
  refine Qi qap (cs:=[.int .i64 0, .int .i64 0, .int .i64 0]) (by rfl) fun k8q10 hk8q10=>?_;have ne_8q10_8q9:k8q10≠k8q9:=by simp only[V7]at hk8q10;simp only[hk8q10,ne_eq,not_false_eq_true]
  try have hf_8q10:(rdH kx B0 none none .start) k8q10=none:=by first|assumption|(simp only[V7]at hk8q10;simp only[hk8q10])
  refine qp (by rfl) (by rfl) zqA Yk (by rfl) (by rfl) zqD (Js _) (by rfl) ?_;simp only[VV];simp+decide only[ev,putD,VM,VO,Ka,true_and,↓qd,qb,setAt,VW,Ki,Jr,Nat.reduceAdd];refine qp (by rfl) (by rfl) zqA QI (by rfl) (by rfl) zqD (Js _) (by rfl) ?_;simp only[VV];simp+decide only[qa,ev,putD,VO,VN,Ka,setAt,VW,Ki,Jr,Nat.reduceAdd];apply hK;clear hK K;refine qJ ?_;have hnorm:((((rdH kx B cb mb x).set k8q9 ⟨[.int .i64 0, .bool false, .str [], .int .i64 0],0⟩).set k8q10 ⟨[.int .i64 0, .int .i64 0, .int .i64 0],0⟩).set k8q9 ⟨[.int .i64 r.line, .bool r.more, .str r.text, .int .i64 r.col],0⟩).set k8q10 ⟨[.int .i64 f.e, .int .i64 f.line, .int .i64 f.col],0⟩=((rdH kx B cb mb x).set k8q9 ⟨[.int .i64 r.line, .bool r.more, .str r.text, .int .i64 r.col],0⟩).set k8q10 ⟨[.int .i64 f.e, .int .i64 f.line, .int .i64 f.col],0⟩:=by
   rw[Vi ((rdH kx B cb mb x).set k8q9 ⟨[.int .i64 0, .bool false, .str [], .int .i64 0],0⟩) _ _ ne_8q10_8q9.symm,Vh,Vh]
  rw[hnorm];obtain⟨a1,a2,a3,a4⟩:=qiV ri hk8q9 ⟨[.int .i64 r.line, .bool r.more, .str r.text, .int .i64 r.col],0⟩;have hk2:rdH kx (B.set k8q9 ⟨[.int .i64 r.line, .bool r.more, .str r.text, .int .i64 r.col],0⟩) cb mb x k8q10=none:=by
   rw[<-a1,Vb _ _ ne_8q10_8q9]
   rwa [Vb _ _ ne_8q10_8q9]at hk8q10
  obtain⟨b1,b2,b3,b4⟩:=qiV a2 hk2 ⟨[.int .i64 f.e, .int .i64 f.line, .int .i64 f.col],0⟩;rw[a1,b1];obtain⟨B₁,hB₁⟩:∃B₁,B₁=(B.set k8q9 ⟨[.int .i64 r.line, .bool r.more, .str r.text, .int .i64 r.col],0⟩).set k8q10 ⟨[.int .i64 f.e, .int .i64 f.line, .int .i64 f.col],0⟩:=⟨_,rfl⟩
  rw[<-hB₁]at b2|-
  have e0:B₁ k8q9=some ⟨[.int .i64 r.line, .bool r.more, .str r.text, .int .i64 r.col],0⟩:=by rw[hB₁,Vb _ _ ne_8q10_8q9.symm,Vd]
  have e1:B₁ k8q10=some ⟨[.int .i64 f.e, .int .i64 f.line, .int .i64 f.col],0⟩:=by rw[hB₁,Vd]
  have hB8:B k8q10=none:=by rwa [Vb _ _ ne_8q10_8q9]at b4
  have s0:=fun o=>QC wz (b2.other e0) o;have s1:=fun o=>QC wz (b2.other e1) o;refine awp_rseq [1,5,6,10,12,21,22,23,43] (by rfl) fun K hK=>?_;simp+decide only[qa,ev,qI,qG,putD,VM,VO,VN,Ka,true_and,↓qF,qY,qh Xo QI,↓Qo,↓qZ,ZI,evP,Vj,↓qw,ql,qP,cond_false,ZV,eq35,↓qg,qc,↓Xe,agP,Qw,qO,qK,qD,implies_true,JS,↓qcI,XW,Yc,qlM,qlN,↓Xa,Qy,Qk,Xk,Xv,qf,VX,Km,Jr,Nat.reduceAdd,qi,allLive,JS,s1,YY];apply hK;clear hK K;refine qH (b:=_) rfl (fun hb2=>?_) (fun hb2=>?_)
  ·try simp only[decide_eq_true_eq,Ji,Kw]at hb2
   have iz:=b2;have gz:=hsm.next;have lz:WB dbg (lines.drop (i+1)) (((i+1:Nat):Int)+1) x=WB dbg lines 1 .start:=by
    rw[<-hrl,hdrop,qpj (by rw[hp,hb2.2]) hb2.1];rfl
   refine Xm ?_;change Awp _ _ _ _ _ _ _;refine XE [1,5,6,21,22,23] (by rfl) ?_;simp+decide only[qa,ev,qI,qG,putD,VM,VO,VN,Ka,true_and,↓qw,ql,qy,cond_false,qo,QS,↓qg,qc];try simp(disch:=omega)only[wrap_i64]
   try simp only[Qf]
   exact⟨⟨i+1,_,_,_,_,_⟩,rfl,Vl _,⟨iz,by simp only;omega,gz,lz⟩,by simp only;omega⟩
  ·try simp only[decide_eq_false_iff_not,VS,VP]at hb2
   refine qN ?_;change Awp _ _ _ _ _ _ _;refine qJ ?_;refine awp_rseq [1,5,6,10,12,21,22,23,46] (by rfl) fun K hK=>?_;simp+decide only[qa,ev,qI,qG,putD,VM,VO,VN,Ka,true_and,↓qF,qY,qh Xo QI,↓Qo,↓qZ,ZI,evP,Vj,↓qw,ql,qP,cond_false,ZV,eq35,qf,VX,Km,Jr,Nat.reduceAdd,qi,allLive,JS,s1,YY];apply hK;clear hK K;refine qH (b:=_) rfl (fun hb3=>?_) (fun hb3=>?_)
   ·try simp only[decide_eq_true_eq]at hb3
    have hcn:cn=true:=by
     cases hcn:cn with
     |true=>rfl
     |false=>
      rcases hb2 with e|e
      ·exact absurd hb3 e
      ·rw[hcn]at e
       cases e
    subst hcn;refine XE [1,5,6,12,21,22,23] (by rfl) ?_;simp+decide only[ev,putD,VM,VO,Ka,true_and,↓qF,qY,qh WU Yk,qf,VX,Km,Jr,Nat.reduceAdd,qC,qi,qE,allLive,JS,s0];refine QR (by rfl) (by rfl) (c_take wz B0 kx B₁ M cb mb x b2 r (fun c hc=>by have:=hsm.small c hc;omega) (by have:=hsm.many;omega) (by omega) (hsl.2 rfl).1 (hsl.2 rfl).2.1 (by have:=(hsl.2 rfl).2.2;omega)) fun x11q1 h11q1 hx11q1=>?_;obtain⟨ex,B',M',cb',mb',rfl,i2,s2,m2⟩:=hx11q1;obtain⟨fz,hfz⟩:∃fz,fz=(takeE x r).2:=⟨_,rfl⟩
    rw[<-hfz]at ex;subst ex;have hM8:M' k8q10=none:=m2 _ (by rw[e1];simp) (ri.subM.none hB8);obtain⟨c1,iz⟩:=i2.put (s2 _ _ e1) (ri.sub.none hB8) hM8 ⟨[.int .i64 fz.e, .int .i64 fz.line, .int .i64 fz.col],0⟩;have gz:=qet hsm (r:=r) (by omega);refine qp (v:= .agg [.int .i64 fz.e, .int .i64 fz.line, .int .i64 fz.col]) (by rfl) (by rfl) (i2.other (s2 _ _ e1)) QI (by rfl) (by rfl) (by simp[]) (Js _) (by rfl) ?_;simp only[setAt,VV,VW,Ki,Jr,Nat.reduceAdd];rw[c1];have ez:=Vd B' k8q10 ⟨[.int .i64 fz.e, .int .i64 fz.line, .int .i64 fz.col],0⟩;simp+decide only[qa,putD,VM,VN,Ka,Qu];change Awp _ _ _ _ _ _ _;refine awp_rseq [1,5,6,12,21,22,23,51] (by rfl) fun K hK=>?_;simp+decide only[qa,ev,qI,qG,putD,VM,VO,VN,Ka,true_and,↓qF,qY,qh Xo QI,↓Qo,↓qZ,ZI,evP,Vj,↓qw,ql,qP,cond_false,ZV,qiM,qf,VX,Km,Jr,Nat.reduceAdd,qi,allLive,JS,QC wz (iz.other ez),YY];apply hK;clear hK K;refine qH (b:=_) rfl (fun hb4=>?_) (fun hb4=>?_)
    ·try simp only[decide_eq_false_iff_not,Ji]at hb4
     have hres:=qim (text:=text) (dbg:=dbg) hl (by rw[<-hln,<-hrl,hdrop,qsr hp hb3 (by rw[<-hfz];exact hb4)]) (by rw[<-hfz];exact hb4);rw[<-hfz]at hres;refine Zr 2 [4,5] mixed (by kernel_rfl) (by rfl) (by rfl) fun K hK=>?_;simp+decide only[ev,qI,qG,putD,VM,VO,Ka,true_and,↓qF,qY,qh Xo QI,↓qd,qb,qf,VX,Km,Jr,Nat.reduceAdd,qi,allLive,JS,QC wz (iz.other ez)];refine qp (v:= .agg [.int .i64 fz.e, .int .i64 fz.line, .int .i64 fz.col]) (by rfl) (by rfl) (iz.other (iz.sub _ _ er)) QI (by rfl) (by rfl) (by simp[]) (Js _) (by rfl) ?_;simp only[setAt,VV,VW,Ki,Jr,Nat.reduceAdd];simp+decide only[qa,putD,VN,Ka];apply hK;clear hK K;refine qL ?_;try simp only[Qg,Qn,Wm]
     refine Qb h (V3 (hs0.trans iz.above) hr) (?_) ?_
     ·simp+decide only[QD,qA,qj,VO,Ka,and_true,qA,qj,qh Xo QI,Qa,qf,VX,Km,Jr,Nat.reduceAdd,qi,allLive,JS,qf,VX,Km,Jr,Nat.reduceAdd,qi,allLive,JS]
     simp+decide only[VO,Ka,Xg,qA,qj,qh Xo QI,Qa,qf,VX,Km,Jr,Nat.reduceAdd,qi,allLive,JS,qf,VX,Km,Jr,Nat.reduceAdd,qi,allLive,JS];exact⟨.nilSlice,by rw[hres];rfl,by rw[hres];exact⟨[],rfl, .nil,by simp⟩,Vl _⟩
    ·try simp only[decide_eq_true_eq,VS]at hb4
     have lz:WB dbg (lines.drop (i+1)) (((i+1:Nat):Int)+1) (takeE x r).1=WB dbg lines 1 .start:=by
      rw[<-hrl,hdrop,qpi hp hb3 (by rw[<-hfz];exact hb4)];rfl
     refine qN ?_;change Awp _ _ _ _ _ _ _;refine XE [1,5,6,21,22,23] (by rfl) ?_;simp+decide only[qa,ev,qI,qG,putD,VM,VO,VN,Ka,true_and,↓qw,ql,qy,cond_false,qo,QS,↓qg,qc];try simp(disch:=omega)only[wrap_i64]
     try simp only[Qf]
     exact⟨⟨i+1,_,_,_,_,_⟩,rfl,Vl _,⟨iz,by simp only;omega,gz,lz⟩,by simp only;omega⟩
   ·try simp only[decide_eq_false_iff_not]at hb3
    have iz:=b2;have ez:=e1;obtain⟨fz,hfz⟩:∃fz,fz=f:=⟨_,rfl⟩
    subst hfz;refine qN ?_;change Awp _ _ _ _ _ _ _;refine awp_rseq [1,5,6,12,21,22,23,51] (by rfl) fun K hK=>?_;simp+decide only[qa,ev,qI,qG,putD,VM,VO,VN,Ka,true_and,↓qF,qY,qh Xo QI,↓Qo,↓qZ,ZI,evP,Vj,↓qw,ql,qP,cond_false,ZV,qiM,qf,VX,Km,Jr,Nat.reduceAdd,qi,allLive,JS,s1,YY];apply hK;clear hK K;refine qH (b:=_) rfl (fun hb5=>?_) (fun hb5=>?_)
    ·try simp only[decide_eq_false_iff_not,Ji]at hb5
     have hres:=qim (text:=text) (dbg:=dbg) hl (by rw[<-hln,<-hrl,hdrop,qnA hp hb3]) hb3;refine Zr 2 [4,5] mixed (by kernel_rfl) (by rfl) (by rfl) fun K hK=>?_;simp+decide only[ev,qI,qG,putD,VM,VO,Ka,true_and,↓qF,qY,qh Xo QI,↓qd,qb,qf,VX,Km,Jr,Nat.reduceAdd,qi,allLive,JS,s1];refine qp (v:= .agg [.int .i64 fz.e, .int .i64 fz.line, .int .i64 fz.col]) (by rfl) (by rfl) (iz.other (iz.sub _ _ er)) QI (by rfl) (by rfl) (by simp[]) (Js _) (by rfl) ?_;simp only[setAt,VV,VW,Ki,Jr,Nat.reduceAdd];simp+decide only[qa,putD,VN,Ka];apply hK;clear hK K;refine qL ?_;try simp only[Qg,Qn,Wm]
     refine Qb h (V3 (hs0.trans iz.above) hr) (?_) ?_
     ·simp+decide only[QD,qA,qj,VO,Ka,and_true,qA,qj,qh Xo QI,Qa,qf,VX,Km,Jr,Nat.reduceAdd,qi,allLive,JS,qf,VX,Km,Jr,Nat.reduceAdd,qi,allLive,JS]
     simp+decide only[VO,Ka,Xg,qA,qj,qh Xo QI,Qa,qf,VX,Km,Jr,Nat.reduceAdd,qi,allLive,JS,qf,VX,Km,Jr,Nat.reduceAdd,qi,allLive,JS];exact⟨.nilSlice,by rw[hres];rfl,by rw[hres];exact⟨[],rfl, .nil,by simp⟩,Vl _⟩
    ·try simp only[decide_eq_true_eq,VS]at hb5
     exact absurd hb5 hb3
 ·try simp only[decide_eq_false_iff_not]at hb1
  obtain rfl:i=lines.length:=by omega
  have hdone:WB dbg (Zl (YB text)) 1 .start=(x,okF):=by
   rw[<-hln,<-hrl,JY];rfl
  refine Xm ?_;change Awp _ _ _ _ _ _ _;refine Awp.keep [5,6] ?_;exact readEnd wz h B0 hs0 kr kx text dbg hl er hr B M cb mb x ri (by have:=hsm.many;omega) hdone
theorem qjy{text:Str}{dbg:Bool}(hl:1048576<text.length):UV text dbg=([],⟨3,0,0⟩):=by
 unfold UV;rw[if_pos hl]
theorem c_Read(wz:World)(hm:MaxL wz)(h:AHeap)(text:Str)(dbg:Bool)(hl:text.length<=9223372036854775807):ACall Tryz.prog wz 49 [.str text, .bool dbg] h (qoW wz h text dbg):=by
 refine qW (n:=82) (rs:=[.tmp 4, .cell 5 35]) Tryz.func49 rfl rfl rfl rfl (VL rfl) ?_;simp only[Qe];refine awp_rseq [0,1,5] (by rfl) fun K hK=>?_;simp+decide only[ev,qI,qG,putD,VM,if_false,true_and,↓qd,qb,Jr];refine Qi qap (cs:=[.int .i64 0, .int .i64 0, .int .i64 0]) (by rfl) fun k0q1 hk0q1=>?_;try have hf_0q1:h k0q1=none:=by first|assumption|(simp only[V7]at hk0q1;simp only[hk0q1])
 simp+decide only[qa,putD,VM,VN,Ka];apply hK;clear hK K;refine qlT ?_;refine qJ ?_;refine awp_rseq [0,1,5,16] (by rfl) fun K hK=>?_;simp+decide only[qa,ev,qI,qG,putD,VM,VO,VN,Ka,true_and,↓qg,qc,↓Xc,Qv,YO Tryz.underlying9,↓qw,ql,qy,cond_false,qo,qah];apply hK;clear hK K;refine qH (b:=_) rfl (fun hb1=>?_) (fun hb1=>?_)
 ·try simp only[decide_eq_true_eq]at hb1
  refine awp_rseq [4,5] (by rfl) fun K hK=>?_;simp+decide only[ev,qI,qG,putD,VM,VO,Ka,true_and,↓Qo,↓qZ,qse,evP,Kc,Vj,↓qd,qb];refine qp (by rfl) (by rfl) zqA QI (by rfl) (by rfl) zqD (Js _) (by rfl) ?_;simp only[Vh,VV];simp+decide only[qa,ev,putD,VO,VN,Ka,setAt,VW,Ki,Jr,Nat.reduceAdd];apply hK;clear hK K;refine qL ?_;try simp only[Qg,Wm]
  refine Qb h zqC (?_) ?_
  ·simp+decide only[QD,qA,qj,VO,Ka,and_true,qA,qj,qh Xo QI,Qa,qf,VX,Km,Jr,Nat.reduceAdd,qi,allLive,JS,qf,VX,Km,Jr,Nat.reduceAdd,qi,allLive,JS]
  simp+decide only[VO,Ka,Xg,qA,qj,qh Xo QI,Qa,qf,VX,Km,Jr,Nat.reduceAdd,qi,allLive,JS,qf,VX,Km,Jr,Nat.reduceAdd,qi,allLive,JS];have hb:1048576<text.length:=by omega
  exact⟨.nilSlice,by rw[qjy hb];rfl,by rw[qjy hb];exact⟨[],rfl, .nil,by simp⟩,Vl _⟩
 ·try simp only[decide_eq_false_iff_not]at hb1
  refine qN ?_;change Awp _ _ _ _ _ _ _;refine awp_rseq [0,1,5,6] (by rfl) fun K hK=>?_;refine Qi ze116 (cs:=[.nilSlice, .int .i64 0, .int .i64 0, .bool false]) (by rfl) fun k3q0 hk3q0=>?_;have ne_3q0_0q1:k3q0≠k0q1:=by simp only[V7]at hk3q0;simp only[hk3q0,ne_eq,not_false_eq_true]
  try have hf_3q0:h k3q0=none:=by first|assumption|(simp only[V7]at hk3q0;simp only[hk3q0])
  simp+decide only[qa,putD,VM,VN,Ka];apply hK;clear hK K;refine awp_rseq [1,5,6,7] (by rfl) fun K hK=>?_;simp+decide only[ev,putD,VM,VO,Ka,true_and,↓qg,qc];refine qM (V:= .str (YB text)) (by rfl) (by rfl) (c_trimNL wz _ text hl) ?_;refine QR (by rfl) (by rfl) (c_split wz hm _ (YB text) (by have:=qdD text;omega)) fun x4q2 h4q2 hx4q2=>?_;obtain⟨ks,hks,rfl,rfl⟩:=hx4q2;simp+decide only[qa,ev,putD,VM,VO,VN,Ka,true_and,↓qd,qb];apply hK;clear hK K;refine qJ ?_;refine qlU ?_;change Awp _ _ _ _ _ _ _;obtain⟨nks,_,hks2⟩:=(V7 _ _ _ _).mp hks;obtain⟨nkr,_,hks3⟩:=(V7 _ _ _ _).mp hks2;have nkx:k3q0≠k0q1:=((V7 _ _ _ _).mp hk3q0).1;have hcomm:((h.set k0q1 ⟨[.int .i64 0, .int .i64 0, .int .i64 0],0⟩).set k3q0 ⟨[.nilSlice, .int .i64 0, .int .i64 0, .bool false],0⟩).set ks ⟨(Zl (YB text)).map AVal.str,0⟩=rdH k3q0 ((h.set k0q1 ⟨[.int .i64 0, .int .i64 0, .int .i64 0],0⟩).set ks ⟨(Zl (YB text)).map AVal.str,0⟩) none none .start:=Vi _ _ _ nks;rw[hcomm];exact readLoop wz hm h _ zqB k0q1 k3q0 ks text dbg (Zl (YB text)) rfl (by omega) ((Vb _ _ nkr.symm).trans (Vd _ _ _)) hk0q1 (Vd _ _ _) ⟨Vl _,(fun _ _ e=>by cases e),(Vb _ _ nks.symm).trans hk3q0,trivial,trivial, .inl ⟨rfl,rfl,rfl⟩⟩
end Go.Proofs.YtlhhaagmakhilaaGreatDoor
namespace Go.Proofs.YtlhhaagmakhilaaGreatDoor
open Go.AM
open Go.Proofs
open Go.Col
open Go.Tok
open Go.RowKit (Below)
set_option maxRecDepth 100000
theorem cardT_nth{wz:World}{h:AHeap}{l:AM.Loc}{o n:Nat}{cp:Cap}{cs:List CardC}(hc:IsCards wz h (.slice l o n cp) cs){i:Nat}(hi:i<cs.length):
 ∃mv,IsL wz h 3 mv ((cs.getD i ⟨false,[],[]⟩).marks.map UD)/\rd wz h l (o+i*3)= .bool (cs.getD i ⟨false,[],[]⟩).left/\rd wz h l (o+i*3+1)= .str (cs.getD i ⟨false,[],[]⟩).text/\rd wz h l (o+i*3+2)=mv:=by
 obtain⟨ps,rfl,h2,h3⟩:=hc;rw[Jo]at hi;have he:=h2.elem (i:=i) (by rw[Jo];exact hi);rw[getD_map (⟨false,[],[]⟩, .dead) hi]at he;have hg:(ps.map (·.1)).getD i ⟨false,[],[]⟩=(ps.getD i (⟨false,[],[]⟩, .dead)).1:=by
  simp[Kn,hi]
 rw[hg];have hm:ps.getD i (⟨false,[],[]⟩, .dead)∈ps:=by rw[Kn,Jz hi];exact VH hi
 simp only[qf,ZB,List.cons.injEq,and_true]at he;exact⟨_,h3 _ hm,he.1,he.2.1,he.2.2⟩
theorem qml{wz:World}{h h':AHeap}{l:AM.Loc}{o:Nat}{v:AVal}(hv:rd wz h l o=v)(hl:v.live=true)(hs:Sub h h'):rd wz h' l o=v:=by
 have:=qht (wz:=wz) (l:=l) hs 1 o (by simp only[qf,AM.allLive,hv,hl,JS]);simp only[qf,List.cons.injEq,and_true]at this;rw[this,hv]
theorem IsCards.liveT{wz:World}{h:AHeap}{v:AVal}{cs:List CardC}(hc:IsCards wz h v cs):v.live=true:=by
 obtain⟨ps,rfl,h2,h3⟩:=hc;exact h2.live
theorem IsCards.lenT{wz:World}{h:AHeap}{v:AVal}{cs:List CardC}(hc:IsCards wz h v cs):∀H:AHeap,Yr Tryz.prog H 101 v=⟨True, .int .i64 cs.length⟩:=by
 obtain⟨ps,rfl,h2,h3⟩:=hc;have:=h2.len Tryz.underlying101;intro H;have:=this H;rw[Jo]at this|-
 exact this
theorem IsCards.openT{wz:World}{h:AHeap}{v:AVal}{cs:List CardC}(hc:IsCards wz h v cs)(hn:0<cs.length):∃l o c,v= .slice l o cs.length c:=by
 obtain⟨ps,rfl,h2,h3⟩:=hc;obtain⟨l,o,c,e⟩:=h2.open (fun e=>by rw[VU]at e;subst e;simp at hn);rw[Jo]at e|-
 exact⟨l,o,c,e⟩
theorem qny{cs:List CardC}{i:Nat}(hi:i<cs.length)(l:List TokC):qbT (cs.drop i) l=if (qaK (cs.getD i ⟨false,[],[]⟩) l).2≠okF then([],(qaK (cs.getD i ⟨false,[],[]⟩) l).2)else qbT (cs.drop (i+1)) (qaK (cs.getD i ⟨false,[],[]⟩) l).1:=by
 rw[J4 hi,qbT];simp[Kn,hi]
theorem Sub.bufBoth{h h':AHeap}{b:Option Buf}(hs:Sub h h'):Sub (QG h b) (QG h' b):=by
 cases b with
 |none=>exact hs
 |some b=>exact V9 hs _ _
def ScanR(h:AHeap)(R:List TokC×FaultC)(v:AVal)(h':AHeap):Prop:=∃tb,v= .tuple [Ym (QH 5 tb),Qu R.2]/\bufOk h 5 tb/\Yn tb=(R.1.map QM).flatten/\h'=QG h tb
structure SnG where
 i:Nat
 l:List TokC
 tb:Option Buf
 lf:Bool
 s:Str
 mv:AVal
 at0:Nat
structure SnOk(kx:Nat)(B:AHeap)(cs:List CardC)(g:SnG):Prop where
 inv:ScInv kx B g.tb g.l
 i:g.i<=cs.length
 eq:qbT (cs.drop g.i) g.l=qeB cs
 len:g.l.length<=65536
theorem qmU(wz:World)(h:AHeap)(v:AVal)(xs:List (List AVal))(hv:IsL wz h 5 v xs):ACall Tryz.prog wz 33 [v] h (fun r h'=>r=Ym v/\h'=h):=by
 have hlen:=hv.len Tryz.underlying26;have h3:=hv.slice3 Tryz.underlying26 Xb .i64 .i64 none rfl;refine qW (n:=9) (rs:=[.tmp 2]) Tryz.func33 rfl rfl rfl rfl (VL rfl) ?_;simp only[Qe];refine awp_rseq [0] (by rfl) fun K hK=>?_;simp+decide only[qa,ev,qI,qG,putD,VM,VN,Ka,true_and,↓qd,qb];apply hK;clear hK K;refine awp_rseq [2] (by rfl) fun K hK=>?_;simp+decide only[qa,ev,putD,VM,VO,VN,Ka,true_and,↓qg,qc,↓Xc,Qv,↓Wp,ZA,evO,↓qd,qb,hlen,h3];apply hK;clear hK K;refine qL ?_;refine Qb _ (Vl _) (qR (Qc)) ?_;simp+decide only[VO,if_true,and_true,Qs];all_goals first|rfl|exact⟨rfl,rfl⟩|(simp+decide only[Ka, *];done)|(trace_state;fail)
set_option maxHeartbeats 1000000 in
theorem c_Scan(wz:World)(h:AHeap)(v:AVal)(cs:List CardC)(hc:IsCards wz h v cs)(hn:cs.length<=4611686018427387904)(hsm:∀c∈cs,c.text.length<=1099511627776/\c.marks.length<=4611686018427387904):
 ACall Tryz.prog wz 50 [v] h (ScanR h (qeB cs)):=by
 have hlv:=hc.liveT;have hln:=hc.lenT;refine qW (n:=27) (rs:=[.tmp 2, .cell 3 35]) Tryz.func50 rfl rfl rfl rfl (VL rfl) ?_;simp only[Qe];refine awp_rseq [0,3] (by rfl) fun K hK=>?_;simp+decide only[ev,qI,qG,putD,VM,if_false,true_and,↓qd,qb];refine Qi qap (cs:=[.int .i64 0, .int .i64 0, .int .i64 0]) (by rfl) fun k0q1 hk0q1=>?_;try have hf_0q1:h k0q1=none:=by first|assumption|(simp only[V7]at hk0q1;simp only[hk0q1])
 simp+decide only[qa,putD,VM,VN,Ka];apply hK;clear hK K;refine awp_rseq [0,3,4] (by rfl) fun K hK=>?_;refine Qi ze132 (cs:=[.bool false, .str [], .nilSlice, .int .i64 0, .nilSlice]) (by rfl) fun k1q0 hk1q0=>?_;have ne_1q0_0q1:k1q0≠k0q1:=by simp only[V7]at hk1q0;simp only[hk1q0,ne_eq,not_false_eq_true]
 try have hf_1q0:h k1q0=none:=by first|assumption|(simp only[V7]at hk1q0;simp only[hk1q0])
 simp+decide only[qa,putD,VM,VN,Ka];obtain⟨B,hB⟩:∃B,B=h.set k0q1 ⟨[.int .i64 0, .int .i64 0, .int .i64 0],0⟩:=⟨_,rfl⟩
 have hBs:Sub h B:=by rw[hB];exact Vg hk0q1
 have hBk:B k0q1=some ⟨[.int .i64 0, .int .i64 0, .int .i64 0],0⟩:=by rw[hB];exact Vd _ _ _
 rw[<-hB]at hk1q0|-
 apply hK;clear hK K;refine qJ ?_;refine awp_rseq [3,4,8,9,10] (by rfl) fun K hK=>?_;simp+decide only[qa,ev,qI,qG,putD,VM,VO,VN,Ka,true_and,↓qg,qc,↓Xc,Qv,hln];apply hK;clear hK K;refine Qj ?_;refine Xj [3,4,8,9,10] (fun g:SnG=>[(3, .ptr (.own k0q1) 0),(4, .ptr (.own k1q0) 0),(8,v),(9, .int .i64 cs.length),(10, .int .i64 g.i)]) (fun g:SnG=>scH k1q0 B g.tb g.lf g.s g.mv g.at0) (fun g:SnG=>SnOk k1q0 B cs g) (fun g:SnG=>cs.length-g.i) ⟨0,[],none,false,[], .nilSlice,0⟩ (by rfl) (Vl _) ⟨⟨hk1q0,fun _=>trivial,rfl⟩,Js _,rfl,Js _⟩ ?_;rintro⟨i,l,tb,lf0,s0,mv0,at0⟩ ⟨i1,i2,i3,i4⟩;simp only at i1 i2 i3 i4|-
 have hSb:Sub h (scH k1q0 B tb lf0 s0 mv0 at0):=hBs.trans i1.above;refine awp_rseq [3,4,8,9,10,11] (by rfl) fun K hK=>?_;simp+decide only[qa,ev,putD,VM,VO,VN,Ka,true_and,↓qw,ql,qP,cond_false,qo,XD];apply hK;clear hK K;refine qJ (qH (b:=_) rfl (fun hb1=>?_) (fun hb1=>?_))
 ·try simp only[decide_eq_true_eq]at hb1
  have hi:i<cs.length:=by omega
  obtain⟨lc,o,cp,rfl⟩:=hc.openT (by omega);obtain⟨mv,e3,e0,e1,e2⟩:=cardT_nth hc hi;obtain⟨c,hcc⟩:∃c,c=cs.getD i ⟨false,[],[]⟩:=⟨_,rfl⟩
  have hnext:=qny hi l;rw[<-hcc]at e0 e1 e3 hnext;have hcs:=hsm c (by rw[hcc,Kn,Jz hi];exact VH hi);have hmv:=e3.live;have hms:=e3.scal;have e0':=qml e0 rfl hSb;have e1':=qml e1 rfl hSb;have e2':=qml e2 hmv hSb;rw[i3]at hnext;refine qN ?_;change Awp _ _ _ _ _ _ _;refine qJ ?_;refine Qj ?_;refine awp_rseq [3,4,6,8,9,10] (by rfl) fun K hK=>?_;simp+decide only[ev,putD,VM,VO,Ka,true_and,↓Qp,qY,qU Tryz.underlying101 qcW,↓qF,qh qoK qcW,qf,qC,qE,allLive,JS,e0',e1',e2',Vq,hmv];repeat (with_reducible refine And.intro ?_ ?_;· first|trivial|omega|(intro hg;simp only[Kw,JV,Ji,VP,VQ,VS,decide_eq_true_eq,decide_eq_false_iff_not,XK]at hg;omega))
  refine Qi ze129 (cs:=[.bool false, .str [], .nilSlice]) (by rfl) fun k4q2 hk4q2=>?_;try have hf_4q2:h k4q2=none:=by first|assumption|(simp only[V7]at hk4q2;simp only[hk4q2])
  refine qp (v:= .agg [.bool c.left, .str c.text,mv]) (by rfl) (by rfl) (Vd _ _ _) qcW (by rfl) (by rfl) (by simp[]) (Js _) (show(true && (true && (mv.scal && true)))=true by rw[hms];rfl) ?_;simp only[Vh,setAt,VV,VW,Ki,Jr,Nat.reduceAdd];simp+decide only[qa,putD,VM,VN,Ka];apply hK;clear hK K;obtain⟨a1,a2,a3,a4⟩:=i1.lay hk4q2 ⟨[.bool c.left, .str c.text,mv],0⟩;obtain⟨B2,hB2⟩:∃B2,B2=B.set k4q2 ⟨[.bool c.left, .str c.text,mv],0⟩:=⟨_,rfl⟩
  rw[<-hB2]at a1 a2;have hB2s:Sub B B2:=by rw[hB2];exact Vg a4
  have b2k:B2 k4q2=some ⟨[.bool c.left, .str c.text,mv],0⟩:=by rw[hB2];exact Vd _ _ _
  have r5:=fun o=>QC wz (a2.other (lf:=lf0) (s:=s0) (mv:=mv0) (i:=at0) b2k) o;have hm2:IsL wz B2 3 mv (c.marks.map UD):=e3.mono (hBs.trans hB2s);rw[a1];refine awp_rseq [3,4,8,9,10] (by rfl) fun K hK=>?_;simp+decide only[ev,putD,VM,VO,Ka,true_and,↓qF,qY,qh qoK qcW,↓qB,qm,Uu,qf,VX,Km,Jr,Nat.reduceAdd,qC,qE,allLive,JS,r5,hmv];refine qp (v:= .agg [.bool c.left, .str c.text,mv]) (by rfl) (by rfl) a2.at qcW (by rfl) (by rfl) (by simp[]) (Js _) (show(true && (true && (mv.scal && true)))=true by rw[hms];rfl) ?_;simp only[setAt,VV,VW,Ki,Jr,Nat.reduceAdd];rw[a2.set];show QT _ _ _ _ _ (scH k1q0 B2 tb c.left c.text mv at0) _
  simp+decide only[ev,putD,VM,VO,Ka,true_and,↓qB,qm,WE,Jr];refine qp (v:= .int .i64 0) (by rfl) (by rfl) a2.at sz3 (by rfl) (by rfl) (by simp) (Js _) (by rfl) ?_;simp only[setAt,VV,VW,Ki];rw[a2.set];show QT _ _ _ _ _ (scH k1q0 B2 tb c.left c.text mv 0) _
  simp+decide only[qa,putD,VN,Ka];apply hK;clear hK K;refine awp_rseq [3,4,7,8,9,10] (by rfl) fun K hK=>?_;refine QR (by rfl) (by rfl) (c_card wz k1q0 B2 tb c mv l a2 hm2 hcs.2 hcs.1 i4) fun x6q0 h6q0 hx6q0=>?_;obtain⟨hv6,hl6,tb',i',hh6,j1⟩:=hx6q0;obtain⟨f,hf⟩:∃f,f=(qaK c l).2:=⟨_,rfl⟩
  obtain⟨H6,hH6⟩:∃H6,H6=scH k1q0 B2 tb' c.left c.text mv i':=⟨_,rfl⟩
  have hS6:Sub h H6:=by rw[hH6];exact(hBs.trans hB2s).trans j1.above
  have e06:H6 k0q1=some ⟨[.int .i64 0, .int .i64 0, .int .i64 0],0⟩:=by rw[hH6];exact j1.other (hB2s _ _ hBk)
  rw[<-hf]at hnext;rw[hv6,hh6,<-hH6,<-hf];refine Qi qap (cs:=[.int .i64 0, .int .i64 0, .int .i64 0]) (by rfl) fun k6q1 hk6q1=>?_;try have hf_6q1:h k6q1=none:=by first|assumption|(simp only[V7]at hk6q1;simp only[hk6q1])
  refine qp (by rfl) (by rfl) zqA QI (by rfl) (by rfl) zqD (Js _) (by rfl) ?_;simp only[Vh,VV];simp+decide only[qa,ev,putD,VM,VO,VN,Ka,setAt,VW,Ki,Jr,Nat.reduceAdd,Qu];apply hK;clear hK K;have hf6:=Bg hS6 hk6q1;have ne_6q1_0q1:k6q1≠k0q1:=Bh hk6q1 e06;refine awp_rseq [3,4,7,8,9,10,20] (by rfl) fun K hK=>?_;simp+decide only[qa,ev,qI,qG,putD,VM,VO,VN,Ka,true_and,↓qF,qY,qh Xo QI,↓Qo,↓qZ,ZI,evP,Vj,↓qw,ql,qP,cond_false,ZV,qiM,QN,qf,VX,Km,Jr,Nat.reduceAdd,qi,allLive,JS,YY];apply hK;clear hK K;refine qH (b:=_) rfl (fun hb2=>?_) (fun hb2=>?_)
  ·try simp only[decide_eq_false_iff_not,Ji]at hb2
   have hres:qeB cs=([],f):=by rw[hnext,if_pos hb2]
   refine Zr 2 [2,3] mixed (by kernel_rfl) (by rfl) (by rfl) fun K hK=>?_;simp+decide only[ev,qI,qG,putD,VM,VO,Ka,true_and,↓qF,qY,qh Xo QI,↓qd,qb,QN,qf,VX,Km,Jr,Nat.reduceAdd,qi,allLive,JS];refine qp (by rfl) (by rfl) zqA QI (by rfl) (by rfl) zqD (Js _) (by rfl) ?_;simp only[VV];simp+decide only[qa,ev,putD,VO,VN,Ka,setAt,VW,Ki,Jr,Nat.reduceAdd];apply hK;clear hK K;refine qL ?_;try simp only[Qg,Qn]
   refine Qb h zqB (?_) ?_
   ·simp+decide only[QD,qA,qj,VO,Ka,and_true,qA,qj,qh Xo QI,Qa,qf,VX,Km,Jr,Nat.reduceAdd,qi,allLive,JS,qf,VX,Km,Jr,Nat.reduceAdd,qi,allLive,JS]
   simp+decide only[VO,Ka,Xg,qA,qj,qh Xo QI,Qa,qf,VX,Km,Jr,Nat.reduceAdd,qi,allLive,JS,qf,VX,Km,Jr,Nat.reduceAdd,qi,allLive,JS];exact⟨none,by rw[hres];rfl,trivial,by rw[hres];rfl,rfl⟩
  ·try simp only[decide_eq_true_eq,VS]at hb2
   have hres:qeB cs=qbT (cs.drop (i+1)) (qaK c l).1:=by rw[hnext,if_neg (by simpa using hb2)]
   refine qN ?_;change Awp _ _ _ _ _ _ _;refine XE [3,4,8,9,10] (by rfl) ?_;simp+decide only[qa,ev,qI,qG,putD,VM,VO,VN,Ka,true_and,↓qw,ql,qy,cond_false,qo,QS,↓qg,qc];try simp(disch:=omega)only[wrap_i64]
   try simp only[Qf]
   exact⟨⟨i+1,(qaK c l).1,tb',c.left,c.text,mv,i'⟩,rfl,(qmi hB2s).trans (by rw[<-hH6];exact Vg hk6q1),⟨j1.down hB2s,hi,hres.symm,hl6⟩,by simp only;omega⟩
 ·try simp only[decide_eq_false_iff_not]at hb1
  have hres:qeB cs=(l,okF):=by rw[<-i3,Vt (by omega)];rfl
  have rx10:=fun o=>QC wz (i1.at (lf:=lf0) (s:=s0) (mv:=mv0) (i:=at0)) o;have hbl:=QW 5 tb;have r0:=fun o=>QC wz (i1.other (lf:=lf0) (s:=s0) (mv:=mv0) (i:=at0) hBk) o;refine Xm ?_;change Awp _ _ _ _ _ _ _;refine awp_rseq [2,3] (by rfl) fun K hK=>?_;simp+decide only[ev,putD,VM,VO,Ka,true_and,↓qB,qm,qdY,↓qF,qY,qz UU,VX,Km,Jr,rx10,hbl];refine qM (V:=Ym (QH 5 tb)) (by rfl) (by rfl) (qmU wz _ _ _ (i1.toks _)) ?_;simp+decide only[ev,qI,qG,putD,VM,VO,Ka,true_and,↓Qo,↓qZ,ZI,evP,Vj,↓qd,qb];refine qp (v:= .agg [.int .i64 0, .int .i64 0, .int .i64 0]) (by rfl) (by rfl) (i1.other hBk) QI (by rfl) (by rfl) (by simp[]) (Js _) (by rfl) ?_;simp only[setAt,VV,VW,Ki,Jr,Nat.reduceAdd];rw[YF (i1.other hBk)];simp+decide only[qa,putD,VN,Ka];apply hK;clear hK K;refine qL ?_;refine QF (?_) ?_
  ·simp+decide only[QD,qA,qj,VO,Ka,and_true,qA,qj,qh Xo QI,qf,VX,Km,Jr,Nat.reduceAdd,qi,allLive,JS,qf,VX,Km,Jr,Nat.reduceAdd,qi,allLive,JS,r0]
  simp+decide only[VO,Ka,Xg,qA,qj,qh Xo QI,qf,VX,Km,Jr,Nat.reduceAdd,qi,allLive,JS,qf,VX,Km,Jr,Nat.reduceAdd,qi,allLive,JS,r0];have hsx:Sub h (B.set k1q0 ⟨[.bool lf0, .str s0,mv0, .int .i64 at0,QH 5 tb],0⟩):=hBs.trans (Vg i1.hk);exact⟨QG h tb,Sub.bufBoth hsx,tb,by rw[hres];rfl,(i1.ok _).sub hsx,by rw[hres];exact i1.eq,rfl⟩
end Go.Proofs.YtlhhaagmakhilaaGreatDoor
namespace Go.Proofs.YtlhhaagmakhilaaGreatDoor
open Go.AM
open Go.Proofs
open Go.Col
open Go.Tok
open Go.RowKit (Below)
set_option maxRecDepth 100000
theorem qdL(dbg:Bool):∀(ls:List Str) (n:Int) (x:Rd) (N:Nat),RdSm N x->RdSm (N+ls.length) (WB dbg ls n x).1
 |[],_,x,N,h=>h
 |s::ls,n,x,N,h=>by
  have hl:=(qiv (s:=s) (line:=n) (dbg:=dbg)).1;have e:N+(s::ls).length=(N+1)+ls.length:=by rw[KX];omega
  have up:∀k {y:Rd},RdSm (N+1) y->RdSm (N+1+k) y:=fun k y hy=>by
   induction k with
   |zero=>exact hy
   |succ k ih=>exact ih.next
  rw[WB];cases hp:UG s n dbg with
  |mk r q=>
   obtain⟨cn,f⟩:=q;rw[hp]at hl;simp only;split
   ·rw[e];exact qdL dbg ls _ x (N+1) h.next
   ·split
    ·split
     ·rw[e];exact qdL dbg ls _ _ (N+1) (qet h (by have:r.text.length<=65:=hl;omega))
     ·rw[e];exact up _ (qet h (by have:r.text.length<=65:=hl;omega))
    ·rw[e];exact up _ h.next
theorem qgK(text:Str)(dbg:Bool):(UV text dbg).1.length<=1048577/\∀c∈(UV text dbg).1,c.text.length<=83886160/\c.marks.length<=1048577:=by
 have h:=qdL dbg (Zl (YB text)) 1 .start 0 ⟨Js _,fun c hc=>by cases hc⟩;have h1:=qew (YB text);have h2:=qdD text;unfold UV;split
 ·exact⟨Js _,fun c hc=>by cases hc⟩
 ·simp only
  split
  ·exact⟨Js _,fun c hc=>by cases hc⟩
  ·split
   ·exact⟨Js _,fun c hc=>by cases hc⟩
   ·exact⟨by have:=h.many;simp only;omega,fun c hc=>by have:=h.small c hc;omega⟩
theorem qmf(text:Str)(dbg:Bool):(qfr text dbg).1.length<=65536/\∀t∈(qfr text dbg).1,t.text.length<=83886162:=by
 obtain⟨z1,z2⟩:=qgK text dbg;unfold qfr;split
 ·exact⟨Js _,fun t ht=>by cases ht⟩
 ·refine⟨qil _ _ (Js _),qjr _ _ (fun c hc j l hv hj h32 he=>?_) _ (fun t ht=>by cases ht)⟩
  have:=(z2 c hc).1;have:=qsO c.text j l hj;show(WP c.text j l).text.length<=_
  omega
theorem c_Source(wz:World)(hm:MaxL wz)(h:AHeap)(text:Str)(dbg:Bool)(hl:text.length<=9223372036854775807):ACall Tryz.prog wz 42 [.str text, .bool dbg] h (ScanR h (qfr text dbg)):=by
 obtain⟨z1,z2⟩:=qgK text dbg;refine qW (n:=22) (rs:=[.tmp 4, .cell 5 35]) Tryz.func42 rfl rfl rfl rfl (VL rfl) ?_;simp only[Qe];refine awp_rseq [0,1,5] (by rfl) fun K hK=>?_;simp+decide only[ev,qI,qG,putD,VM,if_false,true_and,↓qd,qb,Jr];refine Qi qap (cs:=[.int .i64 0, .int .i64 0, .int .i64 0]) (by rfl) fun k0q1 hk0q1=>?_;try have hf_0q1:h k0q1=none:=by first|assumption|(simp only[V7]at hk0q1;simp only[hk0q1])
 simp+decide only[qa,putD,VM,VN,Ka];apply hK;clear hK K;refine awp_rseq [5,6,7] (by rfl) fun K hK=>?_;simp+decide only[ev,putD,VM,VO,Ka,true_and,↓qg,qc];refine QR (by rfl) (by rfl) (c_Read wz hm _ text dbg hl) fun x1q2 h1q2 hx1q2=>?_;obtain⟨cv,rfl,hc,hs1⟩:=hx1q2;have hlv:=hc.liveT;obtain⟨cs,hcs⟩:∃cs,cs=(UV text dbg).1:=⟨_,rfl⟩
 obtain⟨f,hf⟩:∃f,f=(UV text dbg).2:=⟨_,rfl⟩
 have hso:qfr text dbg=if f≠okF then([],f)else qeB cs:=by rw[hf,hcs];rfl
 rw[<-hcs]at hc z1 z2;rw[<-hf];have hs_h1q2:Sub h h1q2:=BJ zqC hs1;have hr_h1q2:=hs_h1q2;have eb_0q1:=hs1 k0q1 _ zqA;simp+decide only[ev,putD,VM,VO,Ka,true_and,↓qg,qc,↓QV,QJ,QU,KX,J8,VX,Km,VX,Km,Jr,Nat.reduceAdd,Qu];refine Qi qap (cs:=[.int .i64 0, .int .i64 0, .int .i64 0]) (by rfl) fun k1q6 hk1q6=>?_;have hn_1q6:h1q2 k1q6=none:=by first|assumption|(simp only[V7]at hk1q6;simp only[hk1q6])
 have hf_1q6:h k1q6=none:=Bg hs_h1q2 hn_1q6;have ne_1q6_0q1:k1q6≠k0q1:=Bh hn_1q6 eb_0q1;simp+decide only[ev,putD,VM,VO,Ka,true_and,↓qd,qb];refine qp (by rfl) (by rfl) zqA QI (by rfl) (by rfl) zqD (Js _) (by rfl) ?_;simp only[Vh,VV];simp+decide only[qa,ev,putD,VO,VN,Ka,setAt,VW,Ki,Jr,Nat.reduceAdd];apply hK;clear hK K;refine qJ ?_;refine awp_rseq [5,6,7,16] (by rfl) fun K hK=>?_;simp+decide only[qa,ev,qI,qG,putD,VM,VO,VN,Ka,true_and,↓qF,qY,qh Xo QI,↓Qo,↓qZ,ZI,evP,Vj,↓qw,ql,qP,cond_false,ZV,qiM,QN,qf,VX,Km,Jr,Nat.reduceAdd,qi,allLive,JS,YY];apply hK;clear hK K;refine qH (b:=_) rfl (fun hb1=>?_) (fun hb1=>?_)
 ·try simp only[decide_eq_false_iff_not,Ji]at hb1
  rw[if_pos hb1]at hso;refine Zr 2 [4,5] mixed (by kernel_rfl) (by rfl) (by rfl) fun K hK=>?_;simp+decide only[ev,qI,qG,putD,VM,VO,Ka,true_and,↓qF,qY,qh Xo QI,↓qd,qb,QN,qf,VX,Km,Jr,Nat.reduceAdd,qi,allLive,JS];refine qp (by rfl) (by rfl) zqA QI (by rfl) (by rfl) zqD (Js _) (by rfl) ?_;simp only[VV];simp+decide only[qa,ev,putD,VO,VN,Ka,setAt,VW,Ki,Jr,Nat.reduceAdd];apply hK;clear hK K;refine qL ?_;try simp only[Qg]
  refine Qb h zqB (?_) ?_
  ·simp+decide only[QD,qA,qj,VO,Ka,and_true,qA,qj,qh Xo QI,Qa,qf,VX,Km,Jr,Nat.reduceAdd,qi,allLive,JS,qf,VX,Km,Jr,Nat.reduceAdd,qi,allLive,JS]
  simp+decide only[VO,Ka,Xg,qA,qj,qh Xo QI,Qa,qf,VX,Km,Jr,Nat.reduceAdd,qi,allLive,JS,qf,VX,Km,Jr,Nat.reduceAdd,qi,allLive,JS];exact⟨none,by rw[hso];rfl,trivial,by rw[hso];rfl,rfl⟩
 ·try simp only[decide_eq_true_eq,VS]at hb1
  rw[if_neg (by simpa using hb1)]at hso;refine qN ?_;change Awp _ _ _ _ _ _ _;refine awp_rseq [4,5] (by rfl) fun K hK=>?_;simp+decide only[ev,putD,VM,VO,Ka,true_and,↓qg,qc];refine QR (by rfl) (by rfl) (c_Scan wz _ cv cs (hc.mono zqB) (by omega) (fun c hcm=>by have:=z2 c hcm;omega)) fun x4q1 h4q1 hx4q1=>?_;obtain⟨tb,rfl,o1,o2,rfl⟩:=hx4q1;have hat:=(zqA:(h1q2.set k1q6 ⟨[.int .i64 f.e, .int .i64 f.line, .int .i64 f.col],0⟩) k0q1=some ⟨[.int .i64 0, .int .i64 0, .int .i64 0],0⟩)
  have hlb:=QW 5 tb;simp+decide only[ev,putD,VM,VO,Ka,true_and,↓QV,QJ,QU,KX,J8,VX,Km,↓qd,qb,VX,Km,Jr,Nat.reduceAdd,Qu];refine qp (v:=Qu (qeB cs).2) (by rfl) (by rfl) (ZE o1 hat) QI (by rfl) (by rfl) (by simp[]) (Js _) (by rfl) ?_;simp only[setAt,VV,Qu,VW,Ki,Jr,Nat.reduceAdd];rw[YW o1 hat];have r0:=fun o=>QC wz (ZE (ZY o1 hat ⟨[.int .i64 (qeB cs).2.e, .int .i64 (qeB cs).2.line, .int .i64 (qeB cs).2.col],0⟩) (Vd _ _ _)) o;simp+decide only[qa,putD,VN,Ka];apply hK;clear hK K;refine qL ?_;refine QF (?_) ?_
  ·simp+decide only[QD,qA,qj,VO,Ka,and_true,qA,qj,qh Xo QI,qf,VX,Km,Jr,Nat.reduceAdd,qi,allLive,JS,qf,VX,Km,Jr,Nat.reduceAdd,qi,allLive,JS,r0]
  simp+decide only[VO,Ka,Xg,qA,qj,qh Xo QI,qf,VX,Km,Jr,Nat.reduceAdd,qi,allLive,JS,qf,VX,Km,Jr,Nat.reduceAdd,qi,allLive,JS,r0];refine⟨QG h tb,?_,tb,by rw[hso];rfl,o1.sub zqB,by rw[hso];exact o2,rfl⟩;exact Sub.bufBoth zqB
end Go.Proofs.YtlhhaagmakhilaaGreatDoor
namespace Go.Proofs.YtlhhaagmakhilaaGreatDoor
open Go.AM
open Go.Proofs
open Go.Col
open Go.Tok
open Go.RowKit (Below)
set_option maxRecDepth 100000
theorem YL{wz:World}{h:AHeap}{lc:AM.Loc}{o:Nat}{c:Cap}{l:List TokC}(ht:IsL wz h 5 (.slice lc o l.length c) (l.map QM)){i:Nat}(hi:i<l.length):
 rd wz h lc (o+i*5)= .int .u8 (l.getD i XZ).kind.toNat/\rd wz h lc (o+i*5+1)= .str (l.getD i XZ).text/\rd wz h lc (o+i*5+2)= .int .i64 (l.getD i XZ).line/\rd wz h lc (o+i*5+3)= .int .i64 (l.getD i XZ).col/\rd wz h lc (o+i*5+4)= .bool (l.getD i XZ).left:=by
 have he:=ht.elem (i:=i) (by rw[Jo];exact hi);rw[getD_map XZ hi]at he;simp only[qf,QM,List.cons.injEq,and_true]at he;exact he
theorem Wd{wz:World}{h:AHeap}{v:AVal}{l:List TokC}(ht:IsL wz h 5 v (l.map QM))(hn:0<l.length):∃lc o c,v= .slice lc o l.length c:=by
 obtain⟨lc,o,c,e⟩:=ht.open (fun e=>by rw[VU]at e;subst e;simp at hn);rw[Jo]at e;exact⟨lc,o,c,e⟩
theorem XY{wz:World}{h:AHeap}{v:AVal}{l:List TokC}(ht:IsL wz h 5 v (l.map QM)):∀H:AHeap,Yr Tryz.prog H 26 v=⟨True, .int .i64 l.length⟩:=by
 intro H;have:=ht.len Tryz.underlying26 H
 rwa [Jo]at this
end Go.Proofs.YtlhhaagmakhilaaGreatDoor
namespace Go.Proofs.YtlhhaagmakhilaaGreatDoor
open Go.AM
open Go.Proofs
open Go.Col
open Go.Tok
open Go.RowKit (Below)
set_option maxRecDepth 100000
def qrw(a b:TokC):Bool:=decide (a.kind=b.kind) && decide (a.text=b.text)
def qbU:List TokC->List TokC->Bool
 |[],[]=>true
 |a::l,b::m=>qrw a b && qbU l m
 |_,_=>false
theorem qlh:∀{l m:List TokC},l.length≠m.length->qbU l m=false
 |[],[],h=>absurd rfl h
 |[],_::_,_=>rfl
 |_::_,[],_=>rfl
 |a::l,b::m,h=>by
  rw[qbU,qlh (l:=l) (m:=m) (fun e=>h (by simp[e])),BK]
theorem qpg{l m:List TokC}{i:Nat}(h1:i<l.length)(h2:i<m.length):qbU (l.drop i) (m.drop i)=(qrw (l.getD i XZ) (m.getD i XZ) && qbU (l.drop (i+1)) (m.drop (i+1))):=by
 rw[J4 h1,J4 h2,qbU];simp[Kn,h1,h2]
theorem c_same1(wz:World)(h:AHeap)(a b:TokC):ACall Tryz.prog wz 41 [.agg (QM a), .agg (QM b)] h (fun v h'=>v= .bool (qrw a b)/\h'=h):=by
 unfold QM;have ek:decide ((a.kind.toNat:Int)=b.kind.toNat)=decide (a.kind=b.kind):=decide_eq_decide.2 ⟨fun q=>BL.1 (by omega),fun q=>by rw[q]⟩;refine qW (n:=17) (rs:=[.tmp 4]) Tryz.func41 rfl rfl rfl rfl (VL rfl) ?_;simp only[Qe];refine awp_rseq [2,3] (by rfl) fun K hK=>?_;refine WN (by rfl) (by rfl) (by rfl) fun k0q0 hk0q0=>?_;try have hf_0q0:h k0q0=none:=by first|assumption|(simp only[V7]at hk0q0;simp only[hk0q0])
 skip;refine WN (by rfl) (by rfl) (by rfl) fun k0q1 hk0q1=>?_;have ne_0q1_0q0:k0q1≠k0q0:=by simp only[V7]at hk0q1;simp only[hk0q1,ne_eq,not_false_eq_true]
 try have hf_0q1:h k0q1=none:=by first|assumption|(simp only[V7]at hk0q1;simp only[hk0q1])
 skip;simp+decide only[qa,ev,qI,qG,putD,VM,VO,VN,Ka,true_and,↓qd,qb,VV,Jr];apply hK;clear hK K;refine awp_rseq [4] (by rfl) fun K hK=>?_;simp+decide only[qa,ev,qI,qG,putD,VM,VO,VN,Ka,true_and,↓qB,qm,qbp,↓qF,qY,qz qie,↓qw,ql,qP,cond_false,qo,XT,↓qg,qc,↓Xl,agP,Qw,qO,qK,qD,implies_true,Ur,↓Zg,XN,YT,qeg,qz ag9,↓Xd,Zi,qbb,Zj,qbc,Za,qdR,↓Xa,Qy,Qk,Xk,Xv,↓qd,qb,QZ,ne_eq,not_false_eq_true,ne_0q1_0q0.symm,QN,VX,Km,Jr,qi,qE,ek];apply hK;clear hK K;refine qL ?_;refine Qb h zqC (qR (Qc)) ?_;simp+decide only[VO,if_true,and_true,Qs];rfl
theorem qoA(wz:World)(h:AHeap)(v w:AVal)(l m:List TokC)(hv:IsL wz h 5 v (l.map QM))(hw:IsL wz h 5 w (m.map QM))(hl:l.length<=1099511627776):
 ACall Tryz.prog wz 40 [v,w, .func 41 []] h (fun r h'=>r= .bool (qbU l m)/\h'=h):=by
 have hlv:=hv.live;have hlw:=hw.live;have nv:=XY hv;have nw:=XY hw;refine qW (n:=32) (rs:=[.tmp 6]) Tryz.func40 rfl rfl rfl rfl (VL rfl) ?_;simp only[Qe];refine awp_rseq [0,1,2] (by rfl) fun K hK=>?_;simp+decide only[qa,ev,qI,qG,putD,VM,VN,Ka,true_and,↓qd,qb,Jr,Nat.reduceAdd];apply hK;clear hK K;refine qJ ?_;refine awp_rseq [0,1,2,14] (by rfl) fun K hK=>?_;simp+decide only[qa,ev,putD,VM,VO,VN,Ka,true_and,↓qg,qc,↓Xc,Qv,↓qw,ql,qP,cond_false,qo,Ua,nv,nw];apply hK;clear hK K;refine qH (b:=_) rfl (fun hb1=>?_) (fun hb1=>?_)
 ·try simp only[decide_eq_false_iff_not,Ji]at hb1
  refine awp_rseq [6] (by rfl) fun K hK=>?_;simp+decide only[qa,ev,qI,qG,putD,VM,VN,Ka,true_and,↓qd,qb];apply hK;clear hK K;refine qL ?_;try simp only[Qg]
  refine Qb h zqC (qR (Qc)) ?_;simp+decide only[VO,if_true,and_true,Qs];rw[qlh (by omega)]
 ·try simp only[decide_eq_true_eq,VS]at hb1
  have hlen:l.length=m.length:=by omega
  refine qN ?_;change Awp _ _ _ _ _ _ _;refine qJ ?_;refine awp_rseq [1,2,15,16,17] (by rfl) fun K hK=>?_;simp+decide only[qa,ev,qI,qG,putD,VM,VO,VN,Ka,true_and,↓qg,qc,↓Xc,Qv,nv];apply hK;clear hK K;refine Qj ?_;refine Xj [1,2,15,16,17] (fun i:Nat=>[(1,w),(2, .func 41 []),(15,v),(16, .int .i64 l.length),(17, .int .i64 i)]) (fun i:Nat=>h) (fun i:Nat=>i<=l.length/\qbU (l.drop i) (m.drop i)=qbU l m) (fun i:Nat=>l.length-i) 0 (by rfl) (Vl _) ⟨Js _,rfl⟩ ?_;rintro i ⟨hi,hq⟩;refine awp_rseq [1,2,15,16,17,18] (by rfl) fun K hK=>?_;simp+decide only[qa,ev,putD,VM,VO,VN,Ka,true_and,↓qw,ql,qP,cond_false,qo,XD];apply hK;clear hK K;refine qJ (qH (b:=_) rfl (fun hb2=>?_) (fun hb2=>?_))
  ·try simp only[decide_eq_true_eq]at hb2
   have hi':i<l.length:=by omega
   obtain⟨lc,o,c,rfl⟩:=Wd hv (by omega);obtain⟨lc',o',c',rfl⟩:=Wd hw (by omega);obtain⟨e0,e1,e2,e3,e4⟩:=YL hv hi';obtain⟨a,ha⟩:∃a,a=l.getD i XZ:=⟨_,rfl⟩
   obtain⟨b,hb⟩:∃b,b=m.getD i XZ:=⟨_,rfl⟩
   have hst:=qpg (l:=l) (m:=m) hi' (by omega);rw[hq]at hst;rw[<-ha]at e0 e1 e2 e3 e4 hst;rw[<-hb]at hst;have e2':rd wz h lc (o+i*5+1+1)= .int .i64 a.line:=e2;have e3':rd wz h lc (o+i*5+1+1+1)= .int .i64 a.col:=e3;have e4':rd wz h lc (o+i*5+1+1+1+1)= .bool a.left:=e4;refine qN ?_;change Awp _ _ _ _ _ _ _;refine qJ ?_;refine Qj ?_;refine awp_rseq [1,2,7,8,15,16,17] (by rfl) fun K hK=>?_;simp+decide only[ev,putD,VM,VO,Ka,true_and,↓qg,qc,↓Qp,qY,qU Tryz.underlying26 Xb,↓qF,qh Zv Xb,qf,qC,qi,qE,allLive,JS,e0,e1,e2',e3',e4',Vq];repeat (with_reducible refine And.intro ?_ ?_;· first|trivial|omega|(intro hg;simp only[Kw,JV,Ji,VP,VQ,VS,decide_eq_true_eq,decide_eq_false_iff_not,XK]at hg;omega))
   refine Qi qaD (cs:=[.int .u8 0, .str [], .int .i64 0, .int .i64 0, .bool false]) (by rfl) fun k5q3 hk5q3=>?_;try have hf_5q3:h k5q3=none:=by first|assumption|(simp only[V7]at hk5q3;simp only[hk5q3])
   simp+decide only[ev,putD,VM,VO,Ka,true_and,↓qd,qb];refine qp (by rfl) (by rfl) zqA Xb (by rfl) (by rfl) zqD (Js _) (by rfl) ?_;simp only[Vh,VV];simp+decide only[qa,ev,putD,VO,VN,Ka,setAt,VW,Ki,Jr,Nat.reduceAdd];apply hK;clear hK K;obtain⟨H,hH⟩:∃H,H=h.set k5q3 ⟨[.int .u8 a.kind.toNat, .str a.text, .int .i64 a.line, .int .i64 a.col, .bool a.left],0⟩:=⟨_,rfl⟩
   have hsH:Sub h H:=by rw[hH];exact Vg hk5q3
   obtain⟨d0,d1,d2,d3,d4⟩:=YL (hw.mono hsH) (i:=i) (by omega);rw[<-hb]at d0 d1 d2 d3 d4;have d2':rd wz H lc' (o'+i*5+1+1)= .int .i64 b.line:=d2;have d3':rd wz H lc' (o'+i*5+1+1+1)= .int .i64 b.col:=d3;have d4':rd wz H lc' (o'+i*5+1+1+1+1)= .bool b.left:=d4;rw[hH]at d0 d1 d2' d3' d4';refine awp_rseq [1,2,8,9,15,16,17] (by rfl) fun K hK=>?_;simp+decide only[ev,putD,VM,VO,Ka,true_and,↓qg,qc,↓Qp,qY,qU Tryz.underlying26 Xb,↓qF,qh Zv Xb,qf,qC,qi,qE,allLive,JS,d0,d1,d2',d3',d4',Vq];repeat (with_reducible refine And.intro ?_ ?_;· first|trivial|omega|(intro hg;simp only[Kw,JV,Ji,VP,VQ,VS,decide_eq_true_eq,decide_eq_false_iff_not,XK]at hg;omega))
   refine Qi qaD (cs:=[.int .u8 0, .str [], .int .i64 0, .int .i64 0, .bool false]) (by rfl) fun k6q4 hk6q4=>?_;have ne_6q4_5q3:k6q4≠k5q3:=by simp only[V7]at hk6q4;simp only[hk6q4,ne_eq,not_false_eq_true]
   try have hf_6q4:h k6q4=none:=by first|assumption|(simp only[V7]at hk6q4;simp only[hk6q4])
   refine qp (by rfl) (by rfl) zqA Xb (by rfl) (by rfl) zqD (Js _) (by rfl) ?_;simp only[Vh,VV];simp+decide only[qa,ev,putD,VM,VO,VN,Ka,setAt,VW,Ki,Jr,Nat.reduceAdd];apply hK;clear hK K;refine awp_rseq [1,2,15,16,17,30] (by rfl) fun K hK=>?_;simp+decide only[ev,putD,VM,VO,Ka,true_and,↓qg,qc,↓qF,qY,qh Zv Xb,QZ,ne_eq,not_false_eq_true,ne_6q4_5q3.symm,QN,qf,VX,Km,Jr,Nat.reduceAdd,qC,qi,qE,allLive,JS];refine qM (V:= .bool (qrw a b)) (by rfl) (by rfl) (c_same1 wz _ a b) ?_;simp+decide only[qa,ev,putD,VM,VO,VN,Ka,true_and,↓Yj,XW,Yc];apply hK;clear hK K;refine qH (b:=_) rfl (fun hb3=>?_) (fun hb3=>?_)
   ·try simp only[Ji]at hb3
    refine awp_rseq [6] (by rfl) fun K hK=>?_;simp+decide only[qa,ev,qI,qG,putD,VM,VN,Ka,true_and,↓qd,qb];apply hK;clear hK K;refine qL ?_;try simp only[Qg,Qn]
    refine Qb h zqC (qR (Qc)) ?_;simp+decide only[VO,if_true,and_true,Qs];rw[hst,hb3,VZ]
   ·try simp only[VS]at hb3
    refine qN ?_;change Awp _ _ _ _ _ _ _;refine XE [1,2,15,16,17] (by rfl) ?_;simp+decide only[qa,ev,qI,qG,putD,VM,VO,VN,Ka,true_and,↓qw,ql,qy,cond_false,qo,QS,↓qg,qc];try simp(disch:=omega)only[wrap_i64]
    try simp only[Qf]
    exact⟨i+1,rfl,zqB,⟨hi',by rw[hst,hb3,Vf]⟩,by omega⟩
  ·try simp only[decide_eq_false_iff_not]at hb2
   refine Xm ?_;change Awp _ _ _ _ _ _ _;refine awp_rseq [6] (by rfl) fun K hK=>?_;simp+decide only[qa,ev,qI,qG,putD,VM,VN,Ka,true_and,↓qd,qb];apply hK;clear hK K;refine qL ?_;refine Qb h zqC (qR (Qc)) ?_;simp+decide only[VO,if_true,and_true,Qs];rw[<-hq,Vt (by omega),Vt (by omega)];rfl
theorem c_Same(wz:World)(h:AHeap)(v w:AVal)(l m:List TokC)(hv:IsL wz h 5 v (l.map QM))(hw:IsL wz h 5 w (m.map QM))(hl:l.length<=1099511627776):
 ACall Tryz.prog wz 18 [v,w] h (fun r h'=>r= .bool (qbU l m)/\h'=h):=by
 have hlv:=hv.live;have hlw:=hw.live;refine qW (n:=8) (rs:=[.tmp 4]) Tryz.func18 rfl rfl rfl rfl (VL rfl) ?_;simp only[Qe];refine awp_rseq [0,1] (by rfl) fun K hK=>?_;simp+decide only[qa,ev,qI,qG,putD,VM,VN,Ka,true_and,↓qd,qb];apply hK;clear hK K;refine awp_rseq [4] (by rfl) fun K hK=>?_;simp+decide only[ev,putD,VM,VO,Ka,true_and,↓qg,qc];refine qM (V:= .bool (qbU l m)) (by rfl) (by rfl) (qoA wz _ v w l m hv hw hl) ?_;simp+decide only[qa,ev,putD,VM,VO,VN,Ka,true_and,↓qd,qb];apply hK;clear hK K;refine qL ?_;refine Qb _ (Vl _) (qR (Qc)) ?_;simp+decide only[VO,if_true,and_true,Qs];all_goals first|rfl|exact⟨rfl,rfl⟩|(simp+decide only[Ka, *];done)|(trace_state;fail)
end Go.Proofs.YtlhhaagmakhilaaGreatDoor
namespace Go.AM
open Go.RowKit (Below)
theorem Xh(b:Bool):(AVal.bool b).scal=true:=rfl
theorem XA(k:IntKind)(n:Int):(AVal.int k n).scal=true:=rfl
theorem XB(s:List UInt8):(AVal.str s).scal=true:=rfl
theorem qmh(k:Nat):(AVal.map k).scal=true:=rfl
section
variable {P:Program}
theorem qsu(t:TypeId)(x i:Operand)(ok:Bool):Zu P (.lookup t x i ok)=true:=rfl
end
section
variable {P:Program} {wz:World} {ops rest:List Oper} {s:Slots} {h:AHeap} {K:Slots->AHeap->Prop} {dst:Option Tmp} {ty:TypeId} {pos:String} {af:Array Edge}
theorem ap_lookup(t:TypeId)(x i:Operand)(ok:Bool):
 QT P wz ops (⟨dst, .lookup t x i ok,ty,pos,af,none⟩::rest) s h K=((pop P wz h s (.lookup t x i ok)).pre/\QT P wz ops rest (putD s dst (pop P wz h s (.lookup t x i ok)).val) h K):=Ug (qsu t x i ok)
theorem qni{t:TypeId}(hk:∀k,h k=none->QT P wz ops rest (putD s dst (.map k)) (h.set k (XO 0 [])) K):QT P wz ops (⟨dst, .makeMap t none,ty,pos,af,none⟩::rest) s h K:=by
 rw[qct];exact hk
theorem qoS{t kt et:TypeId}{m i v:Operand}{k c:Nat}{es:List AVal}(ht:P.underlying t=some (.map kt et))(hm:ev s m= .map k)(hb:h k=some (XO c es))(hok:qaH P kt (ev s i)=true)(hf:qaG (ev s i) es 0=some none)
 (hk:QT P wz ops rest (putD s dst (.tuple [])) (h.set k (XO (c+1) (es++[.mapE c (ev s i) (ev s v)]))) K):QT P wz ops (⟨dst, .mapUpdate t m i v,ty,pos,af,none⟩::rest) s h K:=by
 rw[qct];simp only[eop,qcD,ht,hm,UE hb,hf];exact⟨hok,hk⟩
end
section
variable {P:Program} {h:AHeap}
theorem qpo{t kt et:TypeId}{z:Value}{k c j:Nat}{es:List AVal}{i v:AVal}{ok:Bool}(ht:P.underlying t=some (.map kt et))(hz:Uh P et=some z)(hb:h k=some (XO c es))(hok:qaH P kt i=true)(hf:qaG i es 0=some (some (j,v))):
 qaw P h t (.map k) i ok=⟨True,qis ok v true⟩:=by
 simp only[qaw,ht,hz,UE hb,hf,hok]
theorem qnO{t kt et:TypeId}{z:Value}{k c:Nat}{es:List AVal}{i:AVal}{ok:Bool}(ht:P.underlying t=some (.map kt et))(hz:Uh P et=some z)(hb:h k=some (XO c es))(hok:qaH P kt i=true)(hf:qaG i es 0=some none):
 qaw P h t (.map k) i ok=⟨True,qis ok (qI z) false⟩:=by
 simp only[qaw,ht,hz,UE hb,hf,hok]
theorem qir(v:AVal)(b:Bool):qis false v b=v:=rfl
end
end Go.AM
namespace Go.AM
open Go.RowKit (Below)
theorem step_put{P:Program}{fr:Frame}{cs:List Frame}{w w':World}{d:Deferred}{ds:List Deferred}{b:Builtin}{ts:Array TypeId}{t:TypeId}{ks:Array Bool}{v:Value}(hm:fr.mode≠ .run)(hd:fr.defers=d::ds)(ht:d.target= .builtin b ts t ks)
 (hi:(invoke d.target d.args).run P w= .ok (.value v) w'):step P (lone fr cs w)= .next (lone {fr with defers:=ds} cs w'):=by
 obtain⟨tg,a⟩:=d;simp only at ht hi;subst ht;refine step_lone_go ?_;cases hmode:fr.mode with
 |run=>exact absurd hmode hm
 |returning=>simp[stepG,unwind,callDeferred,hmode,hd,hi]
 |panicking chain=>simp[stepG,unwind,callDeferred,hmode,hd,hi]
def qoV(P:Program):List Deferred->World->World->Prop
 |[],w,w'=>w'=w
 |d::ds,w,w'=>∃b ts t ks v w1,d.target= .builtin b ts t ks/\(invoke d.target d.args).run P w= .ok (.value v) w1/\qoV P ds w1 w'
theorem qeC{P:Program}:∀(ds:List Deferred) (w w':World) (fr:Frame) (cs:List Frame),fr.mode≠ .run->fr.defers=ds->qoV P ds w w'->Steps P (lone fr cs w) (lone {fr with defers:=[]} cs w')
 |[],w,w',fr,cs,_,hd,h=>by
  simp only[qoV]at h;subst h;have e:({fr with defers:=[]}:Frame)=fr:=by cases fr;simp_all
  rw[e];exact Steps.refl P _
 |d::ds,w,w',fr,cs,hm,hd,h=>by
  obtain⟨b,ts,t,ks,v,w1,ht,hi,hr⟩:=h;exact .head (step_put (cs:=cs) hm hd ht hi) (qeC ds w1 w' {fr with defers:=ds} cs hm rfl hr)
def bodyPostB(P:Program)(fn:Func)(R:Ending->World->Prop):Exit->Act->World->Prop
 | .normal,a,w| .ret,a,w=>∃w',qoV P a.defers w w'/\∃v,(results fn a.tmps).run P w'= .ok v w'/\R (.returned v) w'
 | .outgrown,_,w=>R .outgrown w
 |_,_,_=>False
theorem qiO{P:Program}{f:FuncId}{fn:Func}{c:Code}{args:Array Value}{w:World}{R:Ending->World->Prop}
 (hf:P.funcs[f]?=some fn) (hb:fn.body=some c)
 (h:c.wp P (bodyPostB P fn R) {tmps:=args++Jw (fn.ntmps-args.size) undef,defers:=[]} w):Calls P f args w R:=by
 intro cs;let b:Frame:={(default:Frame)with fn:=f,kind:= .normal}
 have henter:Frame.enter P f args .normal=
  b.at {tmps:=args++Jw (fn.ntmps-args.size) undef,defers:=[]} [.code c]:=by
  simp[Frame.enter,Frame.at,hf,hb,b]
 obtain⟨e,a',w',hq,harr⟩:=h b [] cs;rw[<-henter]at harr;cases e with
 |normal=>
  obtain⟨w'',hr,v,h1,h2⟩:=hq;have hs:=qeC a'.defers w' w'' {b.at a' []with mode:= .returning} cs (by simp) rfl hr;exact⟨.returned v,w'',_,h2,Comes.of_steps (Steps.trans harr (.one step_end)) hs,rfl,rfl,rfl,rfl,fn,hf,h1⟩
 |ret=>
  obtain⟨w'',hr,v,h1,h2⟩:=hq;obtain⟨todo,hs₀⟩:=harr;have hs:=qeC a'.defers w' w'' {b.at a' todo with mode:= .returning} cs (by simp) rfl hr;exact⟨.returned v,w'',_,h2,Comes.of_steps hs₀ hs,rfl,rfl,rfl,rfl,fn,hf,h1⟩
 |panic chain=>exact hq.elim
 |exit id=>exact hq.elim
 |goto l=>exact hq.elim
 |outgrown=>exact⟨.outgrown,w',b,hq,harr.resolve_left (by simp[b]),rfl,trivial⟩
def GD(P:Program)(wz:World)(fn:Func)(R:AVal->AHeap->Prop):Exit->PMap->Act->World->Prop:=fun e Ps a w=>
 e= .ret/\∃w',qoV P a.defers w w'/\∃v,(results fn a.tmps).run P w'= .ok v w'/\∃χ x h',Ps.le χ/\HRel wz χ h' w'/\VR χ x v/\R x h'
def qso(P:Program)(wz:World)(rs:List ResultVar)(R:AVal->AHeap->Prop)(ts:Array TypeId)(m i:AVal):Exit->Slots->AHeap->Prop
 | .ret,s,h=>qcE P h ts m i (fun _ h'=>qdb P wz rs R .ret s h')
 |_,_,_=>False
theorem acall_put{P:Program}{wz:World}{f:FuncId}{args:List AVal}{h:AHeap}{R:AVal->AHeap->Prop}{fn:Func}{c:Code}{rs:List ResultVar}{k:Nat}(hf:P.funcs[f]?=some fn)
 (hname:(fn.name== "runtime.NumGoroutine")=false) (hb:fn.body=some c) (hn:fn.ntmps=k) (hrs:fn.results=rs.toArray) (hargs:args.length<=k)
 (hc:Awp P wz ⟨k,[],GD P wz fn R⟩ c (qdb P wz rs R) (Qe 0 args) h):ACall P wz f args h R:=by
 intro fi vals w hr hv;refine .inl ⟨fn,hf,hname,by rw[hb];rfl,?_⟩;have hl:=Zf hv;refine qiO hf hb (wp_mono (hc fi _ w hr ⟨?_,rfl,fun i=>?_⟩) fun e a' w' q=>?_)
 ·simp[hn]
  omega
 ·have:=(qcR fi args vals 0 i hv).2 undef (Js i)
  by_cases hi:i<vals.length
  ·have e:(vals.toArray++Jw (fn.ntmps-vals.toArray.size) undef).getD i undef=vals.getD i undef:=by
    simp[Kt,Jy,hi,Kn]
   rw[e];simpa using this
  ·have e:(vals.toArray++Jw (fn.ntmps-vals.toArray.size) undef).getD i undef=undef:=by
    simp[Kt,Jy,hi,Array.getElem?_replicate];split<;>simp
   rw[e];have e2:vals.getD (i-0) undef=undef:=by simp[Kn,Kq (Kr hi)]
   rw[e2]at this;exact this
 ·rcases q with q|⟨_,Ps,hl1,q⟩
  ·obtain⟨Ps,s',h',e1,e2,e3,e4⟩:=q
   cases e<;>simp only[qdb]at e4<;>first
    |exact e4.elim
    |skip
   all_goals
    obtain⟨hp,h'',hsub,hR⟩:=e4;have hrs':rs=fn.results.toList:=by rw[hrs]
    rw[hrs']at hp hR;obtain⟨v,f1,f2⟩:=qfZ e2 e3 fn hp;exact⟨w',by rw[e3.defers];rfl,v,f1,v,rfl,Ps,_,h'',e1,e2.forget hsub,f2,hR⟩
  ·obtain⟨rfl,w1,g1,v,g2,χ,x,h',g3,g4,g5,g6⟩:=q
   exact⟨w1,g1,v,g2,v,rfl,χ,x,h',J6 hl1 g3,g4,g5,g6⟩
theorem qgJ{P:Program}{wz:World}{rs:List ResultVar}{R:AVal->AHeap->Prop}{ts:Array TypeId}{t kt et:TypeId}{k c j:Nat}{vi x:AVal}{es:List AVal}{s:Slots}{h:AHeap}(h0:ts[0]?=some t)(ht:P.underlying t=some (.map kt et))(hb:h k=some (XO c es))(hok:qaH P kt vi=true)
 (hf:qaG vi es 0=some (some (j,x))) (hk:qdb P wz rs R .ret s (h.set k (XO c (es.eraseIdx j)))):qso P wz rs R ts (.map k) vi .ret s h:=by
 simp only[qso,qcE,h0,ht,UE hb,hf];exact⟨hok,hk⟩
end Go.AM
namespace Go.AM
open Go.RowKit (Below)
section
variable {P:Program} {wz:World} {n:FrameK}
def qeS(P:Program)(wz:World)(l:List Oper):List Oper->Nat->List Bool->Slots->AHeap->(Slots->AHeap->Prop)->Prop
 |[],_,_,s,h,K=>K s h
 |o::r,0,_,s,h,K=>QT P wz l (o::r) s h K
 |o::r,m+1,true::bs,s,h,K=>∃V,(∀g,Sub h g->QT P wz l [o] s g fun s' h'=>s'=putD s o.dst V/\h'=g)/\qeS P wz l r m bs (putD s o.dst V) h K
 |o::r,m+1,false::bs,s,h,K=>QT P wz l [o] s h fun s' h'=>Sub h h'/\qeS P wz l r m bs s' h' K
 |o::r,m+1,[],s,h,K=>QT P wz l [o] s h fun s' h'=>Sub h h'/\qeS P wz l r m [] s' h' K
theorem qoa{l:List Oper}{m:Nat}{bs:List Bool}{s:Slots}{h:AHeap}{K:Slots->AHeap->Prop}:qeS P wz l [] m bs s h K=K s h:=rfl
theorem qsZ{l:List Oper}{m:Nat}{bs:List Bool}{o:Oper}{r:List Oper}{s:Slots}{h:AHeap}{K:Slots->AHeap->Prop}:qeS P wz l (o::r) (m+1) (false::bs) s h K=QT P wz l [o] s h fun s' h'=>Sub h h'/\qeS P wz l r m bs s' h' K:=rfl
theorem qlB{l:List Oper}{o:Oper}{bs:List Bool}{r:List Oper}{s:Slots}{h:AHeap}{K:Slots->AHeap->Prop}:qeS P wz l (o::r) 0 bs s h K=QT P wz l (o::r) s h K:=rfl
theorem qlC{l:List Oper}{m:Nat}{bs:List Bool}(hb:bs.getD 0 false=false){o:Oper}{r:List Oper}{s:Slots}{h:AHeap}{K:Slots->AHeap->Prop}(hj:qeS P wz l (o::r) (m+1) bs s h K):QT P wz l [o] s h fun s' h'=>Sub h h'/\qeS P wz l r m (bs.drop 1) s' h' K:=by
 cases bs with
 |nil=>exact hj
 |cons b bs=>
  simp only[VX]at hb;subst hb;exact hj
theorem qsY{l:List Oper}{m:Nat}{bs:List Bool}(hb:bs.getD 0 false=true){o:Oper}{r:List Oper}{s:Slots}{h:AHeap}{K:Slots->AHeap->Prop}(hj:qeS P wz l (o::r) (m+1) bs s h K):∃V,(∀g,Sub h g->QT P wz l [o] s g fun s' h'=>s'=putD s o.dst V/\h'=g)/\qeS P wz l r m (bs.drop 1) (putD s o.dst V) h K:=by
 cases bs with
 |nil=>simp at hb
 |cons b bs=>
  simp only[VX]at hb;subst hb;exact hj
def FactC(P:Program)(wz:World)(n:FrameK)(l:List Oper)(g:AHeap)(S:Slots)(o:Oper)(V:AVal):Prop:=
 ∀(Ps:PMap) (w:World) (a:Act) (g':AHeap) (next:Act->World->Prop) (Q:Exit->Act->World->Prop),Sub g g'->HRel wz Ps g' w->LookOk Ps n l o S a->(∀ψ' v w',Ps.le ψ'->HRel wz ψ' g' w'->(∀t,o.dst=some t->VR ψ' V v)->next (a.put o.dst v) w')->
  if Region.wanted o (yielded l.toArray a.tmps)=true then o.wp P a w next Q else next (a.put o.dst undef) w
theorem FactR.toC{l:List Oper}{g:AHeap}{S:Slots}{o:Oper}{V:AVal}(h:FactR P wz n l g S o V):FactC P wz n l g S o V:=
 fun Ps w a g' next Q h1 h2 h3 h4=>h Ps w a g' next Q h1 h2 h3 fun v hv=>h4 Ps v w Ps.le_refl h2 fun _ _=>hv
theorem FactC.sub{l:List Oper}{g g':AHeap}{S:Slots}{o:Oper}{V:AVal}(h:FactC P wz n l g S o V)(hs:Sub g g'):FactC P wz n l g' S o V:=
 fun Ps w a g₂ next Q h1 h2 h3 h4=>h Ps w a g₂ next Q (BJ hs h1) h2 h3 h4
theorem FactC.slots{l:List Oper}{g:AHeap}{S S':Slots}{o:Oper}{V:AVal}(h:FactC P wz n l g S o V)(hs:∀t∈QY l o,S'.get t=S.get t):FactC P wz n l g S' o V:=
 fun Ps w a g₂ next Q h1 h2 h3 h4=>h Ps w a g₂ next Q h1 h2 ⟨h3.1,h3.2.1,fun t ht=>by rw[<-hs t ht];exact h3.2.2 t ht⟩ h4
theorem qlI{l:List Oper}(hall:Xw n l=true){o:Oper}{S:Slots}{g:AHeap}{V:AVal}(ha:∀g',Sub g g'->QT P wz l [o] S g' fun s' h'=>s'=putD S o.dst V/\h'=g'):FactC P wz n l g S o V:=
 fun Ps w a g' next Q h1 h2 h3 h4=>qmr hall (ha g' h1) h2 h3 fun ψ' x h' v w' e1 e2 e3 ⟨e4,e5⟩=>h4 ψ' v w' e1 (e5 ▸ e2) fun t ht=>by
  have:=congrArg (fun s:Slots=>s.get t) e4;simp only[ZO,ht,if_true]at this;rw[<-this];exact e3
def isJ(P:Program)(l:List Oper)(π:List Nat)(fl:List Bool)(m q:Nat):Bool:=decide (q<m) && (fl.getD q false||isF P l (π.getD q 0))
def qpF(P:Program)(l:List Oper)(π:List Nat)(fl:List Bool)(ws:List (Option Nat))(m:Nat):Bool:=
 UB l && (π.all fun i=>decide (i<l.length)) && ((KO l.length).all fun i=>π.contains i) &&
 ((KO π.length).all fun q=>(KO π.length).all fun r=>decide (q=r)|| !(π.getD q 0==π.getD r 0)) &&
 ((KO π.length).all fun q=>match ws.getD q none with
   |none=>(KO q).all fun c=>isJ P l π fl m c
   |some r=>decide (r<q) && Region.waitsFor .any l.toArray (π.getD q 0) (π.getD r 0) && (KO q).all fun c=>decide (c<=r)||isJ P l π fl m c) &&
 ((KO π.length).all fun q=>match l[π.getD q 0]? with
   |none=>true
   |some o=>(KO π.length).all fun r=>match l[π.getD r 0]? with
    |none=>true
    |some oj=>(match oj.dst with
     |none=>true
     |some t=> !(QY l o).contains t||(decide (q<r) && decide (m<=r))||(decide (r<q) && Region.waitsFor .any l.toArray (π.getD q 0) (π.getD r 0)))) &&
 decide (m<=π.length) && ((KO π.length).all fun q=>decide (q<m)|| !isJ P l π fl m q) &&
 (decide (m=π.length)||(KO m).all fun q=>(KO (m+1)).any fun r=>decide (q<r) && Region.waitsFor .any l.toArray (π.getD r 0) (π.getD q 0))
structure FloatJ(P:Program)(l:List Oper)(π:List Nat)(fl:List Bool)(m:Nat):Prop where
 order:UB l=true
 inr:∀q,q<π.length->π.getD q 0<l.length
 onto:∀i,i<l.length->∃q,q<π.length/\π.getD q 0=i
 inj:∀q r,q<π.length->r<π.length->π.getD q 0=π.getD r 0->q=r
 wait:∀q c,q<π.length->c<q->isJ P l π fl m c=false->∃r,c<=r/\r<q/\Region.waitsFor .any l.toArray (π.getD q 0) (π.getD r 0)=true
 data:∀q r o oj t,q<π.length->r<π.length->l[π.getD q 0]?=some o->l[π.getD r 0]?=some oj->oj.dst=some t->t∈QY l o->(q<r/\m<=r)\/(r<q/\Region.waitsFor .any l.toArray (π.getD q 0) (π.getD r 0)=true)
 mle:m<=π.length
 tail:∀q,m<=q->q<π.length->isJ P l π fl m q=false
 sink:m<π.length->∀q,q<m->∃r,q<r/\r<=m/\Region.waitsFor .any l.toArray (π.getD r 0) (π.getD q 0)=true
theorem qoe{l:List Oper}{π:List Nat}{fl:List Bool}{ws:List (Option Nat)}{m:Nat}(h:qpF P l π fl ws m=true):FloatJ P l π fl m:=by
 unfold qpF at h;simp only[Kw]at h;obtain⟨⟨⟨⟨⟨⟨⟨⟨h1,h2⟩,h3⟩,h4⟩,h5⟩,h6⟩,h7⟩,h8⟩,h9⟩:=h;simp only[JC,JD]at h2 h3 h4 h5 h6 h8;refine⟨h1,fun q hq=>?_,fun i hi=>?_,fun q r hq hr e=>?_,fun q c hq hc hf=>?_,fun q r o oj t hq hr ho hoj hd ht=>?_,by simpa using h7,fun q hm hq=>?_,fun hm q hq=>?_⟩
 ·have:=h2 (π.getD q 0) (by rw[Kn,Jz hq];exact VH hq)
  simpa using this
 ·have:=h3 i hi
  rw[JW]at this;obtain⟨q,hq,e⟩:=BM this;exact⟨q,hq,by rw[Kn,Jz hq];exact e⟩
 ·have:=h4 q hq r hr
  rw[JV,decide_eq_true_eq]at this;rcases this with e'|e'
  ·exact e'
  ·rw[e]at e';simp at e'
 ·have:=h5 q hq
  split at this
  ·rw[JC]at this
   rw[this c (JD.2 hc)]at hf;cases hf
  ·rename_i r _
   simp only[Kw,decide_eq_true_eq,JC,JD,JV]at this;obtain⟨⟨t1,t2⟩,t3⟩:=this;rcases t3 c hc with e|e
   ·exact⟨r,e,t1,t2⟩
   ·rw[e]at hf;cases hf
 ·have:=h6 q hq
  rw[ho]at this;simp only[JC,JD]at this;have:=this r hr;rw[hoj]at this;simp only[hd,JV,Kw,decide_eq_true_eq,Ji]at this;rcases this with(e|e)|e
  ·have hm:(QY l o).contains t=true:=by simpa using ht
   rw[hm]at e;cases e
  ·exact .inl e
  ·exact .inr e
 ·have:=h8 q hq
  simp only[JV,decide_eq_true_eq,Ji]at this;rcases this with e|e
  ·omega
  ·exact e
 ·rw[JV,decide_eq_true_eq]at h9
  rcases h9 with e|e
  ·omega
  ·rw[JC]at e
   have:=e q (JD.2 hq);rw[JX]at this;obtain⟨r,hr,hw⟩:=this;rw[JD]at hr;simp only[Kw,decide_eq_true_eq]at hw;exact⟨r,hw.1,by omega,hw.2⟩
theorem qoM{l:List Oper}(hall:Xw n l=true){π:List Nat}{fl:List Bool}{m:Nat}(F:FloatJ P l π fl m){K:Slots->AHeap->Prop}{g:AHeap}:∀(d p:Nat) (S:Slots),π.length-p=d->p<=π.length->qeS P wz l ((Yl l π).drop p) (m-p) (fl.drop p) S g K->
 ∃p' S',p<=p'/\p'<=π.length/\(p'<π.length->isJ P l π fl m p'=false)/\(∀q,p<=q->q<p'->isJ P l π fl m q=true)/\qeS P wz l ((Yl l π).drop p') (m-p') (fl.drop p') S' g K/\
  (∀q o,p<=q->q<p'->l[π.getD q 0]?=some o->∃V,(∀t,o.dst=some t->S'.get t=V)/\FactC P wz n l g S' o V)/\
  (∀t,(∀q o,p<=q->q<p'->l[π.getD q 0]?=some o->o.dst≠some t)->S'.get t=S.get t):=by
 intro d;induction d with
 |zero=>
  intro p S hd hp ha;exact⟨p,S,KJ _,hp,fun h=>by omega,fun q h1 h2=>by omega,ha,fun q o h1 h2=>by omega,fun t _=>rfl⟩
 |succ d ih=>
  intro p S hd hp ha;have hpl:p<π.length:=by omega
  cases hf:isJ P l π fl m p with
  |false=>exact⟨p,S,KJ _,hp,fun _=>hf,fun q h1 h2=>by omega,ha,fun q o h1 h2=>by omega,fun t _=>rfl⟩
  |true=>
   have hpm:p<m:=by
    refine JO fun h=>?_;rw[F.tail p h hpl]at hf;cases hf
   obtain⟨o,ho⟩:∃o,l[π.getD p 0]?=some o:=⟨_,Jz (F.inr p hpl)⟩
   rw[qaO F.inr hpl ho,show m-p=(m-(p+1))+1 by omega]at ha;have hfl:(fl.drop p).getD 0 false=fl.getD p false:=by simp[Kn,Ko]
   have hfd:(fl.drop p).drop 1=fl.drop (p+1):=by rw[BN]
   obtain⟨V,hv,hfact⟩:∃V,qeS P wz l ((Yl l π).drop (p+1)) (m-(p+1)) (fl.drop (p+1)) (putD S o.dst V) g K/\FactC P wz n l g S o V:=by
    cases hb:fl.getD p false with
    |true=>
     obtain⟨V,h1,h2⟩:=qsY (by rw[hfl,hb]) ha;rw[hfd]at h2;exact⟨V,h2,qlI hall h1⟩
    |false=>
     have hk2:YI P o.op=2:=by
      unfold isJ isF at hf;rw[ho,hb]at hf;simp only[Kw,BO]at hf;simpa using hf.2
     have ha:=qlC (by rw[hfl,hb]) ha;rw[hfd]at ha;obtain⟨V,⟨_,hv⟩,hfact⟩:=qiZ hall hk2 ha;exact⟨V,hv,hfact.toC⟩
   obtain⟨p',S',a1,a2,a3,a4,a5,a6,a7⟩:=ih (p+1) (putD S o.dst V) (by omega) (by omega) hv;have notlook:∀q oq t,p<=q->q<p'->l[π.getD q 0]?=some oq->oq.dst=some t->t∉QY l o:=fun q oq t h1 h2 h3 h4 ht=>by
    rcases F.data p q o oq t hpl (by omega) ho h3 h4 ht with⟨c1,c2⟩|⟨c1,_⟩
    ·have:=a4 q (by omega) h2
     rw[F.tail q c2 (by omega)]at this;cases this
    ·omega
   have uniq:∀q oq t,p<q->q<π.length->l[π.getD q 0]?=some oq->oq.dst=some t->o.dst≠some t:=fun q oq t h1 h2 h3 h4 e=>by
    have:=((Zb F.order ho).2 _ oq t h3 h4).1 e;have:=F.inj p q hpl h2 this;omega
   refine⟨p',S',by omega,a2,a3,fun q h1 h2=>?_,a5,fun q oq h1 h2 hq=>?_,fun t ht=>?_⟩
   ·rcases JB h1 with e|e
    ·rw[<-e];exact hf
    ·exact a4 q e h2
   ·rcases JB h1 with e|e
    ·subst e
     rw[ho]at hq;obtain rfl:=Option.some.inj hq;refine⟨V,fun t ht=>?_,hfact.slots fun t ht=>?_⟩
     ·rw[a7 t fun q oq h3 h4 h5 h6=>uniq q oq t h3 (by omega) h5 h6 ht,ZO,if_pos ht]
     ·rw[a7 t fun q oq h3 h4 h5 h6=>notlook q oq t (by omega) (by omega) h5 h6 ht,ZO,if_neg fun e=>notlook p o t (KJ _) (by omega) ho e ht]
    ·exact a6 q oq e h2 hq
   ·rw[a7 t fun q oq h3 h4 h5=>ht q oq (by omega) h4 h5,ZO,if_neg (ht p o (KJ _) (by omega) ho)]
def PhaseJ(P:Program)(wz:World)(n:FrameK)(l:List Oper)(π:List Nat)(fl:List Bool)(m:Nat)(K:Slots->AHeap->Prop)(listed:Array Bool)(Ps:PMap)(a:Act)(w:World):Prop:=
 listed.size=l.length/\(∀j oj,l[j]?=some oj->listed.getD j false=true->∀e∈oj.after,Region.binds .any e=true->listed.getD e.on false=true)/\a.tmps.size=n/\a.defers=n.dfr/\
 ∃p S g,p<=π.length/\(p<π.length->isJ P l π fl m p=false)/\(∀q,p<=q->q<π.length->listed.getD (π.getD q 0) false=false)/\(∀q,q<p->isJ P l π fl m q=false->listed.getD (π.getD q 0) false=true)/\
  (m<p->∀q,q<p->listed.getD (π.getD q 0) false=true)/\HRel wz Ps g w/\qeS P wz l ((Yl l π).drop p) (m-p) (fl.drop p) S g K/\
  (∀q o,q<p->l[π.getD q 0]?=some o->listed.getD (π.getD q 0) false=false->∃V,(∀t,o.dst=some t->S.get t=V)/\FactC P wz n l g S o V)/\
  ∀t,(∃q o,q<p/\l[π.getD q 0]?=some o/\o.dst=some t/\listed.getD (π.getD q 0) false=false)\/VR Ps (S.get t) (a.tmps.getD t undef)
theorem YE{l:List Oper}{listed:Array Bool}{i j:Nat}{o:Oper}(ho:l[i]?=some o)(hedges:∀e∈o.after,Region.binds .any e=true->listed.getD e.on false=true)(hw:Region.waitsFor .any l.toArray i j=true):listed.getD j false=true:=by
 obtain⟨oi,g1,e,g2,g3,g4⟩:=Region.waitsFor_spec hw;have g1':l[i]?=some oi:=by simpa using g1
 rw[ho]at g1';obtain rfl:=Option.some.inj g1';rw[<-g4];exact hedges e g2 g3
theorem any_okJ{l:List Oper}(hall:Xw n l=true){π:List Nat}{fl:List Bool}{m:Nat}(F:FloatJ P l π fl m){K:Slots->AHeap->Prop}{fi:PMap}{Q:Exit->Act->World->Prop}
 (hq:∀Ps S g a w,fi.le Ps->HRel wz Ps g w->SRel Ps n S a->K S g->Q .normal a w):∀(fuel:Nat) (listed:Array Bool) (a:Act) (w:World) (Ps:PMap),fi.le Ps->PhaseJ P wz n l π fl m K listed Ps a w->
 (listed.toList.filter (!·)).length<=fuel->wpAny P .any l.toArray Q fuel listed a w:=by
 have hB:=F.order;have fin:∀(listed:Array Bool) (a:Act) (w:World) (Ps:PMap),fi.le Ps->PhaseJ P wz n l π fl m K listed Ps a w->Region.ready .any l.toArray listed=[]->Q .normal a w:=by
  rintro listed a w Ps hle ⟨i1,i2,i3,i4,p,S,g,p1,p2,p3,p4,p5,p6,p7,p8,p9⟩ hrd;have hal:=qco hB i1 hrd;have hp:p=π.length:=by
   rcases JB p1 with e|e
   ·exact e
   ·have:=p3 p (KJ _) e
    rw[hal _ (F.inr p e)]at this;cases this
  subst hp;rw[show(Yl l π).drop π.length=[] by rw[<-qbw F.inr];simp,qoa]at p7;refine hq Ps S g a w hle p6 ⟨i3,i4,fun t=>?_⟩ p7;rcases p9 t with⟨q,o,c1,c2,c3,c4⟩|c
  ·rw[hal _ (F.inr q c1)]at c4;cases c4
  ·exact c
 intro fuel;induction fuel with
 |zero=>
  intro listed a w Ps hle inv hc;have hrd:Region.ready .any l.toArray listed=[]:=by
   cases hrd:Region.ready .any l.toArray listed with
   |nil=>rfl
   |cons i r=>
    exfalso;have hm:i∈Region.ready .any l.toArray listed:=by rw[hrd];exact Je
    obtain⟨h1,o,ho,_⟩:=mem_ready.1 hm;have hi:i<listed.size:=by
     have:l[i]?=some o:=by simpa using ho
     rw[inv.1];exact(JA.1 this).1
    have h2:listed.toList[i]?=some false:=by
     simp[JE,hi]at h1;simp[hi,h1]
    have:=JZ h2;have hmem:false∈listed.toList.filter (!·):=by simp[List.mem_filter,this]
    have:=List.length_pos_of_mem hmem;omega
  exact⟨hrd,fin listed a w Ps hle inv hrd⟩
 |succ fuel ih=>
  intro listed a w Ps hle inv hc;refine⟨fun hrd=>fin listed a w Ps hle inv hrd,fun i hi=>?_⟩;obtain⟨i1,i2,i3,i4,p,S,g,p1,p2,p3,p4,p5,p6,p7,p8,p9⟩:=inv;obtain⟨h1,o,ho,hedges⟩:=mem_ready.1 hi;have hol:l[i]?=some o:=by simpa using ho
  have hilt:i<l.length:=(JA.1 hol).1;have hisz:i<listed.size:=by rw[i1];exact hilt
  have hif:listed.getD i false=false:=by simp[JE,hisz]at h1|-;exact h1
  have hcount:((listed.setIfInBounds i true).toList.filter (!·)).length<=fuel:=by
   have h2:listed.toList[i]?=some false:=by
    simp[JE,hisz]at h1;simp[hisz,h1]
   have:=qbL listed.toList i h2;have e:(listed.setIfInBounds i true).toList=listed.toList.set i true:=by simp
   rw[e];omega
  have hdn:∀d,o.dst=some d->d<n:=fun d hd=>qcO l i d hall (by rw[Yt,hol];exact hd);obtain⟨q,hql,hqi⟩:=F.onto i hilt;have hoq:l[π.getD q 0]?=some o:=by rw[hqi];exact hol
  have looks:LookOk Ps n l o S a:=⟨i3,i4,fun t ht=>by
   rcases p9 t with⟨r,oj,c1,c2,c3,c4⟩|c
   ·exfalso
    rcases F.data q r o oj t hql (by omega) hoq c2 c3 ht with⟨d1,d2⟩|⟨_,this⟩
    ·rw[p5 (by omega) r c1]at c4
     cases c4
    ·rw[hqi]at this
     rw[YE hol hedges this]at c4;cases c4
   ·exact c⟩
  have closed':∀j oj,l[j]?=some oj->(listed.setIfInBounds i true).getD j false=true->∀e∈oj.after,Region.binds .any e=true->(listed.setIfInBounds i true).getD e.on false=true:=fun j oj hj hl e he hb=>by
   by_cases e1:e.on=i
   ·rw[e1];exact set_self hisz
   ·rw[XP e1]
    by_cases e2:j=i
    ·subst e2
     rw[hol]at hj;obtain rfl:=Option.some.inj hj;exact hedges e he hb
    ·rw[XP e2]at hl
     exact i2 j oj hj hl e he hb
  have other:∀r,r<π.length->r≠q->(listed.setIfInBounds i true).getD (π.getD r 0) false=listed.getD (π.getD r 0) false:=fun r hr hne=>XP fun e=>hne (F.inj r q hr hql (by rw[e,hqi]));have nobehind:p<q->False:=fun hpq=>by
   obtain⟨r,r1,r2,r3⟩:=F.wait q p hql hpq (p2 (by omega));rw[hqi]at r3;have:=YE hol hedges r3;rw[p3 r r1 (by omega)]at this;cases this
  have goal:(if Region.wanted o (yielded l.toArray a.tmps)=true then o.wp P a w (wpAny P .any l.toArray Q fuel (listed.setIfInBounds i true)) Q else wpAny P .any l.toArray Q fuel (listed.setIfInBounds i true) (a.put o.dst undef) w):=by
   rcases KT q p with hqp|hqp
   ·
    obtain⟨V,v1,v2⟩:=p8 q o hqp hoq (by rw[hqi];exact hif);refine v2 Ps w a g _ Q (Vl g) p6 looks fun ψ₂ v wx hle₂ hr₂ hv=>?_;refine ih _ _ _ ψ₂ (J6 hle hle₂) ⟨by simp[i1],closed',by rw[qbW];exact i3,by rw[put_defers];exact i4,p,S,g,p1,p2,fun r r1 r2=>?_,fun r r1 r2=>?_,fun hm r r1=>?_,hr₂,p7,fun r oj r1 r2 r3=>?_,fun t=>?_⟩ hcount
    ·rw[other r r2 (by omega)];exact p3 r r1 r2
    ·by_cases e:r=q
     ·rw[e,hqi];exact set_self hisz
     ·rw[other r (by omega) e];exact p4 r r1 r2
    ·by_cases e:r=q
     ·rw[e,hqi];exact set_self hisz
     ·rw[other r (by omega) e];exact p5 hm r r1
    ·by_cases e:r=q
     ·rw[e,hqi,set_self hisz]at r3;cases r3
     ·rw[other r (by omega) e]at r3
      exact p8 r oj r1 r2 r3
    ·by_cases hod:o.dst=some t
     ·right
      rw[v1 t hod,WZ a hod (by rw[i3];exact hdn t hod)];exact hv t hod
     ·rcases p9 t with⟨r,oj,c1,c2,c3,c4⟩|c
      ·refine .inl ⟨r,oj,c1,c2,c3,?_⟩
       rw[other r (by omega) fun e=>by subst e;rw[hoq]at c2;obtain rfl:=Option.some.inj c2;exact hod c3];exact c4
      ·right
       rw[Ww a hod];exact Wt hle₂ _ _ c
   ·have hqe:q=p:=by
     rcases JB hqp with e|e
     ·exact e.symm
     ·exact(nobehind e).elim
    subst hqe;have all_m:m<=q->∀r,r<q->listed.getD (π.getD r 0) false=true:=fun hm r hr=>by
     rcases JB hm with e|e
     ·subst e
      have key:∀d r,r+d=m->r<m->listed.getD (π.getD r 0) false=true:=by
       intro d;induction d using Nat.strongRecOn with
       |ind d ihd=>
        intro r hd hr;obtain⟨r',s1,s2,s3⟩:=F.sink hql r hr;rcases JB s2 with e|e
        ·subst e
         rw[hqi]at s3;exact YE hol hedges s3
        ·have hl:=ihd (m-r') (by omega) r' (by omega) e
         obtain⟨oj,hoj⟩:∃oj,l[π.getD r' 0]?=some oj:=⟨_,Jz (F.inr r' (by omega))⟩
         exact YE hoj (i2 _ oj hoj hl) s3
      exact key (m-r) r (by omega) hr
     ·exact p5 e r hr
    obtain⟨K',ha,hnext⟩:∃K':Slots->AHeap->Prop,QT P wz l [o] S g K'/\∀s' h',K' s' h'->(q<m->Sub g h')/\qeS P wz l ((Yl l π).drop (q+1)) (m-(q+1)) (fl.drop (q+1)) s' h' K:=by
     rw[qaO F.inr hql hoq]at p7;have hfl:(fl.drop q).getD 0 false=fl.getD q false:=by simp[Kn,Ko]
     have hfd:(fl.drop q).drop 1=fl.drop (q+1):=by rw[BN]
     have hfb:q<m->fl.getD q false=false:=fun c=>by
      have:=p2 hql;unfold isJ at this;rw[decide_eq_true c,Vf,VQ]at this;exact this.1
     by_cases c:q<m
     ·rw[show m-q=(m-(q+1))+1 by omega]at p7
      have p7:=qlC (by rw[hfl,hfb c]) p7;rw[hfd]at p7;exact⟨_,p7,fun s' h' hx=>⟨fun _=>hx.1,hx.2⟩⟩
     ·rw[show m-q=0 by omega,qlB]at p7
      refine⟨_,qoT p7,fun s' h' hx=>⟨fun hc=>absurd hc c,?_⟩⟩;rw[show m-(q+1)=0 by omega];cases hdr:(Yl l π).drop (q+1)with
      |nil=>rw[hdr]at hx;rw[qoa];exact hx
      |cons o' r'=>rw[hdr]at hx;exact hx
    refine qmr hall ha p6 looks fun ψ' x h' v w' e1 e2 e3 hk=>?_;obtain⟨k1,k2⟩:=hnext _ _ hk;obtain⟨p',S',a1,a2,a3,a4,a5,a6,a7⟩:=qoM hall F (π.length-(q+1)) (q+1) (putD S o.dst x) rfl (by omega) k2;have keep:∀r or t,r<q->l[π.getD r 0]?=some or->listed.getD (π.getD r 0) false=false->(or.dst=some t\/t∈QY l or)->S'.get t=S.get t:=fun r or t hr hor hun ht=>by
     have nd:∀u ou,q<=u->u<max p' (q+1)->u<π.length->l[π.getD u 0]?=some ou->ou.dst≠some t:=fun u ou h1 hup h2 h3 h4=>by
      rcases ht with ht|ht
      ·have:=((Zb hB hor).2 _ ou t h3 h4).1 ht
       have:=F.inj r u (by omega) h2 this;omega
      ·rcases F.data r u or ou t (by omega) h2 hor h3 h4 ht with⟨c1,c2⟩|⟨c1,_⟩
       ·rcases JB h1 with e|e
        ·subst e
         rw[all_m c2 r hr]at hun;cases hun
        ·have:=a4 u e (by omega)
         rw[F.tail u c2 h2]at this;cases this
       ·omega
     rw[a7 t fun u ou h1 h2 h3=>nd u ou (by omega) (by omega) (by omega) h3,ZO,if_neg (nd q o (KJ _) (by omega) hql hoq)]
    refine ih _ _ _ ψ' (J6 hle e1) ⟨by simp[i1],closed',by rw[qbW];exact i3,by rw[put_defers];exact i4,p',S',h',a2,a3,fun r r1 r2=>?_,fun r r1 r2=>?_,fun hm r r1=>?_,e2,a5,fun r oj r1 r2 r3=>?_,fun t=>?_⟩ hcount
    ·rw[other r r2 (by omega)];exact p3 r (by omega) r2
    ·by_cases e:r=q
     ·rw[e,hqi];exact set_self hisz
     ·rw[other r (by omega) e]
      rcases KT r q with c|c
      ·exact p4 r c r2
      ·rw[a4 r (by omega) r1]at r2;cases r2
    ·have hmq:m<=q:=by
      refine Kr fun hc=>?_;have hmp:m<π.length:=by omega
      have:=a4 m (by omega) hm;rw[F.tail m (KJ _) hmp]at this;cases this
     by_cases e:r=q
     ·rw[e,hqi];exact set_self hisz
     ·rw[other r (by omega) e]
      rcases KT r q with c|c
      ·exact all_m hmq r c
      ·have:=a4 r (by omega) r1
       rw[F.tail r (by omega) (by omega)]at this;cases this
    ·by_cases e:r=q
     ·rw[e,hqi,set_self hisz]at r3;cases r3
     ·rw[other r (by omega) e]at r3
      rcases KT r q with c|c
      ·obtain⟨V,v1,v2⟩:=p8 r oj c r2 r3
       have hqm:q<m:=by
        refine JO fun hm=>?_;rw[all_m hm r c]at r3;cases r3
       exact⟨V,fun t ht=>(keep r oj t c r2 r3 (.inl ht)).trans (v1 t ht),(v2.sub (k1 hqm)).slots fun t ht=>keep r oj t c r2 r3 (.inr ht)⟩
      ·exact a6 r oj (by omega) r1 r2
    ·by_cases hod:o.dst=some t
     ·right
      rw[a7 t fun u ou h1 h2 h3 h4=>by
       have:=((Zb hB hoq).2 _ ou t h3 h4).1 hod;have:=F.inj q u hql (by omega) this;omega,ZO,if_pos hod,WZ a hod (by rw[i3];exact hdn t hod)]
      exact e3
     ·by_cases hw:∃r or,q+1<=r/\r<p'/\l[π.getD r 0]?=some or/\or.dst=some t
      ·obtain⟨r,or,w1,w2,w3,w4⟩:=hw
       exact .inl ⟨r,or,w2,w3,w4,by rw[other r (by omega) (by omega)];exact p3 r (by omega) (by omega)⟩
      ·have hS:S'.get t=S.get t:=by
        rw[a7 t fun u ou h1 h2 h3 h4=>hw ⟨u,ou,h1,h2,h3,h4⟩,ZO,if_neg hod]
       rcases p9 t with⟨r,oj,c1,c2,c3,c4⟩|c
       ·exact .inl ⟨r,oj,by omega,c2,c3,by rw[other r (by omega) (by omega)];exact c4⟩
       ·right
        rw[hS,Ww a hod];exact Wt e1 _ _ c
  simp only[wpOp,ho];split
  ·rename_i hw
   rw[if_pos hw]at goal;exact .inl goal
  ·rename_i hw
   rw[if_neg hw]at goal;exact goal
theorem qrj{Q:Exit->Slots->AHeap->Prop}{s:Slots}{h:AHeap}{id:Nat}{l:List Oper}(π:List Nat)(fl:List Bool)(ws:List (Option Nat))(m:Nat)(hm:P.follows .mixedOrders=true)(hB:qpF P l π fl ws m=true)(hd:Xw n l=true)
 (hc:qeS P wz l (Yl l π) m fl s h fun s' h'=>Q .normal s' h'):Awp P wz n (.region id l.toArray true) Q s h:=by
 refine Awp.of0 ?_;intro fi a w hr hs;have F:=qoe hB;refine wp_region_any hm ?_;have hf:∀j,(Jw l.toArray.size false).getD j false=false:=fun j=>by simp[JE]
 obtain⟨p',S',a1,a2,a3,a4,a5,a6,a7⟩:=qoM hd F π.length 0 s rfl (Js _) (by rw[Nat.sub_zero,KP];exact hc);refine any_okJ (fi:=fi) hd F (K:=fun s' h'=>Q .normal s' h') (fun Ps S g a' w' hle h1 h2 h3=>⟨Ps,S,g,hle,h1,h2,h3⟩) _ _ _ _ fi fi.le_refl
  ⟨by simp,fun j oj _ hl=>(by rw[hf]at hl;cases hl),hs.size,hs.defers,p',S',h,a2,a3,fun r _ _=>hf _,fun r r1 r2=>?_,fun hm' r r1=>?_,hr.drew,a5,fun r oj r1 r2 _=>a6 r oj (Js _) r1 r2,fun t=>?_⟩ ?_
 ·rw[a4 r (Js _) r1]at r2;cases r2
 ·have:=a4 m (Js _) hm'
  rw[F.tail m (KJ _) (by omega)]at this;cases this
 ·by_cases hw:∃r or,r<p'/\l[π.getD r 0]?=some or/\or.dst=some t
  ·obtain⟨r,or,w2,w3,w4⟩:=hw
   exact .inl ⟨r,or,w2,w3,w4,hf _⟩
  ·right
   rw[a7 t fun u ou _ h2 h3 h4=>hw ⟨u,ou,h2,h3,h4⟩];exact hs.val t
 ·have:=List.length_filter_le (!·) (Jw l.toArray.size false).toList
  simpa using this
end
end Go.AM
namespace Go.AM
section
variable {P:Program} {wz:World} {ops rest:List Oper} {s:Slots} {h:AHeap} {K:Slots->AHeap->Prop} {dst:Option Tmp} {ty:TypeId} {pos:String} {af:Array Edge}
theorem qno{fo:Operand}{args:List Operand}{ts:Array TypeId}{j:Nat}{want:Bool}(hg:gv s ops j= .bool (!want))(hr:Yo P wz ops rest (putD s dst (.tuple [])) h K):
 Yo P wz ops (⟨dst, .call ⟨.value fo,args.toArray,ts⟩,ty,pos,af,some (j,want)⟩::rest) s h K:=by
 refine qdC (V:= .dead) (f:=0) (cap:=[]) (xs:=[]) (by rw[hg];rfl) (fun e=>?_) (fun e=>?_) ?_
 ·rw[hg]at e;cases want<;>cases e
 ·rw[hg]at e;cases want<;>cases e
 ·rw[hg];cases want<;>exact hr
theorem fOps_gno{hZ:AHeap}{fo:Operand}{args:List Operand}{ts:Array TypeId}{j:Nat}{want:Bool}(hg:gv s ops j= .bool (!want))(hr:ZW P wz ops hZ rest (putD s dst (.tuple [])) h K):
 ZW P wz ops hZ (⟨dst, .call ⟨.value fo,args.toArray,ts⟩,ty,pos,af,some (j,want)⟩::rest) s h K:=by
 refine qgh (V:= .bool true) (f:=0) (cap:=[]) (xs:=[]) (by rw[hg];rfl) (fun e=>?_) trivial (fun e=>?_) ?_
 ·rw[hg]at e;cases want<;>cases e
 ·rw[hg]at e;cases want<;>cases e
 ·rw[hg];cases want<;>exact hr
theorem qiI{t:TypeId}{n:Nat}{ps:List (Nat×Operand)}{cs:List AVal}{j:Nat}{want:Bool}{g:AVal}(hg:gv s ops j=g)(hkn:YV g=true)(hb:Xi g want=true->qao P t n (evP s ps)=some cs)
 (hk:∀k H,Sub h H->(Xi g want=true->H k=some ⟨cs,0⟩)->QT P wz ops rest (putD s dst (QE (Xi g want) (.slice (.own k) 0 n (.exact n)))) H K):
 QT P wz ops (⟨dst, .buildSlice t n ps.toArray,ty,pos,af,some (j,want)⟩::rest) s h K:=by
 subst hg;have h0:qO ops j=none->False:=fun hj=>by unfold gv at hkn;rw[hj]at hkn;cases hkn
 cases hj:qO ops j with
 |none=>exact(h0 hj).elim
 |some d=>
  have e:gv s ops j=s.get d:=by unfold gv;rw[hj]
  rw[e]at hkn hb hk;refine qjd hj rfl hkn (fun q=>?_) (fun q=>?_)
  ·refine QA (hb q) fun k hk'=>?_
   have:=hk k (h.set k ⟨cs,0⟩) (Vg hk') (fun _=>Vd _ _ _);rw[q,QE]at this;exact this
  ·have:=hk 0 h (Vl _) (fun z=>by rw[q]at z;cases z)
   rw[q,QE]at this;exact this
end
theorem qiR{P:Program}{wz:World}{k id:Nat}{l pre:List Oper}{m i:Operand}{ts:Array TypeId}{ty:TypeId}{pos:String}{af:Array Edge}{rest:Code}{s:Slots}{h:AHeap}{fn:Func}{rs:List ResultVar}{R:AVal->AHeap->Prop}{Q:Exit->Slots->AHeap->Prop}{vm vi:AVal}(L:List Nat)
 (hl:l=pre++[⟨none, .defer ⟨.builtin .delete,[m,i].toArray,ts⟩,ty,pos,af,none⟩]) (hd:Xw k l=true) (hrs:fn.results=rs.toArray) (hmx:P.follows .mixedOrders=true) (hB:Region.lexTailB .any l.toArray pre.length=true) (hp:(pre.all fun o=>Zu P o.op)=true)
 (hc:∀K:Slots->AHeap->Prop,(∀s h,(∀d,Awp P wz ⟨k,[d],fun _ _ _ _=>False⟩ rest (qso P wz rs R ts vm vi) s h)->K s h)->QT P wz l pre s h (fun s' h'=>ev s' m=vm/\ev s' i=vi/\K (s'.keep L) h')):
 Awp P wz ⟨k,[],GD P wz fn R⟩ (.seq (.region id l.toArray true) rest) Q s h:=by
 have hdp:Xw k pre=true:=by
  have:∀(p q:List Oper),Xw k (p++q)=true->Xw k p=true:=by
   intro p q hp;induction p with
   |nil=>rfl
   |cons o p ih=>
    simp only[Kg,Xw,Kw]at hp|-
    exact⟨hp.1,ih hp.2⟩
  exact this pre _ (hl ▸ hd)
 have hc':=hc (fun s h=>∀d,Awp P wz ⟨k,[d],fun _ _ _ _=>False⟩ rest (qso P wz rs R ts vm vi) s h) (fun _ _ hk=>hk);have htake:l.take pre.length=pre:=by rw[hl];simp
 have hdrop:l.drop pre.length=[⟨none, .defer ⟨.builtin .delete,[m,i].toArray,ts⟩,ty,pos,af,none⟩]:=by rw[hl];simp
 intro fi a w hr hs;refine wp_seq (wp_region_still_tail (w:=w) pre.length hmx hB ?_);rw[htake,hdrop];refine qgG (w:=w.drew) (n:=⟨k,[],GD P wz fn R⟩) l hd hr.drew _ _ pre [] s a hp hdp (by simpa using hc') hs fun s' a' hs' hk=>?_;obtain⟨em,ei,hk⟩:=hk;simp only[wpList];rw[if_pos (by simp[Region.wanted])];have hvm:=hs'.ev m;have hvi:=hs'.ev i;rw[em]at hvm;rw[ei]at hvi;generalize hdd:({target:= .builtin .delete ts ty (([m,i].toArray).map fun| .const _=>true|_=>false),args:=([m,i].toArray).map a'.eval}:Deferred)=d;have hx:(execOp a'.eval ⟨none, .defer ⟨.builtin .delete,[m,i].toArray,ts⟩,ty,pos,af,none⟩).run P w.drew= .ok (.defer d) w.drew:=by
  subst hdd;simp[execOp,resolve];exact⟨by cases m<;>rfl,by cases i<;>rfl⟩
 refine .inl ?_;show Oper.wp P _ a' w.drew _ _
 simp only[Oper.wp,hx,Oper.upon_defer,Act.put,Exit.then];refine wp_mono (Awp.keep L (hk d) fi _ w.drew hr.drew ⟨hs'.size,by rw[hs'.defers],hs'.val⟩) fun e a'' w'' q=>?_;rcases q with⟨χ,s'',h'',e1,e2,e3,e4⟩|⟨_,χ,_,q⟩
 ·cases e<;>simp only[qso]at e4<;>first
   |exact e4.elim
   |skip
  obtain⟨w3,h3,f1,f2,f3⟩:=qlL (ty:=ty) e4 e2 (Wt e1 _ _ hvm) (Wt e1 _ _ hvi);obtain⟨hp,h4,hsub,hR⟩:=f3;have hrs':rs=fn.results.toList:=by rw[hrs]
  rw[hrs']at hp hR;obtain⟨v,g1,g2⟩:=qfZ f2 e3 fn hp;refine .inr ⟨trivial,χ,e1,rfl,w3,?_,v,g1,χ,_,h4,χ.le_refl,f2.forget hsub,g2,hR⟩;rw[e3.defers];subst hdd;exact⟨.delete,ts,ty,_,undef,w3,rfl,by simpa[invoke,builtin]using Zz f1,rfl⟩
 ·exact q.elim
theorem qiP{P:Program}{wz:World}{k id:Nat}{l:List Oper}{m i:Operand}{ts:Array TypeId}{ty:TypeId}{pos:String}{af:Array Edge}{rest:Code}{s:Slots}{h:AHeap}{fn:Func}{rs:List ResultVar}{R:AVal->AHeap->Prop}{Q:Exit->Slots->AHeap->Prop}{vm vi:AVal}(L:List Nat)(m0:Nat)
 (hl:l.drop m0=[⟨none, .defer ⟨.builtin .delete,[m,i].toArray,ts⟩,ty,pos,af,none⟩]) (hd:Xw k l=true) (hrs:fn.results=rs.toArray) (hmx:P.follows .mixedOrders=true) (hB:Region.lexTailB .any l.toArray m0=true) (hp:((l.take m0).all fun o=>Zu P o.op)=true)
 (hc:∀K:Slots->AHeap->Prop,(∀s h,(∀d,Awp P wz ⟨k,[d],fun _ _ _ _=>False⟩ rest (qso P wz rs R ts vm vi) s h)->K s h)->QT P wz l (l.take m0) s h (fun s' h'=>ev s' m=vm/\ev s' i=vi/\K (s'.keep L) h')):
 Awp P wz ⟨k,[],GD P wz fn R⟩ (.seq (.region id l.toArray true) rest) Q s h:=by
 have hlen:(l.take m0).length=m0:=by
  have:=congrArg BP hl;rw[K5,JR]at this;rw[K4];omega
 exact qiR L (pre:=l.take m0) (by rw[<-hl,List.take_append_drop]) hd hrs hmx (by rw[hlen];exact hB) hp hc
theorem WT{P:Program}{wz:World}{ops rest:List Oper}{s:Slots}{h hZ:AHeap}{K:Slots->AHeap->Prop}{dst:Option Tmp}{ty:TypeId}{pos:String}{af:Array Edge}{t:TypeId}{n:Nat}{ps:List (Nat×Operand)}{cs:List AVal}(hb:qao P t n (evP s ps)=some cs)
 (hk:∀k,h k=none->ZW P wz ops hZ rest (putD s dst (.slice (.own k) 0 n (.exact n))) (h.set k ⟨cs,0⟩) K):ZW P wz ops hZ (⟨dst, .buildSlice t n ps.toArray,ty,pos,af,none⟩::rest) s h K:=by
 refine qdo rfl ?_;refine QA hb fun k hk0=>?_;rw[qa];exact hk k hk0
end Go.AM
namespace Go.Cop
open Go.Col (Str FaultC okF)
open Go.Tok
set_option maxRecDepth 100000
def noT:TokC:=⟨0,[],0,0,false⟩
def alike:List TokC->List TokC->Bool
 |[],[]=>true
 |a::l,b::m=>(decide (a.kind=b.kind) && decide (a.text=b.text)) && alike l m
 |_,_=>false
def COPY:Str:=[67,79,80,89]
def BY:Str:=[66,89]
def ZN:Str:=[82,69,80,76,65,67,73,78,71]
structure RepC where
 old:List TokC
 new:List TokC
structure MemC where
 name:Str
 toks:List TokC
def WS(l old:List TokC):Bool:=decide (old.length<=l.length) && alike old (l.take old.length)
def qjw(r:List RepC):Nat->List TokC->List TokC
 |0,_=>[]
 |_+1,[]=>[]
 |f+1,t::l=>match r.find? (fun x=>WS (t::l) x.old)with
  |none=>t::qjw r f l
  |some x=>x.new++qjw r f ((t::l).drop x.old.length)
def qcv(r:List RepC)(l:List TokC):List TokC:=qjw r l.length l
def qdc(l:List TokC)(r:List RepC):List TokC×Int:=
 if r.any (fun x=>decide (x.old=[]))=true then([],1)
 else if 65536<(qcv r l).length then([],3)else(qcv r l,0)
def XJ(l:List TokC)(i:Nat)(ks:List UInt8):Bool:=decide (i<l.length) && ks.contains (l.getD i noT).kind
def Zt(l:List TokC)(i:Nat)(s:Str):Bool:=XJ l i [1] && decide ((l.getD i noT).text=s)
structure Opd where
 ok:Bool
 lo:Nat
 hi:Nat
 at_:Nat
def XL(l:List TokC)(i:Nat):Nat:=i+((l.drop i).takeWhile (fun t=> !decide (t.kind=7))).length
def Qm(l:List TokC)(i:Nat)(empty:Bool):Opd:=
 if XJ l i [1,2,3]=true then⟨true,i,i+1,i+1⟩
 else if XJ l i [7]=false then⟨false,0,0,i⟩
 else if XL l (i+1)=l.length\/(empty=false/\XL l (i+1)=i+1)then⟨false,0,0,XL l (i+1)⟩
 else⟨true,i+1,XL l (i+1),XL l (i+1)+1⟩
def qal(l:List TokC)(i j:Nat):List TokC:=(l.drop i).take (j-i)
structure Pair where
 ok:Bool
 rep:RepC
 at_:Nat
def YG(l:List TokC)(i:Nat):Pair:=
 let a:=Qm l i false
 if a.ok=false then⟨false,⟨[],[]⟩,a.at_⟩
 else if Zt l a.at_ BY=false then⟨false,⟨[],[]⟩,a.at_⟩
 else
  let b:=Qm l (a.at_+1) true
  ⟨b.ok,⟨qal l a.lo a.hi,qal l b.lo b.hi⟩,b.at_⟩
structure Pairs where
 ok:Bool
 reps:List RepC
 at_:Nat
def YD(l:List TokC):Nat->Nat->Bool->List RepC->Pairs
 |0,i,_,acc=>⟨true,acc,i⟩
 |f+1,i,first,acc=>
  if first=true\/(i<l.length/\XJ l i [6]=false)then
   (let p:=YG l i
   if p.ok=false then⟨false,[],p.at_⟩else YD l f p.at_ false (acc++[p.rep]))
  else⟨true,acc,i⟩
structure Stm where
 ok:Bool
 name:TokC
 reps:List RepC
 at_:Nat
def qdj(i:Nat):Stm:=⟨false,noT,[],i⟩
def Yu(l:List TokC)(name:TokC)(p:Pairs):Stm:=
 if p.ok=false then qdj p.at_
 else if XJ l p.at_ [6]=false then qdj p.at_
 else⟨true,name,p.reps,p.at_+1⟩
def QL(l:List TokC)(i:Nat):Stm:=
 if XJ l i [1,3]=false then qdj i
 else Yu l (l.getD i noT) (if Zt l (i+1) ZN=true then YD l (l.length+2) (i+2) true []else⟨true,[],i+1⟩)
def Xy(l:List TokC)(i:Nat):Nat:=i+((l.drop i).takeWhile (fun t=> !(decide (t.kind=1) && decide (t.text=COPY)))).length
def Ut(l:List TokC)(copies at_:Nat):FaultC:=
 if at_<l.length then⟨4,(l.getD at_ noT).line,(l.getD at_ noT).col⟩else⟨4,(l.getD copies noT).line,(l.getD copies noT).col⟩
def addE(names:List Str)(s:Str):List Str:=if names.contains s=true then names else names++[s]
structure Xs where
 names:List Str
 copies:Nat
inductive Xr where
 |bad (f:FaultC)
 |ok (out:List TokC) (st:Xs)
def qdE(lim:Bool)(l:List TokC):Bool:=lim && decide (65536<l.length)
def qaA(lim:Bool)(mem:List MemC)(op:List Str)(rec:List TokC->List Str->Xs->Xr)(s:Stm)(st:Xs):Xr:=
 match mem.find? (fun m=>decide (m.name=s.name.text))with
 |none=> .bad ⟨7,s.name.line,s.name.col⟩
 |some m=>
  if op.contains s.name.text=true then .bad ⟨10,s.name.line,s.name.col⟩
  else if 8<=op.length\/(lim=true/\4096<st.copies+1)then .bad ⟨3,s.name.line,s.name.col⟩
  else match rec m.toks (op++[s.name.text]) ⟨addE st.names s.name.text,st.copies+1⟩with
   | .bad f=> .bad f
   | .ok l st'=>if qdE lim l=true then .bad ⟨3,s.name.line,s.name.col⟩else if qdE lim (qcv s.reps l)=true then .bad ⟨3,s.name.line,s.name.col⟩else .ok (qcv s.reps l) st'
def qaB(lim:Bool)(mem:List MemC)(op:List Str)(rec:List TokC->List Str->Xs->Xr)(l:List TokC):Nat->Nat->List TokC->Xs->Xr
 |0,_,out,st=> .ok out st
 |f+1,i,out,st=>
  let c:=Xy l i
  if l.length<=c then .ok (out++l.drop i) st
  else
   let s:=QL l (c+1)
   if s.ok=false then .bad (Ut l c s.at_)
   else match qaA lim mem op rec s st with
    | .bad f=> .bad f
    | .ok inner st'=>if qdE lim (out++qal l i c++inner)=true then .bad ⟨3,s.name.line,s.name.col⟩else qaB lim mem op rec l f s.at_ (out++qal l i c++inner) st'
def qiu(lim:Bool)(mem:List MemC):Nat->List TokC->List Str->Xs->Xr
 |0,l,op,st=>qaB lim mem op (fun _ _ st=> .ok [] st) l (l.length+1) 0 [] st
 |d+1,l,op,st=>qaB lim mem op (qiu lim mem d) l (l.length+1) 0 [] st
def qac(lim:Bool)(l:List TokC)(mem:List MemC):Xr:=qiu lim mem 8 l [] ⟨[],0⟩
def qas(l:List TokC):Nat->Nat->List Str->List Str×FaultC
 |0,_,names=>(names,okF)
 |f+1,i,names=>
  let c:=Xy l i
  if l.length<=c then(names,okF)
  else
   let s:=QL l (c+1)
   if s.ok=false then([],Ut l c s.at_)
   else qas l f s.at_ (addE names s.name.text)
def ZJ(l:List TokC):List Str×FaultC:=qas l (l.length+1) 0 []
end Go.Cop
namespace Go.Cop
open Go.Col (Str FaultC okF)
open Go.Tok
set_option maxRecDepth 100000
theorem qhT{α:Type}(d:α){l:List α}{i:Nat}(hi:i<l.length):l.drop i=l.getD i d::l.drop (i+1):=by
 rw[J4 hi];simp[Kn,hi]
theorem fitsR_len{l o:List TokC}(h:WS l o=true):o.length<=l.length:=by
 unfold WS at h;simp only[Kw,decide_eq_true_eq]at h;exact h.1
theorem qgb{r:List RepC}(hr:∀x∈r,x.old≠[]):∀(f g:Nat) (l:List TokC),l.length<=f->l.length<=g->qjw r f l=qjw r g l
 |0,g,l,hf,_=>by
  rw[Ke (by omega:l.length=0)];cases g<;>rfl
 |f+1,0,l,_,hg=>by
  rw[Ke (by omega:l.length=0)];rfl
 |f+1,g+1,[],_,_=>rfl
 |f+1,g+1,t::l,hf,hg=>by
  simp only[KX]at hf hg;simp only[qjw];cases hq:r.find? (fun x=>WS (t::l) x.old)with
  |none=>simp only;rw[qgb hr f g l (by omega) (by omega)]
  |some x=>
   simp only;have hx:0<x.old.length:=BQ.2 (hr x (BR hq));have hd:((t::l).drop x.old.length).length<=l.length:=by simp;omega
   rw[qgb hr f g _ (by omega) (by omega)]
theorem repE_nil(r:List RepC):qcv r []=[]:=rfl
theorem qsp{r:List RepC}(hr:∀x∈r,x.old≠[]){l:List TokC}{i:Nat}(hi:i<l.length):qcv r (l.drop i)=match r.find? (fun x=>WS (l.drop i) x.old)with
 |none=>l.getD i noT::qcv r (l.drop (i+1))
 |some x=>x.new++qcv r (l.drop (i+x.old.length)):=by
 unfold qcv;have e:=qhT noT hi;rw[show(l.drop i).length=(l.drop (i+1)).length+1 by simp;omega];rw[e];simp only[qjw];rw[<-e];cases hq:r.find? (fun x=>WS (l.drop i) x.old)with
 |none=>rfl
 |some x=>
  simp only;have hx:0<x.old.length:=BQ.2 (hr x (BR hq));rw[BN,qgb hr _ _ (l.drop (i+x.old.length)) (by simp;omega) (KJ _)]
theorem qjY{r:List RepC}{p:RepC->Bool}:(r.findIdx? p=none/\r.find? p=none)\/∃i x,r.findIdx? p=some i/\r.find? p=some x/\i<r.length/\r[i]?=some x:=by
 cases h:r.findIdx? p with
 |none=>
  left;refine⟨rfl,?_⟩;rw[BS]at h;rw[List.find?_eq_none];intro x hx;simp[h x hx]
 |some i=>
  right;rw[BU]at h;obtain⟨h1,h2,h3⟩:=h;refine⟨i,r[i],rfl,?_,h1,by simp[h1]⟩;rw[BV];exact⟨h2,i,h1,rfl,fun j hj=>by simpa using h3 j hj⟩
theorem UR{l:List TokC}{i:Nat}{ks:List UInt8}(h:XJ l i ks=true):i<l.length:=by
 unfold XJ at h;simp only[Kw,decide_eq_true_eq]at h;exact h.1
theorem qcL{α:Type}(p:α->Bool):∀l:List α,(l.takeWhile p).length<=l.length
 |[]=>KJ _
 |a::l=>by
  rw[BX];split
  ·simp;exact qcL p l
  ·simp
theorem qmm{l:List TokC}{i:Nat}(h:i<=l.length):i<=XL l i/\XL l i<=l.length:=by
 unfold XL;have:=qcL (fun t:TokC=> !decide (t.kind=7)) (l.drop i);rw[K5]at this;omega
theorem qbM{l:List TokC}{i:Nat}(h:i<=l.length):i<=Xy l i/\Xy l i<=l.length:=by
 unfold Xy;have:=qcL (fun t:TokC=> !(decide (t.kind=1) && decide (t.text=COPY))) (l.drop i);rw[K5]at this;omega
theorem qai{l:List TokC}{i:Nat}{e:Bool}(h:i<=l.length):i<=(Qm l i e).at_/\(Qm l i e).at_<=l.length/\((Qm l i e).ok=true->i<(Qm l i e).at_/\(Qm l i e).lo<=(Qm l i e).hi/\(Qm l i e).hi<=l.length/\(e=false->(Qm l i e).lo<(Qm l i e).hi)):=by
 unfold Qm;split
 ·rename_i h1
  have:=UR h1;exact⟨by simp only;omega,by simp only;omega,fun _=>⟨by simp only;omega,by simp only;omega,by simp only;omega,fun _=>by simp only;omega⟩⟩
 ·split
  ·exact⟨KJ _,h,fun q=>by cases q⟩
  ·rename_i h2
   have h2':XJ l i [7]=true:=by simpa using h2
   have hl:=UR h2';obtain⟨p1,p2⟩:=qmm (l:=l) (i:=i+1) (by omega);split
   ·exact⟨by simp only;omega,p2,fun q=>by cases q⟩
   ·rename_i h3
    have hne:XL l (i+1)≠l.length:=fun q=>h3 (.inl q);refine⟨by simp only;omega,by simp only;omega,fun _=>⟨by simp only;omega,p1,p2,fun he=>?_⟩⟩;simp only;have:XL l (i+1)≠i+1:=fun q=>h3 (.inr ⟨he,q⟩);omega
theorem qiY{l:List TokC}{i:Nat}(h:i<=l.length):i<=(YG l i).at_/\(YG l i).at_<=l.length/\((YG l i).ok=true->i<(YG l i).at_/\(YG l i).rep.old≠[]):=by
 obtain⟨a1,a2,a3⟩:=qai (e:=false) h;unfold YG;simp only;split
 ·exact⟨a1,a2,fun q=>by cases q⟩
 ·rename_i h1
  have h1':(Qm l i false).ok=true:=by simpa using h1
  obtain⟨b1,b2,b3,b4⟩:=a3 h1';split
  ·exact⟨a1,a2,fun q=>by cases q⟩
  ·rename_i h2
   have h2':Zt l (Qm l i false).at_ BY=true:=by simpa using h2
   have hl:(Qm l i false).at_<l.length:=by
    unfold Zt at h2';simp only[Kw]at h2';exact UR h2'.1
   obtain⟨c1,c2,c3⟩:=qai (l:=l) (i:=(Qm l i false).at_+1) (e:=true) (by omega);refine⟨by simp only;omega,c2,fun _=>⟨by simp only;omega,?_⟩⟩;simp only[qal];intro q;have:=congrArg BP q;have:=b4 rfl;simp at*
   omega
theorem qnM{l:List TokC}:∀(f i:Nat) (first:Bool) (acc:List RepC),i<=l.length->(∀x∈acc,x.old≠[])->i<=(YD l f i first acc).at_/\(YD l f i first acc).at_<=l.length/\∀x∈(YD l f i first acc).reps,x.old≠[]
 |0,i,first,acc,h,ha=>⟨KJ _,h,ha⟩
 |f+1,i,first,acc,h,ha=>by
  rw[YD];split
  ·obtain⟨p1,p2,p3⟩:=qiY h
   simp only;split
   ·exact⟨p1,p2,fun x hx=>by cases hx⟩
   ·rename_i hok
    obtain⟨p4,p5⟩:=p3 (by simpa using hok);obtain⟨q1,q2,q3⟩:=qnM f (YG l i).at_ false (acc++[(YG l i).rep]) p2 (fun x hx=>by
     rcases JI.1 hx with hx|hx
     ·exact ha x hx
     ·rw[BD.1 hx];exact p5)
    exact⟨by omega,q2,q3⟩
  ·exact⟨KJ _,h,ha⟩
theorem qbF{l:List TokC}{i:Nat}{s:Str}(h:Zt l i s=true):i<l.length:=by
 unfold Zt at h;simp only[Kw]at h;exact UR h.1
theorem We{l:List TokC}{i:Nat}(h:i<=l.length):i<=(QL l i).at_/\(QL l i).at_<=l.length/\((QL l i).ok=true->i<(QL l i).at_)/\∀x∈(QL l i).reps,x.old≠[]:=by
 unfold QL;split
 ·exact⟨KJ _,h,(fun q=>by cases q),(fun x hx=>by cases hx)⟩
 ·rename_i h1
  have hl:=UR (show XJ l i [1,3]=true by simpa using h1);have key:∀p:Pairs,i+1<=p.at_->p.at_<=l.length->(∀x∈p.reps,x.old≠[])->i<=(Yu l (l.getD i noT) p).at_/\(Yu l (l.getD i noT) p).at_<=l.length/\((Yu l (l.getD i noT) p).ok=true->i<(Yu l (l.getD i noT) p).at_)/\∀x∈(Yu l (l.getD i noT) p).reps,x.old≠[]:=by
   intro p p1 p2 p3;unfold Yu;split
   ·exact⟨by simp only[qdj];omega,p2,(fun q=>by cases q),(fun x hx=>by cases hx)⟩
   ·split
    ·exact⟨by simp only[qdj];omega,p2,(fun q=>by cases q),(fun x hx=>by cases hx)⟩
    ·rename_i h3
     have:=UR (show XJ l p.at_ [6]=true by simpa using h3);exact⟨by simp only;omega,by simp only;omega,fun _=>by simp only;omega,p3⟩
  split
  ·rename_i h2
   have hw:=qbF h2;obtain⟨q1,q2,q3⟩:=qnM (l:=l) (l.length+2) (i+2) true [] (by omega) (fun x hx=>by cases hx);exact key _ (by omega) q2 q3
  ·exact key _ (KJ _) (by simp only;omega) (fun x hx=>by cases hx)
end Go.Cop
namespace Go.Cop
open Go.Col (Str FaultC okF)
open Go.Tok
set_option maxRecDepth 100000
theorem qeO{l:List Str}{s x:Str}:x∈addE l s↔x∈l\/x=s:=by
 unfold addE;split
 ·rename_i h
  have h':s∈l:=by simpa using h
  constructor
  ·exact .inl
  ·rintro(q|rfl)
   ·exact q
   ·exact h'
 ·simp
structure StmAt where
 pos:Nat
 stm:Stm
def qfR(l:List TokC):Nat->Nat->List StmAt×FaultC
 |0,_=>([],okF)
 |f+1,i=>
  let c:=Xy l i
  if l.length<=c then([],okF)
  else
   let s:=QL l (c+1)
   if s.ok=false then([],Ut l c s.at_)
   else(⟨c,s⟩::(qfR l f s.at_).1,(qfR l f s.at_).2)
def qme(l:List TokC):List StmAt×FaultC:=qfR l (l.length+1) 0
theorem qgg(l:List TokC)(c a:Nat):Ut l c a≠okF:=by
 unfold Ut;split<;>simp[okF]
theorem qjj(l:List TokC):∀(f i:Nat) (ns:List Str),qas l f i ns=if (qfR l f i).2=okF then((qfR l f i).1.foldl (fun a x=>addE a x.stm.name.text) ns,okF)else([],(qfR l f i).2)
 |0,i,ns=>by simp[qas,qfR]
 |f+1,i,ns=>by
  rw[qas,qfR];simp only;split
  ·simp
  ·split
   ·simp[qgg]
   ·rw[qjj l f]
    simp
theorem mem_fold{xs:List StmAt}{ns:List Str}{s:Str}:s∈xs.foldl (fun a x=>addE a x.stm.name.text) ns↔s∈ns\/∃x∈xs,x.stm.name.text=s:=by
 induction xs generalizing ns with
 |nil=>simp
 |cons x xs ih=>
  rw[List.foldl_cons,ih,qeO];simp only[KW,exists_eq_or_imp];constructor
  ·rintro((q|q)|q)
   ·exact .inl q
   ·exact .inr (.inl q.symm)
   ·exact .inr (.inr q)
  ·rintro(q|q|q)
   ·exact .inl (.inl q)
   ·exact .inl (.inr q.symm)
   ·exact .inr q
theorem qgR{l:List TokC}(h:(ZJ l).2=okF){s:Str}:s∈(ZJ l).1↔∃x∈(qme l).1,x.stm.name.text=s:=by
 unfold ZJ at h|-
 rw[qjj]at h|-
 split at h
 ·rename_i hq
  rw[if_pos hq];simp only;rw[mem_fold];simp[qme]
 ·rename_i hq
  exact absurd h hq
theorem qrs{l:List TokC}:(ZJ l).2=okF↔(qme l).2=okF:=by
 unfold ZJ qme;rw[qjj];split
 ·rename_i h;simp[h]
 ·rfl
section
variable {lim:Bool} {mem:List MemC}
end
end Go.Cop
namespace Go.Cop
open Go.Col (Str FaultC okF)
open Go.Tok
set_option maxRecDepth 100000
section
variable {lim:Bool} {mem:List MemC}
def qem(mem:List MemC)(s:Str):Option MemC:=mem.find? (fun m=>decide (m.name=s))
structure NG(mem:List MemC)(q:List StmAt×FaultC)(st s:Xs):Prop where
 ok:q.2=okF
 up:∀n∈st.names,n∈s.names
 all:∀x∈q.1,x.stm.name.text∈s.names
 from_:∀n∈s.names,n∈st.names\/(∃x∈q.1,x.stm.name.text=n)\/∃m,qem mem m.name=some m/\m.name∈s.names/\∃x∈(qme m.toks).1,x.stm.name.text=n
 deep:∀n∈s.names,n∈st.names\/∃m,qem mem n=some m/\(qme m.toks).2=okF/\∀x∈(qme m.toks).1,x.stm.name.text∈s.names
theorem NG.refl(st:Xs):NG mem ([],okF) st st:=⟨rfl,fun _ h=>h,(fun x hx=>by cases hx),(fun n h=> .inl h),(fun n h=> .inl h)⟩
theorem qsR{op:List Str}{rec:List TokC->List Str->Xs->Xr}{s:Stm}{st st':Xs}{inner:List TokC}(h:qaA lim mem op rec s st= .ok inner st'):
 ∃m l,qem mem s.name.text=some m/\s.name.text∉op/\op.length<8/\rec m.toks (op++[s.name.text]) ⟨addE st.names s.name.text,st.copies+1⟩= .ok l st'/\inner=qcv s.reps l:=by
 unfold qaA at h;split at h
 ·cases h
 ·rename_i m hm
  split at h
  ·cases h
  ·rename_i hc
   split at h
   ·cases h
   ·rename_i h8
    split at h
    ·cases h
    ·rename_i l st2 hr
     split at h
     ·cases h
     ·split at h
      ·cases h
      ·cases h
       exact⟨m,l,hm,fun q=>hc (by simpa using q),by omega,hr,rfl⟩
theorem qjL{op:List Str}{rec:List TokC->List Str->Xs->Xr}{l:List TokC}(hrec:∀toks n st out st',op.length<8->rec toks (op++[n]) st= .ok out st'->NG mem (qme toks) st st'):∀(f i:Nat) (out:List TokC) (st:Xs) (o:List TokC) (s:Xs),qaB lim mem op rec l f i out st= .ok o s->NG mem (qfR l f i) st s
 |0,i,out,st,o,s,h=>by
  rw[qaB]at h;cases h;exact NG.refl _
 |f+1,i,out,st,o,s,h=>by
  rw[qaB]at h;rw[qfR];simp only at h|-
  split at h
  ·rename_i hc
   cases h;rw[if_pos hc];exact NG.refl _
  ·rename_i hc
   rw[if_neg hc];split at h
   ·cases h
   ·rename_i hs
    rw[if_neg hs];split at h
    ·cases h
    ·rename_i inner st' hm
     split at h
     ·cases h
     ·have rest:=qjL hrec f _ _ _ _ _ h
      obtain⟨m,l',h1,_,h8,h2,_⟩:=qsR hm;have mid:=hrec _ _ _ _ _ h8 h2;obtain⟨S,hS⟩:∃S,S=QL l (Xy l i+1):=⟨_,rfl⟩
      rw[<-hS]at h1 h2 mid rest|-
      have hname:m.name=S.name.text:=by simpa using BZ h1
      have hin:S.name.text∈s.names:=rest.up _ (mid.up _ (qeO.2 (.inr rfl)));have hm':qem mem m.name=some m:=by rw[hname];exact h1
      refine⟨rest.ok,fun n hn=>rest.up _ (mid.up _ (qeO.2 (.inl hn))),fun x hx=>?_,fun n hn=>?_,fun n hn=>?_⟩
      ·rcases KW.1 hx with rfl|hx
       ·exact hin
       ·exact rest.all x hx
      ·rcases rest.from_ n hn with q|⟨x,hx,rfl⟩|⟨m2,q1,q2,q3⟩
       ·rcases mid.from_ n q with q|⟨x,hx,rfl⟩|⟨m2,q1,q2,q3⟩
        ·rcases qeO.1 q with q|rfl
         ·exact .inl q
         ·exact .inr (.inl ⟨_,Je,rfl⟩)
        ·exact .inr (.inr ⟨m,hm',by rw[hname];exact hin,x,hx,rfl⟩)
        ·exact .inr (.inr ⟨m2,q1,rest.up _ q2,q3⟩)
       ·exact .inr (.inl ⟨x,Jf _ hx,rfl⟩)
       ·exact .inr (.inr ⟨m2,q1,q2,q3⟩)
      ·rcases rest.deep n hn with q|⟨m2,q1,q2,q3⟩
       ·rcases mid.deep n q with q|⟨m2,q1,q2,q3⟩
        ·rcases qeO.1 q with q|rfl
         ·exact .inl q
         ·exact .inr ⟨m,h1,mid.ok,fun x hx=>rest.up _ (mid.all x hx)⟩
        ·exact .inr ⟨m2,q1,q2,fun x hx=>rest.up _ (q3 x hx)⟩
       ·exact .inr ⟨m2,q1,q2,q3⟩
theorem qjK:∀(d:Nat) (toks:List TokC) (op:List Str) (st:Xs) (out:List TokC) (s:Xs),8<=d+op.length->qiu lim mem d toks op st= .ok out s->NG mem (qme toks) st s
 |0,toks,op,st,out,s,hd,h=>by
  rw[qiu]at h;exact qjL (fun toks n st out st' h8 _=>by omega) _ _ _ _ _ _ h
 |d+1,toks,op,st,out,s,hd,h=>by
  rw[qiu]at h;exact qjL (fun toks n st out st' h8 hq=>qjK d toks _ _ _ _ (by simp;omega) hq) _ _ _ _ _ _ h
end
end Go.Cop
namespace Go.Cop
open Go.Col (Str FaultC okF)
open Go.Tok
set_option maxRecDepth 100000
def isCopy(t:TokC):Bool:=decide (t.kind=1) && decide (t.text=COPY)
section
variable {lim:Bool} {mem:List MemC}
end
end Go.Cop
namespace Go.Cop
open Go.Col (Str FaultC okF)
open Go.Tok
set_option maxRecDepth 100000
theorem qdO(l:List TokC):∀(f g i:Nat) (first:Bool) (acc:List RepC),i<=l.length->l.length+1<=f+i->l.length+1<=g+i->YD l f i first acc=YD l g i first acc
 |0,g,i,first,acc,h,hf,hg=>by omega
 |f+1,0,i,first,acc,h,hf,hg=>by omega
 |f+1,g+1,i,first,acc,h,hf,hg=>by
  rw[YD,YD];split
  ·obtain⟨p1,p2,p3⟩:=qiY h
   simp only;split
   ·rfl
   ·rename_i hok
    obtain⟨p4,_⟩:=p3 (by simpa using hok);exact qdO l f g _ _ _ p2 (by omega) (by omega)
  ·rfl
section
variable {c b:List TokC}
end
end Go.Cop
namespace Go.Cop
open Go.Col (Str FaultC okF)
open Go.Tok
set_option maxRecDepth 100000
def wd(s:Str):TokC:=⟨1,s,0,0,false⟩
def qnK:TokC:=⟨6,[46],0,0,false⟩
def psC:TokC:=⟨7,[61,61],0,0,false⟩
def numC:TokC:=⟨2,[53],0,0,false⟩
def quoC(s:Str):TokC:=⟨3,s,0,0,false⟩
def plainC:List TokC:=[wd [65],wd [66],wd [67],wd BY,numC,quoC [65],qnK,⟨5,[40],0,0,false⟩]
def pairsC:List (List TokC):=[
 [wd [65],wd BY,wd [66]],
 [wd [66],wd BY,wd [65],wd [65],wd BY,wd [67]],
 [psC,wd [65],wd [66],psC,wd BY,psC,psC],
 [psC,wd [65],psC,wd BY,psC,wd [65],wd [65],psC],
 [numC,wd BY,psC,wd COPY,wd [77,49],qnK,psC],
 [psC,qnK,psC,wd BY,quoC [88],psC,wd [67],psC,wd BY,wd [67]]]
def qrJ(n:Nat):Str:=if n=255 then[77,57]else[77,KC (48+n%8)]
def qcS(n:Nat):List TokC:=
 if n<160 then[plainC.getD (n%8) noT]
 else wd COPY::wd (qrJ n)::((if 200<=n then wd ZN::pairsC.getD (n%6) []else[])++(if n=254 then[]else[qnK]))
def qcM(ns:List Nat):List TokC:=ns.flatMap qcS
theorem qss(n:Nat)(ns:List Nat):qcM (n::ns)=qcS n++qcM ns:=List.flatMap_cons
theorem rawC_app(a b:List Nat):qcM (a++b)=qcM a++qcM b:=List.flatMap_append
def clsT(t:TokC):Bool:=(decide (t.kind=1) && [[65],[66],[67],BY].contains t.text)||(decide (t.kind=2) && decide (t.text=[53]))||(decide (t.kind=3) && decide (t.text=[65]))
def W:Nat->TokC->Nat
 |0,_=>1
 |j+1,t=>if clsT t=true then 3*2^j else 1
end Go.Cop
namespace Go.Cop
open Go.Col (Str FaultC okF)
open Go.Tok
set_option maxRecDepth 100000
end Go.Cop
namespace Go.Cop
open Go.Col (Str FaultC okF)
open Go.Tok
set_option maxRecDepth 100000
def strip(t:TokC):TokC:=⟨t.kind,t.text,0,0,false⟩
section
variable (l:List TokC)
end
def X:Nat->Nat
 |0=>6144
 |1=>768
 |2=>96
 |_=>12
def Y:Nat->Nat
 |0=>73
 |1=>9
 |2=>1
 |_=>0
structure Lib(mem:List MemC):Prop where
 few:∀op:List Str,op.Nodup->(∀x∈op,qem mem x≠none)->op.length<=3
 raw:∀n m,qem mem n=some m->∃ns,m.toks.map strip=qcM ns/\ns.length<=8/\∀n∈ns,n<256
section
variable {mem:List MemC} (hL:Lib mem)
include hL
end
end Go.Cop
namespace Go.Cop
open Go.Col (Str FaultC okF)
open Go.Tok
set_option maxRecDepth 100000
def atT(i:Nat)(t:TokC):TokC:=⟨t.kind,t.text,1+(i / 8:Nat),8+(i%8:Nat),false⟩
def qaN(l:List TokC):List TokC:=l.mapIdx atT
def qdT(x:List UInt8):List Nat:=(x.take 60).map Ea
def lOf(x:List UInt8):List TokC:=qaN (qcM (qdT x))
theorem qmt(x:List UInt8):∀n∈qdT x,n<256:=by
 intro n hn;obtain⟨b,_,rfl⟩:=JG.1 hn;exact b.toNat_lt
theorem nats_len(x:List UInt8):(qdT x).length<=x.length/\(qdT x).length<=60:=by
 unfold qdT;rw[Jo,K4];omega
theorem qnH(l:List TokC):(qaN l).map strip=l.map strip:=by
 unfold qaN;apply List.ext_getElem?;intro i;rw[Eb,Ec,Eb];cases l[i]?<;>rfl
theorem qor:∀k:Fin 256,(qcS k.val).map strip=qcS k.val/\(qcS k.val).length<=14:=by decide+kernel
theorem qdd:∀{ns:List Nat},(∀n∈ns,n<256)->(qcM ns).map strip=qcM ns/\(qcM ns).length<=14*ns.length
 |[],_=>⟨rfl,KJ _⟩
 |n::ns,h=>by
  obtain⟨h1,h2⟩:=qdd (ns:=ns) fun x hx=>h x (Jf _ hx);obtain⟨g1,g2⟩:=qor ⟨n,h n Je⟩;rw[qss,Ba,h1,Jb,KX];simp only at g1 g2;rw[g1];exact⟨rfl,by omega⟩
theorem qsW(x:List UInt8):(lOf x).map strip=qcM (qdT x):=by
 unfold lOf;rw[qnH,(qdd (qmt x)).1]
theorem qmy(x:List UInt8):(lOf x).length<=14*x.length/\(lOf x).length<=840:=by
 have h:=congrArg BP (qsW x);rw[Jo]at h;have h1:=(qdd (qmt x)).2;obtain⟨h2,h3⟩:=nats_len x;omega
def WJ(i:Nat):Str:=[77,KC (48+i)]
def qiN(m:List (List UInt8)):List MemC:=(m.take 8).mapIdx fun i x=>⟨WJ i,lOf x⟩
theorem qsJ{a b:Nat}(ha:a<256)(hb:b<256)(h:KC a=KC b):a=b:=by
 have:=congrArg Ea h;rw[Ed,Ed]at this;omega
theorem qsP{i j:Nat}(hi:i<200)(hj:j<200)(h:WJ i=WJ j):i=j:=by
 unfold WJ at h;have:=(List.cons.inj (List.cons.inj h).2).1;have:=qsJ (by omega) (by omega) this;omega
def qfP(i:Nat)(l:List TokC):List TokC:=l.mapIdx fun k t=>if 1<=k/\(l.getD (k-1) noT).text=COPY/\t.kind=1/\t.text.length=2/\(t.text.getD 1 0-48).toNat<=i then⟨t.kind,WJ (i+1),t.line,t.col,t.left⟩else t
def qcw(m:List (List UInt8)):List MemC:=(m.take 8).mapIdx fun i x=>⟨WJ i,qfP i (lOf x)⟩
theorem qsh(i:Nat)(l:List TokC)(k:Nat):(qfP i l).getD k noT=if k<l.length/\1<=k/\(l.getD (k-1) noT).text=COPY/\(l.getD k noT).kind=1/\(l.getD k noT).text.length=2/\((l.getD k noT).text.getD 1 0-48).toNat<=i then⟨(l.getD k noT).kind,WJ (i+1),(l.getD k noT).line,(l.getD k noT).col,(l.getD k noT).left⟩else l.getD k noT:=by
 by_cases hk:k<l.length
 ·have e:(qfP i l).getD k noT=(if 1<=k/\(l.getD (k-1) noT).text=COPY/\(l.getD k noT).kind=1/\(l.getD k noT).text.length=2/\((l.getD k noT).text.getD 1 0-48).toNat<=i then⟨(l.getD k noT).kind,WJ (i+1),(l.getD k noT).line,(l.getD k noT).col,(l.getD k noT).left⟩else l.getD k noT):=by
   have e1:l.getD k noT=l[k]:=by simp[Kn,hk]
   rw[e1];unfold qfP;rw[Kn,Ec,Jz hk];rfl
  rw[e];by_cases q:1<=k/\(l.getD (k-1) noT).text=COPY/\(l.getD k noT).kind=1/\(l.getD k noT).text.length=2/\((l.getD k noT).text.getD 1 0-48).toNat<=i
  ·rw[if_pos q,if_pos ⟨hk,q⟩]
  ·rw[if_neg q,if_neg (fun z=>q z.2)]
 ·rw[if_neg (fun z=>hk z.1)]
  unfold qfP;rw[Kn,Kn,Ec,Kq (by omega)];rfl
theorem qei(i:Nat)(l:List TokC):(qfP i l).length=l.length:=by simp[qfP]
end Go.Cop
namespace Go.Cop
open Go.Col (Str FaultC okF sp)
open Go.Tok
set_option maxRecDepth 100000
section
variable {c n p:TokC} (hc:isCopy c=true) (hst:QL [c,n,p] 1=⟨true,n,[],3⟩)
include hc hst
end
end Go.Cop
namespace Go.Cop
open Go.Col (Str FaultC okF sp)
open Go.Tok
set_option maxRecDepth 100000
def qbS(s:Str):List TokC:=(qfr (sp 11++s) false).1
def qdr:List MemC:=[⟨[65],qbS [48,53,32,88,32,80,73,67,32,57,40,51,41,46]⟩,⟨[66],qbS [48,49,32,82,46,32,67,79,80,89,32,65,32,82,69,80,76,65,67,73,78,71,32,88,32,66,89,32,89,46]⟩]
end Go.Cop
namespace Go.Cop
open Go.Col Go.Tok
theorem uses_law{lim:Bool}{l:List TokC}{mem:List MemC}{out:List TokC}{s:Xs}(h:qac lim l mem= .ok out s):(ZJ l).2=okF/\(∀n∈(ZJ l).1,n∈s.names)
 /\(∀n∈s.names,n∈(ZJ l).1\/∃m,qem mem m.name=some m/\m.name∈s.names/\n∈(ZJ m.toks).1)
 /\∀n∈s.names,∃m,qem mem n=some m/\(ZJ m.toks).2=okF/\∀x∈(ZJ m.toks).1,x∈s.names:=by
 have g:=qjK 8 l [] ⟨[],0⟩ out s (by simp) h;have h0:(ZJ l).2=okF:=qrs.2 g.ok;have hd:∀n∈s.names,∃m,qem mem n=some m/\(ZJ m.toks).2=okF/\∀x∈(ZJ m.toks).1,x∈s.names:=by
  intro n hn;rcases g.deep n hn with q|⟨m,h1,h2,h3⟩
  ·cases q
  ·have hm:(ZJ m.toks).2=okF:=qrs.2 h2
   refine⟨m,h1,hm,fun x hx=>?_⟩;obtain⟨y,hy,rfl⟩:=(qgR hm).1 hx;exact h3 y hy
 refine⟨h0,fun n hn=>?_,fun n hn=>?_,hd⟩
 ·obtain⟨x,hx,rfl⟩:=(qgR h0).1 hn
  exact g.all x hx
 ·rcases g.from_ n hn with q|⟨x,hx,e⟩|⟨m,h1,h2,x,hx,e⟩
  ·cases q
  ·exact .inl ((qgR h0).2 ⟨x,hx,e⟩)
  ·obtain⟨m2,f1,f2,_⟩:=hd _ h2
   rw[h1]at f1;obtain rfl:=Option.some.inj f1;exact .inr ⟨m,h1,h2,(qgR f2).2 ⟨x,hx,e⟩⟩
end Go.Cop
namespace Go.Proofs.YtlhhaagmakhilaaGreatDoor
open Go.AM
open Go.Proofs
open Go.Col
open Go.Tok
open Go.Cop
open Go.RowKit (Below)
set_option maxRecDepth 100000
theorem noT_bad:noT=XZ:=rfl
def qdl(k:UInt8):List AVal:=[.int .u8 k.toNat]
theorem kin_len{wz:World}{h:AHeap}{v:AVal}{ks:List UInt8}(hv:IsL wz h 1 v (ks.map qdl)):∀H:AHeap,Yr Tryz.prog H 159 v=⟨True, .int .i64 ks.length⟩:=by
 have:=hv.len Tryz.underlying159
 rwa [Jo]at this
theorem kin_open{wz:World}{h:AHeap}{v:AVal}{ks:List UInt8}(hv:IsL wz h 1 v (ks.map qdl))(hn:0<ks.length):∃lc o c,v= .slice lc o ks.length c:=by
 obtain⟨lc,o,c,e⟩:=hv.open (fun e=>by rw[VU]at e;subst e;simp at hn);rw[Jo]at e;exact⟨lc,o,c,e⟩
theorem kin_at{wz:World}{h:AHeap}{ks:List UInt8}{lc:AM.Loc}{o:Nat}{c:Cap}(hv:IsL wz h 1 (.slice lc o ks.length c) (ks.map qdl)){i:Nat}(hi:i<ks.length):rd wz h lc (o+i*1)= .int .u8 (ks.getD i 0).toNat:=by
 have he:=hv.at0 (i:=i) (by rw[Jo];exact hi) (by decide);rw[getD_map (ys:=ks) 0 hi]at he;exact he
theorem c_indexK(wz:World)(h:AHeap)(v:AVal)(ks:List UInt8)(x:UInt8)(hv:IsL wz h 1 v (ks.map qdl))(hl:ks.length<=1000):
 ACall Tryz.prog wz 114 [v, .int .u8 x.toNat] h (fun r h'=>(∃n:Int,r= .int .i64 n/\decide (0<=n)=ks.contains x)/\h'=h):=by
 have hlv:=hv.live;have nv:=kin_len hv;refine qW (n:=19) (rs:=[.tmp 4]) Tryz.func114 rfl rfl rfl rfl (VL rfl) ?_;simp only[Qe];refine awp_rseq [0,1] (by rfl) fun K hK=>?_;simp+decide only[qa,ev,qI,qG,putD,VM,VN,Ka,true_and,↓qd,qb,Jr];apply hK;clear hK K;refine qJ ?_;refine awp_rseq [0,1,7,8] (by rfl) fun K hK=>?_;simp+decide only[qa,ev,qI,qG,putD,VM,VO,VN,Ka,true_and,↓qg,qc,↓Xc,Qv,nv];apply hK;clear hK K;refine Qj ?_;refine Xj [0,1,7,8] (fun i:Nat=>[(0,v),(1, .int .u8 x.toNat),(7, .int .i64 ks.length),(8, .int .i64 i)]) (fun i:Nat=>h) (fun i:Nat=>i<=ks.length/\(ks.take i).contains x=false) (fun i:Nat=>ks.length-i) 0 (by rfl) (Vl _) ⟨Js _,by simp⟩ ?_;rintro i ⟨hi,hq⟩;refine awp_rseq [0,1,7,8,9] (by rfl) fun K hK=>?_;simp+decide only[qa,ev,putD,VM,VO,VN,Ka,true_and,↓qw,ql,qP,cond_false,qo,XD];apply hK;clear hK K;refine qJ (qH (b:=_) rfl (fun hb1=>?_) (fun hb1=>?_))
 ·try simp only[decide_eq_true_eq]at hb1
  have hi':i<ks.length:=by omega
  obtain⟨lc,o,c,rfl⟩:=kin_open hv (by omega);have e0:=kin_at hv hi';rw[BI]at e0;refine qN ?_;change Awp _ _ _ _ _ _ _;refine qJ ?_;refine Qj ?_;refine awp_rseq [0,1,5,7,8] (by rfl) fun K hK=>?_;simp+decide only[qa,ev,putD,VM,VO,VN,Ka,true_and,↓qg,qc,↓qd,qb];apply hK;clear hK K;refine awp_rseq [0,1,5,7,8,16] (by rfl) fun K hK=>?_;simp+decide only[qa,ev,putD,VM,VO,VN,Ka,true_and,↓qg,qc,↓Qp,qY,qU Tryz.underlying159 sz52,↓qF,qz qie,↓qw,ql,qP,cond_false,qo,XT,qi,e0,Vq,BI];repeat (with_reducible refine And.intro ?_ ?_;· first|trivial|omega|(intro hg;simp only[Kw,JV,Ji,VP,VQ,VS,decide_eq_true_eq,decide_eq_false_iff_not,XK]at hg;omega))
  apply hK;clear hK K;refine qH (b:=_) rfl (fun hb2=>?_) (fun hb2=>?_)
  ·try simp only[decide_eq_true_eq]at hb2
   refine awp_rseq [4] (by rfl) fun K hK=>?_;simp+decide only[qa,ev,putD,VM,VO,VN,Ka,true_and,↓qg,qc,↓qd,qb];apply hK;clear hK K;refine qL ?_;try simp only[Qg,Qn]
   refine Qb h zqC (qR (Qc)) ?_;simp+decide only[VO,if_true,and_true,Qs];refine⟨i,rfl,?_⟩;have hx:x=ks.getD i 0:=BL.1 (by omega);have hm:ks.contains x=true:=by
    rw[JW,hx,Kn,Jz hi'];exact VH hi'
   rw[hm,decide_eq_true_eq];omega
  ·try simp only[decide_eq_false_iff_not]at hb2
   refine qN ?_;change Awp _ _ _ _ _ _ _;refine XE [0,1,7,8] (by rfl) ?_;simp+decide only[qa,ev,qI,qG,putD,VM,VO,VN,Ka,true_and,↓qw,ql,qy,cond_false,qo,QS,↓qg,qc];try simp(disch:=omega)only[wrap_i64]
   try simp only[Qf]
   refine⟨i+1,rfl,Vl _,⟨hi',?_⟩,by omega⟩;rw[List.take_add_one,Jz hi'];have hx:ks[i]≠x:=fun e=>hb2 (by rw[Kn,Jz hi',<-e];rfl);simp only[Option.toList_some,List.contains_eq_mem,JI,BD,decide_eq_false_iff_not,not_or]at hq|-
   exact⟨hq,fun e=>hx e.symm⟩
 ·try simp only[decide_eq_false_iff_not]at hb1
  refine Xm ?_;change Awp _ _ _ _ _ _ _;refine awp_rseq [4] (by rfl) fun K hK=>?_;simp+decide only[qa,ev,qI,qG,putD,VM,VN,Ka,true_and,↓qd,qb];apply hK;clear hK K;refine qL ?_;refine Qb h zqC (qR (Qc)) ?_;simp+decide only[VO,if_true,and_true,Qs];refine⟨-1,rfl,?_⟩;rw[Jq (by omega)]at hq;rw[hq];rfl
theorem qoC(wz:World)(h:AHeap)(v:AVal)(ks:List UInt8)(x:UInt8)(hv:IsL wz h 1 v (ks.map qdl))(hl:ks.length<=1000):
 ACall Tryz.prog wz 84 [v, .int .u8 x.toNat] h (fun r h'=>r= .bool (ks.contains x)/\h'=h):=by
 have hlv:=hv.live;refine qW (n:=9) (rs:=[.tmp 4]) Tryz.func84 rfl rfl rfl rfl (VL rfl) ?_;simp only[Qe];refine awp_rseq [0,1] (by rfl) fun K hK=>?_;simp+decide only[qa,ev,qI,qG,putD,VM,VN,Ka,true_and,↓qd,qb,Jr];apply hK;clear hK K;refine awp_rseq [4] (by rfl) fun K hK=>?_;simp+decide only[ev,putD,VM,VO,Ka,true_and,↓qg,qc];refine QR (by rfl) (by rfl) (c_indexK wz _ v ks x hv hl) fun x1q2 h1q2 hx1q2=>?_;obtain⟨⟨n,rfl,hn⟩,he⟩:=hx1q2;subst h1q2;simp+decide only[qa,ev,qI,qG,putD,VM,VO,VN,Ka,true_and,↓qw,ql,qy,cond_false,qo,Ub,↓qd,qb];apply hK;clear hK K;refine qL ?_;refine Qb h zqC (qR (Qc)) ?_;simp+decide only[VO,if_true,and_true,Qs];rw[<-hn]
def parB(v:AVal)(i:Nat):Blk:=⟨[v, .int .i64 i],0⟩
theorem c_isIn(wz:World)(h:AHeap)(kp:Nat)(v:AVal)(l:List TokC)(i:Nat)(kv:AVal)(ks:List UInt8)(hk:h kp=some (parB v i))(hv:IsL wz h 5 v (l.map QM))(hkv:IsL wz h 1 kv (ks.map qdl))(hks:ks.length<=1000)(hi:i<l.length):
 ACall Tryz.prog wz 66 [.ptr (.own kp) 0,kv] h (fun r h'=>r= .bool (XJ l i ks)/\h'=h):=by
 have rx:=fun o=>QC wz hk o;unfold parB at rx;have hlv:=hv.live;have hlk:=hkv.live;have nv:=XY hv;obtain⟨lc,o,c,rfl⟩:=Wd hv (by omega);obtain⟨e0,-,-,-,-⟩:=YL hv hi;have hki:XJ l i ks=ks.contains (l.getD i noT).kind:=by unfold XJ;rw[decide_eq_true hi,Vf]
 rw[hki,noT_bad];refine qW (n:=30) (rs:=[.tmp 4]) Tryz.func66 rfl rfl rfl rfl (VL rfl) ?_;simp only[Qe];refine awp_rseq [0,1] (by rfl) fun K hK=>?_;simp+decide only[qa,ev,qI,qG,putD,VM,VN,Ka,true_and,↓qd,qb,Jr];apply hK;clear hK K;refine Uf [4] mixed (by kernel_rfl) (by rfl) fun K hK=>?_;simp+decide only[ev,putD,VM,VO,Ka,true_and,↓qdB,qc,↓qcy,qV,Qt,↓UM,qm,YR,↓qfl,XM,qz ag3,qak,qz UU,↓qlZ,Qv,Ze Tryz.underlying26,↓qgw,ql,qP,cond_false,qo,XD,↓qma,vgP,qcV,qO,qK,qD,implies_true,↓qer,qbr,qbs,↓qar,Zn,Zo,↓qgz,UY,qrU,qrV,↓qgA,qU Tryz.underlying26 Xb,cv_iaddrl,cv_iaddrr,cp_iaddrl,cp_iaddrr,qbp,qz qie,VX,Km,Jr,qi,rx,hlv,e0,Vq,K6];repeat (with_reducible refine And.intro ?_ ?_;· first|trivial|omega|(intro hg;simp only[Kw,JV,Ji,VP,VQ,VS,decide_eq_true_eq,decide_eq_false_iff_not,XK]at hg;omega))
 refine qdC (V:= .bool (ks.contains (l.getD i XZ).kind)) (f:=_) (cap:=_) (xs:=_) (by first|rfl|(simp+decide only[gv,qO,VO,Ka,Xf,qK])) (fun hg=>⟨rfl,?_⟩) (fun hg=>qoC wz _ kv ks _ hkv hks) ?_
 ·try simp+decide only[gv,qO,VO,Ka,qD]at hg
  simp+decide only[evs,ev,VO,Ka,hg,Qz,Be,Kc,Vj]
 simp+decide only[qbP,ev,qI,qG,putD,VM,VO,VN,Ka,true_and,gv,qO,qD,↓qgu,Qy,Qk,Xk,Xv,↓qcU,qb];apply hK;clear hK K;refine qL ?_;refine Qb h zqC (qR (Qc)) ?_;simp+decide only[VO,if_true,and_true,Qs];rw[decide_eq_true (by omega),Vf]
theorem c_isOut(wz:World)(h:AHeap)(kp:Nat)(v:AVal)(l:List TokC)(i:Nat)(kv:AVal)(ks:List UInt8)(hk:h kp=some (parB v i))(hv:IsL wz h 5 v (l.map QM))(hlk:kv.live=true)(hi:¬i<l.length):
 ACall Tryz.prog wz 66 [.ptr (.own kp) 0,kv] h (fun r h'=>r= .bool (XJ l i ks)/\h'=h):=by
 have rx:=fun o=>QC wz hk o;unfold parB at rx;have hlv:=hv.live;have nv:=XY hv;have hki:XJ l i ks=false:=by unfold XJ;rw[decide_eq_false hi,VZ]
 rw[hki];have hge:¬((i:Int)<l.length):=by omega
 refine qW (n:=30) (rs:=[.tmp 4]) Tryz.func66 rfl rfl rfl rfl (VL rfl) ?_;simp only[Qe];refine awp_rseq [0,1] (by rfl) fun K hK=>?_;simp+decide only[qa,ev,qI,qG,putD,VM,VN,Ka,true_and,↓qd,qb,Jr];apply hK;clear hK K;refine Uf [4] mixed (by kernel_rfl) (by rfl) fun K hK=>?_;simp+decide only[ev,putD,VM,VO,Ka,true_and,↓qdB,qc,↓qcy,qV,Qt,↓UM,qm,YR,↓qfl,XM,qz ag3,qak,qz UU,↓qlZ,Qv,↓qgw,ql,qP,cond_false,qo,XD,↓qma,vgP,qcV,qO,qK,qD,implies_true,decide_false,Zk,false_implies,↓qer,↓qar,↓qgz,UY,↓qgA,VX,Km,Jr,qi,rx,hlv,nv,hge];refine qno (by rfl) ?_;simp+decide only[qbP,ev,qI,qG,putD,VM,VO,VN,Ka,true_and,↓qgu,Qy,Qk,↓qcU,qb];apply hK;clear hK K;refine qL ?_;refine Qb h zqC (qR (Qc)) ?_;simp+decide only[VO,if_true,and_true,Qs];all_goals first|rfl|exact⟨rfl,rfl⟩|(simp+decide only[Ka, *];done)|(trace_state;fail)
theorem qmR(wz:World)(h:AHeap)(kp:Nat)(v:AVal)(l:List TokC)(i:Nat)(kv:AVal)(ks:List UInt8)(hk:h kp=some (parB v i))(hv:IsL wz h 5 v (l.map QM))(hkv:IsL wz h 1 kv (ks.map qdl))(hks:ks.length<=1000):
 ACall Tryz.prog wz 66 [.ptr (.own kp) 0,kv] h (fun r h'=>r= .bool (XJ l i ks)/\h'=h):=by
 by_cases hi:i<l.length
 ·exact c_isIn wz h kp v l i kv ks hk hv hkv hks hi
 ·exact c_isOut wz h kp v l i kv ks hk hv hkv.live hi
end Go.Proofs.YtlhhaagmakhilaaGreatDoor
namespace Go.Proofs.YtlhhaagmakhilaaGreatDoor
open Go.AM
open Go.Proofs
open Go.Col
open Go.Tok
open Go.Cop
open Go.RowKit (Below)
set_option maxRecDepth 100000
theorem qmg{h:AHeap}{k:Nat}{b:Blk}(hk:h k=some b):h.set k b=h:=by
 funext j;by_cases e:j=k
 ·subst e;rw[Vd,hk]
 ·rw[Vb _ _ e]
theorem qbz{wz:World}{H:AHeap}{k:Nat}{ks:List UInt8}(hk:H k=some ⟨byteCells ks,0⟩):IsL wz H 1 (.slice (.own k) 0 ks.length (.exact ks.length)) (ks.map qdl):=by
 have hw:∀x∈ks.map qdl,x.length=1:=fun x hx=>by obtain⟨y,_,rfl⟩:=JG.1 hx;rfl
 have hc:byteCells ks=(ks.map qdl).flatten:=by
  clear hk hw;induction ks with
  |nil=>rfl
  |cons k ks ih=>rw[Kc,List.flatten_cons,<-ih];rfl
 have:=V8 (wz:=wz) (es:=1) (xs:=ks.map qdl) hk hw hc (by rw[Yh];intro x hx;obtain⟨y,_,rfl⟩:=JG.1 hx;rfl) (.exact ks.length) (by simp)
 rwa [Jo]at this
theorem c_wordPIn(wz:World)(h:AHeap)(kp:Nat)(v:AVal)(l:List TokC)(i:Nat)(s:Str)(eb_p:h kp=some ⟨[v, .int .i64 i],0⟩)(hv:IsL wz h 5 v (l.map QM))(hl:l.length<=1099511627776)(hi:i<l.length):
 ACall Tryz.prog wz 51 [.ptr (.own kp) 0, .str s] h (fun r h'=>r= .bool (Zt l i s)/\h'=h.set kp ⟨[v, .int .i64 ((if Zt l i s=true then i+1 else i:Nat):Int)],0⟩):=by
 have hs_h:Sub h h:=Vl h;have hlv:=hv.live;have nv:=XY hv;obtain⟨lc,o,c,rfl⟩:=Wd hv (by omega);have hki:Zt l i s=(XJ l i [1] && decide ((l.getD i XZ).text=s)):=rfl;obtain⟨kb,hkb⟩:∃kb,kb=XJ l i [1]:=⟨_,rfl⟩
 rw[<-hkb]at hki;rw[hki];refine qW (n:=31) (rs:=[.tmp 4]) Tryz.func51 rfl rfl rfl rfl (VL rfl) ?_;simp only[Qe];refine awp_rseq [0,1] (by rfl) fun K hK=>?_;simp+decide only[qa,ev,qI,qG,putD,VM,VN,Ka,true_and,↓qd,qb,Jr];apply hK;clear hK K;refine qJ ?_;refine qef [0,1,2,3,4,5,6,7,8,9,10,11,12,13,14,15,16,17,18] [none,none,some 1,some 2,some 3,some 4,some 5,some 6,some 7,some 4,some 9,some 10,some 11,some 8,some 13,some 14,some 4,some 15,some 4] 19 [0,23] mixed (by kernel_rfl) (by rfl) fun K hK=>?_;simp only[Yl,VI,Ee,Ky,KL];simp+decide only[qa,ev,putD,VM,VO,Ka,true_and,qbJ,qck,Un,↓qg,qc];refine QA (cs:=byteCells [1]) (by kernel_rfl) fun k1q1 hk1q1=>?_;have hn_1q1:h k1q1=none:=by first|assumption|(simp only[V7]at hk1q1;simp only[hk1q1])
 have hf_1q1:h k1q1=none:=Bg hs_h hn_1q1;have ne_1q1_p:k1q1≠kp:=Bh hn_1q1 eb_p;rw[qa];refine And.intro (by first|exact Vl _|assumption|exact Vg (by assumption)) ?_;simp+decide only[putD,VM,if_false];refine qM (V:= .bool kb) (by rfl) (by rfl) (by rw[hkb];exact qmR wz _ kp _ l i _ [1] zqA (hv.mono zqB) (qbz (k:=k1q1) (ks:=[1]) zqA) (by decide)) ?_;rw[qa];refine And.intro (by first|exact Vl _|assumption|exact Vg (by assumption)) ?_;simp+decide only[qa,ev,qI,qG,putD,VM,VO,VN,Ka,true_and,Un,↓Yj,XW,Yc,qc,↓Xe,agP,Qw,qO,qK,Qh,implies_true,Bool.not_not,↓Yi,qV,Qt,qbr,qbs,↓Xl,qm,qak,Zn,Zo,↓Zg,XN,YT,agL_ld5,qz UU,YR,qz ag3,↓Zc,agL_il5,agL_ir5,qU Tryz.underlying26 Xb,Ur,qz ag9,↓Xd,ql,qP,cond_false,Zi,qbb,Zj,qbc,Za,qeH,↓Xa,Qy,Qk,qfT,ZC,QZ,ne_eq,not_false_eq_true,ne_1q1_p.symm,QC wz eb_p,VX,Km,Jr,qi,qE,hlv,Vq,K6,(YL (hv.mono (Vg hn_1q1)) hi).2.1];repeat (with_reducible refine And.intro ?_ ?_;· first|trivial|omega|(intro hg;simp only[Kw,JV,Ji,VP,VQ,VS,decide_eq_true_eq,decide_eq_false_iff_not,XK]at hg;omega))
 apply hK;clear hK K;refine qH (b:=_) rfl (fun hb1=>?_) (fun hb1=>?_)
 ·try simp only[decide_eq_false_iff_not,Ji,JV]at hb1
  refine awp_rseq [4] (by rfl) fun K hK=>?_;simp+decide only[qa,ev,qI,qG,putD,VM,VN,Ka,true_and,↓qd,qb];apply hK;clear hK K;refine qL ?_;try simp only[Qg]
  refine QF (qR (Qc)) ?_;simp+decide only[VO,if_true,Qs];have hf:(kb && decide ((l.getD i XZ).text=s))=false:=by
   rcases hb1 with q|q
   ·rw[q];rfl
   ·rw[decide_eq_false q,BK]
  exact⟨h,Vg hn_1q1,by rw[hf],by rw[hf];exact(qmg eb_p).symm⟩
 ·try simp only[decide_eq_true_eq,VS,VQ]at hb1
  refine qN ?_;change Awp _ _ _ _ _ _ _;refine awp_rseq [] (by rfl) fun K hK=>?_;simp+decide only[ev,qI,qG,putD,VM,VO,Ka,true_and,↓qg,qc,↓Ql,qV,Qt,↓qB,qm,YR,↓qF,qY,qz ag3,↓qw,ql,qy,cond_false,qo,QS,QZ,ne_eq,not_false_eq_true,ne_1q1_p.symm,QC wz eb_p,VX,Km,Jr,qi];try simp(disch:=omega)only[wrap_i64]
  refine qp (by rfl) (by rfl) zqA sz3 (by rfl) (by rfl) zqD (Js _) (by rfl) ?_;simp only[VV];simp+decide only[qa,ev,putD,VO,VN,Ka,setAt,VW,Ki];apply hK;clear hK K;refine awp_rseq [4] (by rfl) fun K hK=>?_;simp+decide only[qa,ev,qI,qG,putD,VM,VN,if_true,true_and,↓qd,qb];apply hK;clear hK K;refine qL ?_;refine QF (qR (Qc)) ?_;simp+decide only[VO,if_true,Qs];have hf:(kb && decide ((l.getD i XZ).text=s))=true:=by
   simp only[Kw,decide_eq_true_eq];simpa using hb1
  exact⟨h.set kp ⟨[.slice lc o l.length c, .int .i64 ((i+1:Nat):Int)],0⟩,V9 (Vg hn_1q1) _ _,by rw[hf],by rw[hf];rfl⟩
theorem qpR(wz:World)(h:AHeap)(kp:Nat)(v:AVal)(l:List TokC)(i:Nat)(s:Str)(eb_p:h kp=some ⟨[v, .int .i64 i],0⟩)(hv:IsL wz h 5 v (l.map QM))(hi:¬i<l.length):
 ACall Tryz.prog wz 51 [.ptr (.own kp) 0, .str s] h (fun r h'=>r= .bool (Zt l i s)/\h'=h.set kp ⟨[v, .int .i64 ((if Zt l i s=true then i+1 else i:Nat):Int)],0⟩):=by
 have hs_h:Sub h h:=Vl h;have hlv:=hv.live;have nv:=XY hv;have hk0:XJ l i [1]=false:=by unfold XJ;rw[decide_eq_false hi,VZ]
 have hki:Zt l i s=false:=by unfold Zt;rw[hk0,VZ]
 rw[hki];refine qW (n:=31) (rs:=[.tmp 4]) Tryz.func51 rfl rfl rfl rfl (VL rfl) ?_;simp only[Qe];refine awp_rseq [0,1] (by rfl) fun K hK=>?_;simp+decide only[qa,ev,qI,qG,putD,VM,VN,Ka,true_and,↓qd,qb,Jr];apply hK;clear hK K;refine qJ ?_;refine qef [0,1,2,3,4,5,6,7,8,9,10,11,12,13,14,15,16,17,18] [none,none,some 1,some 2,some 3,some 4,some 5,some 6,some 7,some 4,some 9,some 10,some 11,some 8,some 13,some 14,some 4,some 15,some 4] 19 [0,23] mixed (by kernel_rfl) (by rfl) fun K hK=>?_;simp only[Yl,VI,Ee,Ky,KL];simp+decide only[qa,ev,putD,VM,VO,Ka,true_and,qbJ,qck,Un,↓qg,qc];refine QA (cs:=byteCells [1]) (by kernel_rfl) fun k1q1 hk1q1=>?_;have hn_1q1:h k1q1=none:=by first|assumption|(simp only[V7]at hk1q1;simp only[hk1q1])
 have hf_1q1:h k1q1=none:=Bg hs_h hn_1q1;have ne_1q1_p:k1q1≠kp:=Bh hn_1q1 eb_p;rw[qa];refine And.intro (by first|exact Vl _|assumption|exact Vg (by assumption)) ?_;simp+decide only[putD,VM,if_false];refine qM (V:= .bool false) (by rfl) (by rfl) (by rw[<-hk0];exact qmR wz _ kp _ l i _ [1] zqA (hv.mono zqB) (qbz (k:=k1q1) (ks:=[1]) zqA) (by decide)) ?_;rw[qa];refine And.intro (by first|exact Vl _|assumption|exact Vg (by assumption)) ?_;simp+decide only[qa,ev,qI,qG,putD,VM,VO,VN,Ka,true_and,Un,↓Yj,XW,Yc,qc,↓Xe,agP,Qw,qO,qK,Qh,implies_true,Ef,VY,Zk,false_implies,qaf,qdz,↓Yi,qV,↓Xl,qm,↓Zg,XN,↓Zc,↓Xd,ql,qP,cond_false,↓Xa,Qy,Qk];apply hK;clear hK K;refine qH (b:=_) rfl (fun hb1=>?_) (fun hb1=>?_)
 ·try simp only at hb1
  refine awp_rseq [4] (by rfl) fun K hK=>?_;simp+decide only[qa,ev,qI,qG,putD,VM,VN,Ka,true_and,↓qd,qb];apply hK;clear hK K;refine qL ?_;try simp only[Qg]
  refine Qb h zqC (qR (Qc)) ?_;simp+decide only[VO,Ka,true_and,Qs];exact(qmg eb_p).symm
 ·exact absurd hb1 (by decide)
theorem c_wordP(wz:World)(h:AHeap)(kp:Nat)(v:AVal)(l:List TokC)(i:Nat)(s:Str)(eb_p:h kp=some ⟨[v, .int .i64 i],0⟩)(hv:IsL wz h 5 v (l.map QM))(hl:l.length<=1099511627776):
 ACall Tryz.prog wz 51 [.ptr (.own kp) 0, .str s] h (fun r h'=>r= .bool (Zt l i s)/\h'=h.set kp ⟨[v, .int .i64 ((if Zt l i s=true then i+1 else i:Nat):Int)],0⟩):=by
 by_cases hi:i<l.length
 ·exact c_wordPIn wz h kp v l i s eb_p hv hl hi
 ·exact qpR wz h kp v l i s eb_p hv hi
end Go.Proofs.YtlhhaagmakhilaaGreatDoor
namespace Go.Proofs.YtlhhaagmakhilaaGreatDoor
open Go.AM
open Go.Proofs
open Go.Col
open Go.Tok
open Go.Cop
open Go.RowKit (Below)
set_option maxRecDepth 100000
def qdh(v:AVal)(o:Opd):AVal:=if o.ok=true then qjn 5 v o.lo o.hi else .nilSlice
theorem qcB{l:List TokC}{i:Nat}(hi:i<l.length):(XL l i=if (l.getD i noT).kind=7 then i else XL l (i+1)):=by
 unfold XL;rw[qhT noT hi,BX];split
 ·rename_i h
  rw[if_neg (by simpa using h),KX];omega
 ·rename_i h
  rw[if_pos (by simpa using h)];rfl
theorem qjA{l:List TokC}{i:Nat}(hi:l.length<=i):XL l i=i:=by
 unfold XL;rw[Vt hi];rfl
theorem qgd{l:List TokC}{i:Nat}(hi:i<l.length):XJ l i [7]=decide ((l.getD i noT).kind=7):=by
 unfold XJ;rw[decide_eq_true hi,Vf];simp
set_option maxHeartbeats 1000000 in
theorem qpZ(wz:World)(B:AHeap)(kp:Nat)(v:AVal)(l:List TokC)(i:Nat)(e:Bool)(hb:B kp=none)(hv:IsL wz B 5 v (l.map QM))(hl:l.length<=1099511627776)(hi:i<=l.length):
 ACall Tryz.prog wz 85 [.ptr (.own kp) 0, .bool e] (B.set kp ⟨[v, .int .i64 i],0⟩) (fun r h'=>r= .tuple [qdh v (Qm l i e), .bool (Qm l i e).ok]/\h'=B.set kp ⟨[v, .int .i64 (Qm l i e).at_],0⟩):=by
 have hlv:=hv.live;have nv:=XY hv;obtain⟨H0,hH0⟩:∃H0,H0=B.set kp ⟨[v, .int .i64 i],0⟩:=⟨_,rfl⟩
 have hs_H0:Sub B H0:=by rw[hH0];exact Vg hb
 have eb_p:H0 kp=some ⟨[v, .int .i64 i],0⟩:=by rw[hH0];exact Vd _ _ _
 rw[<-hH0];obtain⟨k1,hk1⟩:∃k,k=XJ l i [1,2,3]:=⟨_,rfl⟩
 obtain⟨k2,hk2⟩:∃k,k=XJ l i [7]:=⟨_,rfl⟩
 obtain⟨O,ho⟩:∃O,O=Qm l i e:=⟨_,rfl⟩
 rw[<-ho];unfold Qm at ho;rw[<-hk1,<-hk2]at ho;refine qW (n:=107) (rs:=[.tmp 4, .tmp 5]) Tryz.func85 rfl rfl rfl rfl (VL rfl) ?_;simp only[Qe];refine awp_rseq [0,1] (by rfl) fun K hK=>?_;simp+decide only[qa,ev,qI,qG,putD,VM,VN,Ka,true_and,↓qd,qb,Jr];apply hK;clear hK K;refine awp_rseq [0,1,6] (by rfl) fun K hK=>?_;simp+decide only[qa,ev,putD,VM,VO,VN,Ka,true_and,↓qg,qc,↓Ql,qV,Qt,↓qB,qm,YR,↓qF,qY,qz ag3,↓qd,qb,QC wz eb_p,VX,Km,Jr,qi];apply hK;clear hK K;refine qJ ?_;refine awp_rseq [0,1,6,13] (by rfl) fun K hK=>?_;simp+decide only[ev,putD,VM,VO,Ka,true_and,↓qg,qc];refine QA (cs:=byteCells [1,2,3]) (by kernel_rfl) fun k2q1 hk2q1=>?_;have hn_2q1:H0 k2q1=none:=by first|assumption|(simp only[V7]at hk2q1;simp only[hk2q1])
 have hf_2q1:B k2q1=none:=Bg hs_H0 hn_2q1;have ne_2q1_p:k2q1≠kp:=Bh hn_2q1 eb_p;refine qM (V:= .bool k1) (by rfl) (by rfl) (by rw[hk1];exact qmR wz _ kp _ l i _ [1,2,3] zqA (hv.mono zqB) (qbz (k:=k2q1) (ks:=[1,2,3]) zqA) (by decide)) ?_;simp+decide only[qa,putD,VM,VN,Ka];apply hK;clear hK K;refine qH (b:=_) rfl (fun hb1=>?_) (fun hb1=>?_)
 ·skip
  have hlt:i<l.length:=UR (hk1.symm.trans hb1);have hsl:=hv.slice Tryz.underlying26 Xb (some (.int .i64 i)) (some (.int .i64 ((i:Int)+1))) (l:=i) (r:=(i:Int)+1) rfl rfl (by omega) (by omega) (by rw[Jo];omega);refine awp_rseq [0,6] (by rfl) fun K hK=>?_;simp+decide only[ev,qI,qG,putD,VM,VO,Ka,true_and,↓qg,qc,↓Ql,qV,Qt,↓qB,qm,YR,↓qF,qY,qz ag3,↓qw,ql,qy,cond_false,qo,QS,QZ,ne_eq,not_false_eq_true,ne_2q1_p.symm,QC wz eb_p,VX,Km,Jr,qi];try simp(disch:=omega)only[wrap_i64]
  refine qp (by rfl) (by rfl) zqA sz3 (by rfl) (by rfl) zqD (Js _) (by rfl) ?_;simp only[VV];simp+decide only[qa,ev,putD,VO,VN,Ka,setAt,VW,Ki];apply hK;clear hK K;refine Zw [4,5] mixed (by kernel_rfl) (by rfl) (by rfl) fun K hK=>?_;simp+decide only[qa,ev,qI,qG,putD,VM,VO,VN,Ka,true_and,↓qg,qc,↓Ql,qV,Qt,↓qB,qm,qak,↓qF,qY,qz UU,YR,qz ag3,↓Wp,ZA,evO,↓qd,qb,QN,VX,Km,Jr,qi,hlv,hsl];apply hK;clear hK K;refine qL ?_;try simp only[Qg]
  refine QF (qR (qR (Qc))) ?_;simp+decide only[VO,Ka,WH];rw[if_pos hb1]at ho;refine⟨B.set kp ⟨[v, .int .i64 ((i:Int)+1)],0⟩,?_,?_,?_⟩
  ·exact V9 zqB _ _
  ·rw[ho];rfl
  ·rw[ho];rfl
 ·skip
  refine qN ?_;change Awp _ _ _ _ _ _ _;refine qJ ?_;refine awp_rseq [0,1,6,34] (by rfl) fun K hK=>?_;simp+decide only[ev,putD,VM,VO,Ka,true_and,↓qg,qc];refine QA (cs:=byteCells [7]) (by kernel_rfl) fun k5q1 hk5q1=>?_;have ne_5q1_2q1:k5q1≠k2q1:=by simp only[V7]at hk5q1;simp only[hk5q1,ne_eq,not_false_eq_true]
  have hn_5q1:H0 k5q1=none:=by first|assumption|(simp only[V7]at hk5q1;simp only[hk5q1])
  have hf_5q1:B k5q1=none:=Bg hs_H0 hn_5q1;have ne_5q1_p:k5q1≠kp:=Bh hn_5q1 eb_p;refine qM (V:= .bool k2) (by rfl) (by rfl) (by rw[hk2];exact qmR wz _ kp _ l i _ [7] zqA (hv.mono zqB) (qbz (k:=k5q1) (ks:=[7]) zqA) (by decide)) ?_;simp+decide only[qa,ev,putD,VM,VO,VN,Ka,true_and,↓Yj,XW,Yc];apply hK;clear hK K;refine qH (b:=_) rfl (fun hb2=>?_) (fun hb2=>?_)
  ·try simp only[Ji]at hb2
   refine awp_rseq [4,5] (by rfl) fun K hK=>?_;simp+decide only[qa,ev,qI,qG,putD,VM,VN,Ka,true_and,↓qd,qb];apply hK;clear hK K;refine qL ?_;try simp only[Qg]
   refine QF (qR (qR (Qc))) ?_;simp+decide only[VO,Ka,WH];rw[if_neg (by rw[hb1];decide),if_pos (by simpa using hb2)]at ho;refine⟨H0,zqB,?_,?_⟩
   ·rw[ho];rfl
   ·rw[ho];exact hH0
  ·try simp only[VS]at hb2
   have hlt:i<l.length:=UR (ks:=[7]) (by rw[<-hk2];simpa using hb2);rw[if_neg (by rw[hb1];decide),if_neg (by simpa using hb2)]at ho;refine qN ?_;change Awp _ _ _ _ _ _ _;refine awp_rseq [0,1,6] (by rfl) fun K hK=>?_;simp+decide only[ev,qI,qG,putD,VM,VO,Ka,true_and,↓qg,qc,↓Ql,qV,Qt,↓qB,qm,YR,↓qF,qY,qz ag3,↓qw,ql,qy,cond_false,qo,QS,QZ,ne_eq,not_false_eq_true,ne_2q1_p.symm,ne_5q1_p.symm,QC wz eb_p,VX,Km,Jr,qi];try simp(disch:=omega)only[wrap_i64]
   refine qp (by rfl) (by rfl) zqA sz3 (by rfl) (by rfl) zqD (Js _) (by rfl) ?_;simp only[VV];simp+decide only[qa,ev,putD,VO,VN,Ka,setAt,VW,Ki];apply hK;clear hK K;refine qJ ?_;refine Qj ?_;refine Xj [0,1,6] (fun j:Nat=>[(0, .ptr (.own kp) 0),(1, .bool e),(6, .int .i64 i)]) (fun j:Nat=>B.set kp ⟨[v, .int .i64 j],0⟩) (fun j:Nat=>i+1<=j/\j<=l.length/\XL l j=XL l (i+1)) (fun j:Nat=>l.length-j) (i+1) (by rfl) (V9 zqB _ _) ⟨KJ _,hlt,rfl⟩ ?_;rintro j ⟨hj1,hj2,hj3⟩;obtain⟨H1,hH1⟩:∃H1,H1=B.set kp ⟨[v, .int .i64 j],0⟩:=⟨_,rfl⟩
   have hs_H1:Sub B H1:=by rw[hH1];exact Vg hb
   have eb_p:H1 kp=some ⟨[v, .int .i64 j],0⟩:=by rw[hH1];exact Vd _ _ _
   rw[<-hH1];refine qJ ?_;refine qef [0,1,2,3,4,5,6,7,8,9,10,11,12,13,14,15] [none,none,none,none,none,none,none,none,none,none,none,none,none,some 12,some 13,some 14] 16 [0,1,6,57] mixed (by kernel_rfl) (by rfl) fun K hK=>?_;simp only[Yl,VI,Ee,Ky,KL];simp+decide only[qa,ev,putD,VM,VO,Ka,true_and,qbJ,qck,Un,↓qg,qc,↓Ql,qV,Qt,↓qB,qm,YR,↓qF,qY,qz ag3,qak,qz UU,↓Xc,Qv,↓qw,ql,qP,cond_false,qo,XD,↓Xe,agP,Qw,qO,qK,qD,implies_true,QC wz eb_p,VX,Km,Jr,qi,hlv,nv];refine qiI (cs:=byteCells [7]) (g:= .bool (decide ((j:Int)<l.length))) (by rfl) (by rfl) (fun _=>by kernel_rfl) fun k8q12 h8q12 hs8 hb8=>?_;have hs_h8q12:Sub B h8q12:=BJ zqC hs8;have hr_h8q12:Sub H1 h8q12:=BJ zqC hs8;have eb_p:=hs8 kp _ zqA;rw[qa];refine And.intro (by first|exact Vl _|assumption|exact Vg (by assumption)) ?_;simp+decide only[putD,VM,if_false,qD];first
   |(refine YA (by rfl) ?_;refine qM (V:= .bool (XJ l j [7])) (by rfl) (by rfl) (by
    have hq0:(decide ((j:Int)<l.length)==true)=true:=hg;have hq:decide ((j:Int)<l.length)=true:=by simpa using hq0
    exact qmR wz _ kp _ l j _ [7] zqA (hv.mono zqB) (qbz (k:=k8q12) (ks:=[7]) (hb8 hq0)) (by decide)) ?_)
   |(refine qad (by rfl) (by rfl) ?_)
   |(refine Zp (V:= .bool (XJ l j [7])) (f:=_) (cap:=_) (xs:=_) (by first|rfl|(simp+decide only[gv,qO,VO,Ka,Xf,qK])) (fun hg=>⟨rfl,?_⟩) (fun hg=>by
    have hq0:(decide ((j:Int)<l.length)==true)=true:=hg;have hq:decide ((j:Int)<l.length)=true:=by simpa using hq0
    exact qmR wz _ kp _ l j _ [7] zqA (hv.mono zqB) (qbz (k:=k8q12) (ks:=[7]) (hb8 hq0)) (by decide)) ?_;· (simp+decide only[gv,qO,VO,Ka,qD]at hg;simp+decide only[evs,ev,VO,Ka,hg,Qz,Be,Kc,Vj]<;>try rfl))
   rw[qa];refine And.intro (by first|exact Vl _|assumption|exact Vg (by assumption)) ?_;simp+decide only[qa,ev,qI,qG,putD,VM,VO,VN,Ka,true_and,Un,gv,qO,qD,↓qcI,XW,agP,Qw,qK,implies_true,Yc,qlM,qlN,↓Xa,Qy,Qk,Xk,Xv];apply hK;clear hK K;refine qH (b:=_) rfl (fun hb3=>?_) (fun hb3=>?_)
   ·try simp only[decide_eq_true_eq,Ji,Kw]at hb3
    have hj4:j<l.length:=by omega
    have hst:=qcB hj4;have hk8:=qgd hj4;rw[hb3.2]at hk8;rw[if_neg (by simpa using hk8.symm)]at hst;refine qN ?_;change Awp _ _ _ _ _ _ _;refine Qj ?_;refine XE [0,1,6] (by rfl) ?_;simp+decide only[ev,qI,qG,putD,VM,VO,Ka,true_and,↓qg,qc,↓Ql,qV,Qt,↓qB,qm,YR,↓qF,qY,qz ag3,↓qw,ql,qy,cond_false,qo,QS,QC wz eb_p,VX,Km,Jr,qi];try simp(disch:=omega)only[wrap_i64]
    refine qp (by rfl) (by rfl) zqA sz3 (by rfl) (by rfl) zqD (Js _) (by rfl) ?_;simp only[VV];simp+decide only[qa,ev,putD,VO,VN,Ka,setAt,VW,Ki];try simp only[Qf,ZP]
    exact⟨j+1,rfl,V9 zqB _ _,⟨by omega,hj4,by rw[<-hst];exact hj3⟩,by omega⟩
   ·try simp only[decide_eq_false_iff_not,VS,VP]at hb3
    have hje:XL l (i+1)=j:=by
     rw[<-hj3];rcases KT j l.length with hj4|hj4
     ·have hk8:=qgd hj4
      rcases hb3 with q|q
      ·omega
      ·rw[q]at hk8
       rw[qcB hj4,if_pos (by simpa using hk8.symm)]
     ·exact qjA hj4
    rw[hje]at ho;refine Xm ?_;change Awp _ _ _ _ _ _ _;refine qJ ?_;refine Zw [0,6,87] mixed (by kernel_rfl) (by rfl) (by rfl) fun K hK=>?_;simp+decide only[qa,ev,qI,qG,putD,VM,VO,VN,Ka,true_and,↓qg,qc,↓Ql,qV,Qt,↓qB,qm,YR,↓qF,qY,qz ag3,qak,qz UU,↓Xc,Qv,↓qw,ql,qP,cond_false,qo,XT,↓Xe,agP,Qw,qO,qK,Xf,YJ,qD,Qh,qon,implies_true,↓qcI,XW,Yc,qlM,qlN,↓Yi,qbr,qbs,↓Xl,Zn,Zo,↓Zg,XN,YT,qsg,↓Xd,qy,Zi,qbb,Zj,qbc,QS,↓qcJ,Qy,Qk,Zm,qhp,Xv,ZC,qhn,qho,↓Xa,QC wz eb_p,VX,Km,Jr,qi,hlv,nv];try simp(disch:=omega)only[wrap_i64]
    apply hK;clear hK K;refine qH (b:=_) rfl (fun hb4=>?_) (fun hb4=>?_)
    ·try simp only[decide_eq_true_eq,Ji,Kw,JV]at hb4
     refine awp_rseq [4,5] (by rfl) fun K hK=>?_;simp+decide only[qa,ev,qI,qG,putD,VM,VN,Ka,true_and,↓qd,qb];apply hK;clear hK K;refine qL ?_;try simp only[Qg]
     refine QF (qR (qR (Qc))) ?_;simp+decide only[VO,Ka,WH];rw[if_pos (by
      rcases hb4 with q|⟨q1,q2⟩
      ·left;omega
      ·exact .inr ⟨q1,by omega⟩)]at ho
     refine⟨H1,zqB,?_,?_⟩
     ·rw[ho];rfl
     ·rw[ho];exact hH1
    ·try simp only[decide_eq_false_iff_not,VS,VP,VQ]at hb4
     rw[if_neg (by
      rintro(q|⟨q1,q2⟩)
      ·omega
      ·obtain⟨-,z⟩:=hb4
       rcases z with z|z
       ·rw[q1]at z;cases z
       ·omega)]at ho
     have hsl:=hv.slice Tryz.underlying26 Xb (some (.int .i64 ((i:Int)+1))) (some (.int .i64 (j:Int))) (l:=(i:Int)+1) (r:=(j:Int)) rfl rfl (by omega) (by omega) (by rw[Jo];omega);refine qN ?_;change Awp _ _ _ _ _ _ _;refine awp_rseq [0,6] (by rfl) fun K hK=>?_;simp+decide only[ev,qI,qG,putD,VM,VO,Ka,true_and,↓qg,qc,↓Ql,qV,Qt,↓qB,qm,YR,↓qF,qY,qz ag3,↓qw,ql,qy,cond_false,qo,QS,QC wz eb_p,VX,Km,Jr,qi];try simp(disch:=omega)only[wrap_i64]
     refine qp (by rfl) (by rfl) zqA sz3 (by rfl) (by rfl) zqD (Js _) (by rfl) ?_;simp only[VV];simp+decide only[qa,ev,putD,VO,VN,Ka,setAt,VW,Ki];apply hK;clear hK K;refine Zw [4,5] mixed (by kernel_rfl) (by rfl) (by rfl) fun K hK=>?_;simp+decide only[ev,qI,qG,putD,VM,VO,Ka,true_and,↓qg,qc,↓Ql,qV,Qt,↓qB,qm,qak,↓qF,qY,qz UU,↓qw,ql,qy,cond_false,qo,QS,YR,qz ag3,UA,QN,VX,Km,Jr,qi,hlv,Int.add_sub_cancel];try simp(disch:=omega)only[wrap_i64]
     try simp+decide only[qa,ev,qI,qG,putD,VM,VO,VN,Ka,true_and,↓Wp,ZA,evO,↓qd,qb,hsl]
     apply hK;clear hK K;refine qL ?_;refine QF (qR (qR (Qc))) ?_;simp+decide only[VO,Ka,WH];refine⟨B.set kp ⟨[v, .int .i64 ((j:Int)+1)],0⟩,?_,?_,?_⟩
     ·exact V9 zqB _ _
     ·rw[ho];rfl
     ·rw[ho];rfl
end Go.Proofs.YtlhhaagmakhilaaGreatDoor
namespace Go.Proofs.YtlhhaagmakhilaaGreatDoor
open Go.AM
open Go.Proofs
open Go.Col
open Go.Tok
open Go.Cop
open Go.RowKit (Below)
set_option maxRecDepth 100000
theorem qmO{H:AHeap}{k:Nat}(b:Blk):(H.del k).set k b=H.set k b:=by
 funext j;by_cases e:j=k<;>simp[Bd,Vk,e]
theorem Yg{H:AHeap}(k:Nat):H.del k k=none:=by simp[Vk]
theorem qbv{B H:AHeap}{k:Nat}(hs:Sub B H)(hb:B k=none):Sub B (H.del k):=fun j b hj=>by
 have hne:j≠k:=fun e=>by subst e;rw[hb]at hj;cases hj
 simp only[Vk,hne,if_false];exact hs j b hj
theorem ZK{B H:AHeap}{k:Nat}(hs:Sub B H)(hb:B k=none)(b:Blk):Sub B (H.set k b):=fun j c hj=>by
 have hne:j≠k:=fun e=>by subst e;rw[hb]at hj;cases hj
 rw[Vb _ _ hne];exact hs j c hj
theorem qgk(wz:World)(H B:AHeap)(kp:Nat)(v:AVal)(l:List TokC)(i:Nat)(e:Bool)(hk:H kp=some ⟨[v, .int .i64 i],0⟩)(hs:Sub B H)(hb:B kp=none)(hv:IsL wz B 5 v (l.map QM))(hl:l.length<=1099511627776)(hi:i<=l.length):
 ACall Tryz.prog wz 85 [.ptr (.own kp) 0, .bool e] H (fun r h'=>r= .tuple [qdh v (Qm l i e), .bool (Qm l i e).ok]/\h'=H.set kp ⟨[v, .int .i64 (Qm l i e).at_],0⟩):=by
 have:=qpZ wz (H.del kp) kp v l i e (Yg kp) (hv.mono (qbv hs hb)) hl hi;simp only[qmO]at this
 rwa [qmg hk]at this
theorem qcd{wz:World}{h:AHeap}{v:AVal}{l:List TokC}(hv:IsL wz h 5 v (l.map QM)){o:Opd}(h1:o.lo<=o.hi)(h2:o.hi<=l.length)(ok:o.ok=true):IsL wz h 5 (qdh v o) ((qal l o.lo o.hi).map QM):=by
 have:=hv.sub (i:=o.lo) (j:=o.hi) h1 (by rw[Jo];exact h2);unfold qdh qal;rw[if_pos ok,List.map_take,List.map_drop];exact this
theorem qcc{wz:World}{h:AHeap}{v:AVal}{l:List TokC}(hv:IsL wz h 5 v (l.map QM))(o:Opd):(qdh v o).scal=true:=by
 unfold qdh;split
 ·generalize l.map QM=xs at hv
  cases hv with
  |nil=>rfl
  |mk lc of n c xs hn hw hc hl hcap=>cases c<;>rfl
 ·rfl
theorem qpC{wz:World}{h:AHeap}{es:Nat}{v:AVal}{xs:List (List AVal)}(hv:IsL wz h es v xs):Sc v:=by
 cases hv with
 |nil=>trivial
 |mk lc o n c xs hn hw hc hl hcap=>trivial
theorem qjI{wz:World}{h:AHeap}{v:AVal}{l:List TokC}(hv:IsL wz h 5 v (l.map QM))(o:Opd):Sc (qdh v o)=True:=by
 refine eq_true ?_;unfold qdh;split
 ·generalize l.map QM=xs at hv
  cases hv with
  |nil=>trivial
  |mk lc of n c xs hn hw hc hl hcap=>cases c<;>trivial
 ·trivial
abbrev RepQ:=RepC×AVal×AVal
def Uz(q:RepQ):List AVal:=[q.2.1,q.2.2]
structure RepOk(wz:World)(h:AHeap)(q:RepQ):Prop where
 old:IsL wz h 5 q.2.1 (q.1.old.map QM)
 new:IsL wz h 5 q.2.2 (q.1.new.map QM)
theorem RepOk.mono{wz:World}{h h':AHeap}{q:RepQ}(hq:RepOk wz h q)(hs:Sub h h'):RepOk wz h' q:=⟨hq.old.mono hs,hq.new.mono hs⟩
def PairR(wz:World)(B:AHeap)(p:Pair)(r:AVal):Prop:=∃ov nv,r= .tuple [.agg [ov,nv], .bool p.ok]/\ov.scal=true/\nv.scal=true/\(p.ok=true->RepOk wz B (p.rep,ov,nv))
theorem c_pairBad(wz:World)(H B:AHeap)(kp:Nat)(v:AVal)(l:List TokC)(i:Nat)(eb_p:H kp=some ⟨[v, .int .i64 i],0⟩)(hs_H:Sub B H)(hb:B kp=none)(hv:IsL wz B 5 v (l.map QM))(hl:l.length<=1099511627776)(hi:i<=l.length)(hok:(Qm l i false).ok=false):
 ACall Tryz.prog wz 67 [.ptr (.own kp) 0] H (fun r h'=>PairR wz B (YG l i) r/\h'=H.set kp ⟨[v, .int .i64 (YG l i).at_],0⟩):=by
 have hp:YG l i=⟨false,⟨[],[]⟩,(Qm l i false).at_⟩:=by unfold YG;simp only[hok,if_true]
 rw[hp];have hlv:=hv.live;have hss:=qcc hv (Qm l i false);have hsl:=ZU hss;obtain⟨ov,hov⟩:∃ov,ov=qdh v (Qm l i false):=⟨_,rfl⟩
 rw[<-hov]at hss hsl;refine qW (n:=29) (rs:=[.cell 2 46, .tmp 3]) Tryz.func67 rfl rfl rfl rfl (VL rfl) ?_;simp only[Qe];refine awp_rseq [0,2] (by rfl) fun K hK=>?_;refine Qi ze46 (cs:=[.nilSlice, .nilSlice]) (by rfl) fun k0q0 hk0q0=>?_;have hn_0q0:H k0q0=none:=by first|assumption|(simp only[V7]at hk0q0;simp only[hk0q0])
 have hf_0q0:B k0q0=none:=Bg hs_H hn_0q0;have ne_0q0_p:k0q0≠kp:=Bh hn_0q0 eb_p;simp+decide only[qa,ev,qI,qG,putD,VM,VN,Ka,true_and,↓qd,qb];apply hK;clear hK K;refine awp_rseq [0,2,4,5] (by rfl) fun K hK=>?_;simp+decide only[ev,putD,VM,VO,Ka,true_and,↓qg,qc];refine QR (by rfl) (by rfl) (qgk wz _ B kp v l i false zqA zqB hb hv hl hi) fun x1q1 h1q1 hx1q1=>?_;rw[<-hov,hok]at hx1q1;obtain⟨rfl,rfl⟩:=hx1q1;simp+decide only[qa,ev,putD,VM,VO,VN,Ka,true_and,↓qg,qc,↓QV,QJ,QU,KX,J8,VX,Km,↓qd,qb,VX,Km,Jr,Nat.reduceAdd];apply hK;clear hK K;refine qJ ?_;refine awp_rseq [0,2,4,18] (by rfl) fun K hK=>?_;simp+decide only[ev,putD,VM,VO,Ka,true_and,↓qg,qc,↓Yj,XW,Yc,↓Xe,agP,Qw,qO,qK,Qh,implies_true,Ef,VY,Zk];refine qad (by rfl) (by rfl) ?_;simp+decide only[qa,ev,qI,qG,putD,VM,VO,VN,Ka,true_and,qO,Qh,↓qcI,XW,agP,Qw,qK,VY,Zk,false_implies,qaf,↓Xa,Qy,Qk];apply hK;clear hK K;refine qH (b:=_) rfl (fun hb1=>?_) (fun hb1=>?_)
 ·try simp only at hb1
  refine awp_rseq [2,3] (by rfl) fun K hK=>?_;simp+decide only[ev,qI,qG,putD,VM,VO,if_false,true_and,↓Qo,↓qZ,bld46_,evP,Vj];refine qp (by rfl) (by rfl) zqA qeu (by rfl) (by rfl) zqD (Js _) (by first|rfl|(simp+decide only[ev,putD,VM,VO,Ka,VV,Qr,JS,Vf,hss])) ?_;simp only[VV];simp+decide only[qa,ev,qI,qG,putD,VM,VO,VN,Ka,true_and,↓qd,qb,setAt,VW,Ki,Jr];apply hK;clear hK K;refine qL ?_;try simp only[Qg]
  refine QF (?_) ?_
  ·simp+decide only[QD,qA,qj,VO,Ka,and_true,qA,qj,qh qoJ qeu,Qa,qf,VX,Km,Jr,QK,allLive,JS,qf,VX,Km,Jr,QK,allLive,JS]
  simp+decide only[VO,Ka,Xg,qA,qj,qh qoJ qeu,Qa,qf,VX,Km,Jr,QK,allLive,JS,qf,VX,Km,Jr,QK,allLive,JS];refine⟨H.set kp ⟨[v, .int .i64 (Qm l i false).at_],0⟩,V3 (V9 (Vg hn_0q0) _ _) ((Vb _ _ ne_0q0_p).trans hn_0q0),⟨.nilSlice, .nilSlice,rfl,rfl,rfl,fun q=>by cases q⟩,rfl⟩
 ·exact absurd hb1 (by decide)
theorem qmP(wz:World)(H B:AHeap)(kp:Nat)(v:AVal)(l:List TokC)(i:Nat)(s:Str)(hk:H kp=some ⟨[v, .int .i64 i],0⟩)(hs:Sub B H)(hv:IsL wz B 5 v (l.map QM))(hl:l.length<=1099511627776):
 ACall Tryz.prog wz 51 [.ptr (.own kp) 0, .str s] H (fun r h'=>r= .bool (Zt l i s)/\h'=H.set kp ⟨[v, .int .i64 ((if Zt l i s=true then i+1 else i:Nat):Int)],0⟩):=c_wordP wz H kp v l i s hk (hv.mono hs) hl
theorem qpY(wz:World)(H B:AHeap)(kp:Nat)(v:AVal)(l:List TokC)(i:Nat)(eb_p:H kp=some ⟨[v, .int .i64 i],0⟩)(hs_H:Sub B H)(hb:B kp=none)(hv:IsL wz B 5 v (l.map QM))(hl:l.length<=1099511627776)(hi:i<=l.length)(hok:(Qm l i false).ok=true):
 ACall Tryz.prog wz 67 [.ptr (.own kp) 0] H (fun r h'=>PairR wz B (YG l i) r/\h'=H.set kp ⟨[v, .int .i64 (YG l i).at_],0⟩):=by
 obtain⟨o1,o2,o3⟩:=qai (e:=false) hi;obtain⟨o3,o4,o5⟩:=o3 hok;have hp:YG l i=if Zt l (Qm l i false).at_ BY=false then⟨false,⟨[],[]⟩,(Qm l i false).at_⟩else⟨(Qm l ((Qm l i false).at_+1) true).ok,⟨qal l (Qm l i false).lo (Qm l i false).hi,qal l (Qm l ((Qm l i false).at_+1) true).lo (Qm l ((Qm l i false).at_+1) true).hi⟩,(Qm l ((Qm l i false).at_+1) true).at_⟩:=by
  conv=>lhs;unfold YG
  simp only[hok];rfl
 have hlv:=hv.live;have hsc:=fun o=>qcc hv o;have hsl:=fun o=>ZU (hsc o);have hSc:=fun o=>qjI hv o;obtain⟨a,ha⟩:∃a,a=Qm l i false:=⟨_,rfl⟩
 rw[<-ha]at hok hp o1 o2 o3 o4 o5;obtain⟨W,hW⟩:∃W,W=Zt l a.at_ BY:=⟨_,rfl⟩
 refine qW (n:=29) (rs:=[.cell 2 46, .tmp 3]) Tryz.func67 rfl rfl rfl rfl (VL rfl) ?_;simp only[Qe];refine awp_rseq [0,2] (by rfl) fun K hK=>?_;refine Qi ze46 (cs:=[.nilSlice, .nilSlice]) (by rfl) fun k0q0 hk0q0=>?_;have hn_0q0:H k0q0=none:=by first|assumption|(simp only[V7]at hk0q0;simp only[hk0q0])
 have hf_0q0:B k0q0=none:=Bg hs_H hn_0q0;have ne_0q0_p:k0q0≠kp:=Bh hn_0q0 eb_p;simp+decide only[qa,ev,qI,qG,putD,VM,VN,Ka,true_and,↓qd,qb];apply hK;clear hK K;refine awp_rseq [0,2,4,5] (by rfl) fun K hK=>?_;simp+decide only[ev,putD,VM,VO,Ka,true_and,↓qg,qc];refine QR (by rfl) (by rfl) (qgk wz _ B kp v l i false zqA zqB hb hv hl hi) fun x1q1 h1q1 hx1q1=>?_;rw[<-ha,hok]at hx1q1;obtain⟨rfl,rfl⟩:=hx1q1;simp+decide only[qa,ev,putD,VM,VO,VN,Ka,true_and,↓qg,qc,↓QV,QJ,QU,KX,J8,VX,Km,↓qd,qb,VX,Km,Jr,Nat.reduceAdd];apply hK;clear hK K;refine qJ ?_;refine awp_rseq [0,2,4,18] (by rfl) fun K hK=>?_;simp+decide only[ev,putD,VM,VO,Ka,true_and,↓qg,qc,↓Yj,XW,Yc,↓Xe,agP,Qw,qO,qK,Qh,implies_true,Ef,VY,Qz];refine YA (by rfl) ?_;refine QR (by rfl) (by rfl) (qmP wz _ B kp v l a.at_ BY (Vd _ _ _) zqB hv hl) fun x2q4 h2q4 hx2q4=>?_;obtain⟨rfl,rfl⟩:=hx2q4;rw[<-hW];simp+decide only[qa,ev,qI,qG,putD,VM,VO,VN,Ka,true_and,qO,Qh,↓qcI,XW,agP,Qw,qK,implies_true,Ef,Qz,BO,Yc,↓Xa,Qy,Qk,ZC];apply hK;clear hK K;refine qH (b:=_) rfl (fun hb1=>?_) (fun hb1=>?_)
 ·try simp only[Ji]at hb1
  refine awp_rseq [2,3] (by rfl) fun K hK=>?_;simp+decide only[ev,qI,qG,putD,VM,VO,if_false,true_and,↓Qo,↓qZ,bld46_,evP,Vj];refine qp (by rfl) (by rfl) zqA qeu (by rfl) (by rfl) zqD (Js _) (by first|rfl|(simp+decide only[ev,putD,VM,VO,Ka,VV,Qr,JS,Vf,hsc])) ?_;simp only[Vh,VV];simp+decide only[qa,ev,qI,qG,putD,VM,VO,VN,Ka,true_and,↓qd,qb,setAt,VW,Ki,Jr];apply hK;clear hK K;refine qL ?_;try simp only[Qg]
  refine QF (?_) ?_
  ·simp+decide only[QD,qA,qj,VO,Ka,and_true,qA,qj,qh qoJ qeu,Qa,qf,VX,Km,Jr,QK,allLive,JS,qf,VX,Km,Jr,QK,allLive,JS]
  simp+decide only[VO,Ka,Xg,qA,qj,qh qoJ qeu,Qa,qf,VX,Km,Jr,QK,allLive,JS,qf,VX,Km,Jr,QK,allLive,JS];rw[if_pos (by rw[<-hW];exact hb1)]at hp;rw[hp];simp only[hb1,KV,if_false];exact⟨H.set kp ⟨[v, .int .i64 a.at_],0⟩,V3 (V9 (Vg hn_0q0) _ _) ((Vb _ _ ne_0q0_p).trans hn_0q0),⟨.nilSlice, .nilSlice,rfl,rfl,rfl,fun q=>by cases q⟩,rfl⟩
 ·try simp only[VS]at hb1
  rw[if_neg (by rw[<-hW,hb1];decide)]at hp;have hwl:a.at_<l.length:=qbF (hW.symm.trans hb1);rw[hb1,if_pos rfl];obtain⟨p1,p2,p3⟩:=qai (l:=l) (i:=a.at_+1) (e:=true) (by omega);obtain⟨b,hbo⟩:∃b,b=Qm l (a.at_+1) true:=⟨_,rfl⟩
  rw[<-hbo]at hp p1 p2 p3;refine qN ?_;change Awp _ _ _ _ _ _ _;refine awp_rseq [2,4,5,6] (by rfl) fun K hK=>?_;simp+decide only[ev,putD,VM,VO,Ka,true_and,↓qg,qc];refine QR (by rfl) (by rfl) (qgk wz _ B kp v l (a.at_+1) true zqA zqB hb hv hl (by omega)) fun x4q1 h4q1 hx4q1=>?_;rw[<-hbo]at hx4q1;obtain⟨rfl,rfl⟩:=hx4q1;simp+decide only[qa,ev,putD,VM,VO,VN,Ka,true_and,↓qg,qc,↓QV,QJ,QU,KX,J8,VX,Km,↓qd,qb,VX,Km,Jr,Nat.reduceAdd];apply hK;clear hK K;refine awp_rseq [2,3] (by rfl) fun K hK=>?_;simp+decide only[ev,qI,qG,putD,VM,VO,Ka,true_and,↓qg,qc,↓Qo,↓qZ,qlS,evP,Kc,Vj,hSc];refine qp (by rfl) (by rfl) zqA qeu (by rfl) (by rfl) zqD (Js _) (by first|rfl|(simp+decide only[ev,VO,Ka,VV,Qr,JS,hsc])) ?_;simp only[Vh,VV];simp+decide only[qa,ev,putD,VM,VO,VN,Ka,true_and,↓qd,qb,setAt,VW,Ki,Jr];apply hK;clear hK K;refine qL ?_;refine QF (?_) ?_
  ·simp+decide only[QD,qA,qj,VO,Ka,and_true,qA,qj,qh qoJ qeu,Qa,qf,VX,Km,Jr,allLive,JS,qf,VX,Km,Jr,allLive,JS,hsl]
  simp+decide only[VO,Ka,Xg,qA,qj,qh qoJ qeu,Qa,qf,VX,Km,Jr,allLive,JS,qf,VX,Km,Jr,allLive,JS,hsl];rw[hp];exact⟨H.set kp ⟨[v, .int .i64 b.at_],0⟩,V3 (V9 (Vg hn_0q0) _ _) ((Vb _ _ ne_0q0_p).trans hn_0q0),⟨_,_,rfl,hsc _,hsc _,fun q=>⟨qcd hv o4 o5.1 hok,qcd hv (p3 q).2.1 (p3 q).2.2.1 q⟩⟩,rfl⟩
theorem c_pair(wz:World)(H B:AHeap)(kp:Nat)(v:AVal)(l:List TokC)(i:Nat)(eb_p:H kp=some ⟨[v, .int .i64 i],0⟩)(hs_H:Sub B H)(hb:B kp=none)(hv:IsL wz B 5 v (l.map QM))(hl:l.length<=1099511627776)(hi:i<=l.length):
 ACall Tryz.prog wz 67 [.ptr (.own kp) 0] H (fun r h'=>PairR wz B (YG l i) r/\h'=H.set kp ⟨[v, .int .i64 (YG l i).at_],0⟩):=by
 cases hok:(Qm l i false).ok with
 |false=>exact c_pairBad wz H B kp v l i eb_p hs_H hb hv hl hi hok
 |true=>exact qpY wz H B kp v l i eb_p hs_H hb hv hl hi hok
end Go.Proofs.YtlhhaagmakhilaaGreatDoor
namespace Go.Proofs.YtlhhaagmakhilaaGreatDoor
open Go.AM
open Go.Proofs
open Go.Col
open Go.Tok
open Go.Cop
open Go.RowKit (Below)
set_option maxRecDepth 100000
def qbl(l:List TokC)(i:Nat)(first:Bool)(acc:List RepC):Pairs:=YD l (l.length+2-i) i first acc
theorem qeG{l:List TokC}{i:Nat}(hi:i<=l.length)(first:Bool)(acc:List RepC):qbl l i first acc=if first=true\/(i<l.length/\XJ l i [6]=false)then(if (YG l i).ok=false then⟨false,[],(YG l i).at_⟩else qbl l (YG l i).at_ false (acc++[(YG l i).rep]))else⟨true,acc,i⟩:=by
 unfold qbl;rw[show l.length+2-i=(l.length+1-i)+1 by omega,YD];split
 ·simp only
  split
  ·rfl
  ·rename_i h1 h2
   obtain⟨p1,p2,p3⟩:=qiY hi;have h3:(YG l i).ok=true:=by simpa using h2
   have:=(p3 h3).1;exact qdO l _ _ _ _ _ p2 (by omega) (by omega)
 ·rfl
def IsReps(wz:World)(h:AHeap)(v:AVal)(rs:List RepC):Prop:=∃qs:List RepQ,rs=qs.map (·.1)/\IsL wz h 2 v (qs.map Uz)/\∀q∈qs,RepOk wz h q
theorem IsReps.mono{wz:World}{h h':AHeap}{v:AVal}{rs:List RepC}(hv:IsReps wz h v rs)(hs:Sub h h'):IsReps wz h' v rs:=by
 obtain⟨qs,h1,h2,h3⟩:=hv;exact⟨qs,h1,h2.mono hs,fun q hq=>(h3 q hq).mono hs⟩
theorem IsReps.none{wz:World}{h:AHeap}:IsReps wz h .nilSlice []:=⟨[],rfl, .nil,fun q hq=>by cases hq⟩
theorem qga{qs:List RepQ}:∀x∈qs.map Uz,x.length=2:=fun x hx=>by obtain⟨y,_,rfl⟩:=JG.1 hx;rfl
theorem Ue(es:Nat)(b:Option Buf):(QH es b).cells=[QH es b]:=by cases b<;>rfl
def qkP(t:TokC)(rv:AVal):List AVal:=[.int .u8 t.kind.toNat, .str t.text, .int .i64 t.line, .int .i64 t.col, .bool t.left,rv]
structure NewE(B H E:AHeap):Prop where
 sub:Sub B E
 off:∀j,H j≠none->B j=none->E j=none
theorem NewE.refl(B H:AHeap):NewE B H B:=⟨Vl _,fun _ _ h=>h⟩
theorem newE_buf{B H G:AHeap}{es kp:Nat}{pb:Option Buf}{c:Blk}(hok:bufOk G es pb)(hg:Sub (H.del kp) G)(hp:G kp=some c):NewE B H (QG B pb)\/¬bufOk B es pb:=by
 by_cases hb:bufOk B es pb
 ·refine .inl ⟨BH hb,fun j h1 h2=>?_⟩
  cases pb with
  |none=>exact h2
  |some b=>
   have hne:j≠b.blk:=fun e=>by
    have h0:G b.blk=none:=hok.1;subst e;by_cases e2:b.blk=kp
    ·rw[e2,hp]at h0;cases h0
    ·cases hj:H b.blk with
     |none=>exact h1 hj
     |some d=>
      have:=hg b.blk d (by simp only[Vk,e2,if_false];exact hj);rw[h0]at this;cases this
   exact(Vb _ _ hne).trans h2
 ·exact .inr hb
def StmR(wz:World)(H B:AHeap)(kp:Nat)(v:AVal)(s:Stm)(r:AVal)(h':AHeap):Prop:=
 Sub (H.del kp) h'/\h' kp=some ⟨[v, .int .i64 s.at_],0⟩/\∃rv E,r= .tuple [.agg (qkP s.name rv), .bool s.ok]/\NewE B H E/\Sub E h'/\IsReps wz E rv s.reps
structure StG where
 at_:Nat
 G:AHeap
 pb:Option Buf
 qs:List RepQ
structure StOk(wz:World)(H B:AHeap)(kp k0 k3:Nat)(v:AVal)(l:List TokC)(t:TokC)(s:StG):Prop where
 at_:s.at_<=l.length
 sub:Sub (H.del kp) s.G
 par:s.G kp=some ⟨[v, .int .i64 s.at_],0⟩
 res:s.G k0=some ⟨[.int .u8 0, .str [], .int .i64 0, .int .i64 0, .bool false, .nilSlice],0⟩
 stm:s.G k3=some ⟨[.int .u8 t.kind.toNat, .str t.text, .int .i64 t.line, .int .i64 t.col, .bool t.left,QH 2 s.pb],0⟩
 ok:bufOk s.G 2 s.pb
 eq:Yn s.pb=(s.qs.map Uz).flatten
 reps:∀q∈s.qs,RepOk wz B q
 few:s.qs.length<=s.at_
set_option maxHeartbeats 2000000 in
theorem qou(wz:World)(H B:AHeap)(kp:Nat)(v:AVal)(l:List TokC)(i:Nat)(eb_p:H kp=some ⟨[v, .int .i64 i],0⟩)(hs_H:Sub B H)(hb:B kp=none)(hv:IsL wz B 5 v (l.map QM))(hl:l.length<=1000000)(hi:i<=l.length):
 ACall Tryz.prog wz 52 [.ptr (.own kp) 0] H (fun r h'=>StmR wz H B kp v (QL l i) r h'):=by
 have hlv:=hv.live;have nv:=XY hv;obtain⟨k1,hk1⟩:∃k,k=XJ l i [1,3]:=⟨_,rfl⟩
 obtain⟨W,hW⟩:∃W,W=Zt l (i+1) ZN:=⟨_,rfl⟩
 obtain⟨O,ho⟩:∃O,O=QL l i:=⟨_,rfl⟩
 rw[<-ho];unfold QL at ho;rw[<-hk1,<-hW]at ho;have hdel:Sub (H.del kp) H:=fun j b hj=>by
  by_cases e:j=kp
  ·subst e;rw[Yg]at hj;cases hj
  ·simpa[Vk,e]using hj
 have hsB:Sub B (H.del kp):=qbv hs_H hb;have hso:(AVal.bool true).scal=true:=rfl;have hsn:(AVal.bool true).scal=true:=rfl;have hlo:(AVal.bool true).live=true:=rfl;have hln:(AVal.bool true).live=true:=rfl;have hSo:Sc .nilSlice=True:=eq_true trivial;have hSn:Sc .nilSlice=True:=eq_true trivial;have hbl:=QW 2 none;refine qW (n:=79) (rs:=[.cell 2 91, .tmp 3]) Tryz.func52 rfl rfl rfl rfl (VL rfl) ?_;simp only[Qe];refine awp_rseq [0,2] (by rfl) fun K hK=>?_;refine Qi qsi (cs:=[.int .u8 0, .str [], .int .i64 0, .int .i64 0, .bool false, .nilSlice]) (by rfl) fun k0q0 hk0q0=>?_;have hn_0q0:H k0q0=none:=by first|assumption|(simp only[V7]at hk0q0;simp only[hk0q0])
 have hf_0q0:B k0q0=none:=Bg hs_H hn_0q0;have ne_0q0_p:k0q0≠kp:=Bh hn_0q0 eb_p;simp+decide only[qa,ev,qI,qG,putD,VM,VN,Ka,true_and,↓qd,qb];apply hK;clear hK K;refine qJ ?_;refine awp_rseq [0,2,11] (by rfl) fun K hK=>?_;simp+decide only[ev,putD,VM,VO,Ka,true_and,↓qg,qc];refine QA (cs:=byteCells [1,3]) (by kernel_rfl) fun k1q1 hk1q1=>?_;have ne_1q1_0q0:k1q1≠k0q0:=by simp only[V7]at hk1q1;simp only[hk1q1,ne_eq,not_false_eq_true]
 have hn_1q1:H k1q1=none:=by first|assumption|(simp only[V7]at hk1q1;simp only[hk1q1])
 have hf_1q1:B k1q1=none:=Bg hs_H hn_1q1;have ne_1q1_p:k1q1≠kp:=Bh hn_1q1 eb_p;refine qM (V:= .bool k1) (by rfl) (by rfl) (by rw[hk1];exact qmR wz _ kp _ l i _ [1,3] zqA (hv.mono zqB) (qbz (k:=k1q1) (ks:=[1,3]) zqA) (by decide)) ?_;simp+decide only[qa,ev,putD,VM,VO,VN,Ka,true_and,↓Yj,XW,Yc];apply hK;clear hK K;refine qH (b:=_) rfl (fun hb1=>?_) (fun hb1=>?_)
 ·try simp only[Ji]at hb1
  refine awp_rseq [2,3] (by rfl) fun K hK=>?_;simp+decide only[ev,qI,qG,putD,VM,VO,if_false,true_and,↓Qo,↓qZ,qic,evP,Vj];refine qp (by rfl) (by rfl) zqA qae (by rfl) (by rfl) zqD (Js _) (by first|rfl|(simp+decide only[ev,putD,VM,VO,Ka,VV,Qr,JS,Vf,hso,hsn,XU,XA,XB,Xh])) ?_;simp only[VV];simp+decide only[qa,ev,qI,qG,putD,VM,VO,VN,Ka,true_and,↓qd,qb,setAt,VW,Ki,Jr,Nat.reduceAdd];apply hK;clear hK K;refine qL ?_;try simp only[Qg]
  refine QF (?_) ?_
  ·simp+decide only[QD,qA,qj,VO,Ka,and_true,qA,qj,qh qeh qae,Qa,qf,VX,Km,Jr,Nat.reduceAdd,qC,qi,qE,QK,allLive,JS,qf,VX,Km,Jr,Nat.reduceAdd,qC,qi,qE,QK,allLive,JS]
  simp+decide only[VO,Ka,Xg,qA,qj,qh qeh qae,Qa,qf,VX,Km,Jr,Nat.reduceAdd,qC,qi,qE,QK,allLive,JS,qf,VX,Km,Jr,Nat.reduceAdd,qC,qi,qE,QK,allLive,JS];rw[if_pos hb1]at ho;rw[ho];exact⟨H,zqB,hdel,eb_p, .nilSlice,B,rfl,NewE.refl _ _,hs_H,IsReps.none⟩
 ·try simp only[VS]at hb1
  rw[if_neg (by rw[hb1];decide)]at ho;have hlt:i<l.length:=UR (hk1.symm.trans hb1);obtain⟨lc,o,c,rfl⟩:=Wd hv (by omega);obtain⟨t,ht⟩:∃t,t=l.getD i XZ:=⟨_,rfl⟩
  rw[show l.getD i noT=t from ht.symm]at ho;have hd0:(H.del kp) k0q0=none:=by simp[Vk,ne_0q0_p,hn_0q0]
  refine qN ?_;change Awp _ _ _ _ _ _ _;obtain⟨H3,hH3⟩:∃H3,H3=H.set k0q0 ⟨[.int .u8 0, .str [], .int .i64 0, .int .i64 0, .bool false, .nilSlice],0⟩:=⟨_,rfl⟩
  refine BG (h':=H3) (by rw[hH3];exact zqB) ?_;have hs_H3:Sub B H3:=by rw[hH3];exact zqB
  have hd3:Sub (H.del kp) H3:=by rw[hH3];exact hdel.trans (Vg hn_0q0)
  have eb_p:H3 kp=some ⟨[.slice lc o l.length c, .int .i64 i],0⟩:=by rw[hH3];exact zqA
  have eb_0q0:H3 k0q0=some ⟨[.int .u8 0, .str [], .int .i64 0, .int .i64 0, .bool false, .nilSlice],0⟩:=by rw[hH3];exact Vd _ _ _
  obtain⟨e0,e1,e2,e3,e4⟩:=YL (hv.mono hs_H3) hlt;rw[<-ht]at e0 e1 e2 e3 e4;have e2':rd wz H3 lc (o+i*5+1+1)= .int .i64 t.line:=e2;have e3':rd wz H3 lc (o+i*5+1+1+1)= .int .i64 t.col:=e3;have e4':rd wz H3 lc (o+i*5+1+1+1+1)= .bool t.left:=e4;refine YS 12 [] [0,2,4] mixed (by kernel_rfl) (by rfl) fun K hK=>?_;simp only[Kh,V6,VB,KP];simp+decide only[ev,qI,qG,putD,VM,VO,Ka,true_and,↓XR,qc,↓WR,qV,Qt,↓ZR,qm,qak,↓ZG,XM,qz UU,YR,qz ag3,↓qdV,qU Tryz.underlying26 Xb,UY,qh Zv Xb,↓UH,↓qZ,bld91_0,evP,Kc,Vj,QC wz eb_p,qf,VX,Km,Jr,qC,qi,qE,allLive,JS,hlv,e0,e1,e2',e3',e4',Vq];repeat (with_reducible refine And.intro ?_ ?_;· first|trivial|omega|(intro hg;simp only[Kw,JV,Ji,VP,VQ,VS,decide_eq_true_eq,decide_eq_false_iff_not,XK]at hg;omega))
  refine qdo (by rfl) ?_;refine Qi qsi (cs:=[.int .u8 0, .str [], .int .i64 0, .int .i64 0, .bool false, .nilSlice]) (by rfl) fun k3q11 hk3q11=>?_;have hn_3q11:H3 k3q11=none:=by first|assumption|(simp only[V7]at hk3q11;simp only[hk3q11])
  have hf_3q11:B k3q11=none:=Bg hs_H3 hn_3q11;have ne_3q11_p:k3q11≠kp:=Bh hn_3q11 eb_p;have ne_3q11_0q0:k3q11≠k0q0:=Bh hn_3q11 eb_0q0;rw[qa];try simp only[Yz]
  refine qp (by rfl) (by rfl) zqA qae (by rfl) (by rfl) zqD (Js _) (by first|rfl|(simp+decide only[ev,putD,VM,VO,Ka,VV,Qr,JS,Vf,hso,hsn,XU,XA,XB,Xh])) ?_;simp only[Vh,VV];simp+decide only[qa,ev,putD,VM,VO,VN,Ka,setAt,VW,Ki,Jr,Nat.reduceAdd];apply hK;clear hK K;refine awp_rseq [0,2,4] (by rfl) fun K hK=>?_;simp+decide only[ev,qI,qG,putD,VM,VO,Ka,true_and,↓qg,qc,↓Ql,qV,Qt,↓qB,qm,YR,↓qF,qY,qz ag3,↓qw,ql,qy,cond_false,qo,QS,QZ,ne_eq,not_false_eq_true,ne_3q11_p.symm,QC wz eb_p,VX,Km,Jr,qi];try simp(disch:=omega)only[wrap_i64]
  refine qp (by rfl) (by rfl) zqA sz3 (by rfl) (by rfl) zqD (Js _) (by first|rfl|(simp+decide only[ev,putD,VM,VO,Ka,VV,Qr,JS,Vf,hso,hsn,XU,XA,XB,Xh])) ?_;simp only[VV];simp+decide only[qa,ev,putD,VO,VN,Ka,setAt,VW,Ki];apply hK;clear hK K;refine qJ ?_;refine awp_rseq [0,2,4,32] (by rfl) fun K hK=>?_;simp+decide only[ev,putD,VM,VO,Ka,true_and,↓qg,qc];refine QR (by rfl) (by rfl) (qmP wz _ B kp _ l (i+1) ZN zqA zqB hv (by omega)) fun x5q1 h5q1 hx5q1=>?_;rw[<-hW]at hx5q1;obtain⟨rfl,rfl⟩:=hx5q1;have hn3H:H k3q11=none:=by
   have:=hn_3q11;rw[hH3,Vb _ _ ne_3q11_0q0]at this;exact this
  obtain⟨P,hP⟩:∃P:Pairs,P=(if W=true then YD l (l.length+2) (i+2) true []else⟨true,[],i+1⟩):=⟨_,rfl⟩
  rw[<-hP]at ho;simp+decide only[qa,putD,VM,VN,Ka];apply hK;clear hK K;refine Uo [0,2,4] (fun s:StG=>[(0, .ptr (.own kp) 0),(2, .ptr (.own k0q0) 0),(4, .ptr (.own k3q11) 0)]) (fun s:StG=>QG s.G s.pb) (fun s:StG=>StOk wz H B kp k0q0 k3q11 (.slice lc o l.length c) l t s/\P=⟨true,s.qs.map (·.1),s.at_⟩) ?_ ?_
  ·refine qH (b:=_) rfl (fun hb2=>?_) (fun hb2=>?_)
   ·skip
    rw[if_pos hb2]at hP;have hlt2:i+1<l.length:=qbF (hW.symm.trans hb2);have hPr:P=qbl l (i+2) true []:=hP.trans (qdO l _ _ _ _ _ (by omega) (by omega) (by omega));rw[hb2,if_pos rfl];obtain⟨G0,hG0⟩:∃G0,G0=(H3.set k3q11 ⟨[.int .u8 t.kind.toNat, .str t.text, .int .i64 t.line, .int .i64 t.col, .bool t.left, .nilSlice],0⟩).set kp ⟨[.slice lc o l.length c, .int .i64 ((i+2:Nat):Int)],0⟩:=⟨_,rfl⟩
    refine BG (h':=G0) (by rw[hG0];first|exact Vl _|(rw[Vh];exact Vl _)) ?_;have hs_G0:Sub B G0:=by rw[hG0];exact zqB
    have eb_p:G0 kp=some ⟨[.slice lc o l.length c, .int .i64 ((i+2:Nat):Int)],0⟩:=by rw[hG0];exact Vd _ _ _
    have eb_0q0:G0 k0q0=some ⟨[.int .u8 0, .str [], .int .i64 0, .int .i64 0, .bool false, .nilSlice],0⟩:=by rw[hG0];exact zqA
    have eb_3q11:G0 k3q11=some ⟨[.int .u8 t.kind.toNat, .str t.text, .int .i64 t.line, .int .i64 t.col, .bool t.left, .nilSlice],0⟩:=by rw[hG0];exact zqA
    have hdG0:Sub (H.del kp) G0:=by rw[hG0];exact ZK (hd3.trans (Vg hn_3q11)) (Yg kp) _
    clear hG0;refine awp_rseq [0,2,4,5] (by rfl) fun K hK=>?_;simp+decide only[qa,ev,qI,qG,putD,VM,VN,Ka,true_and,↓qd,qb];apply hK;clear hK K;refine Qj ?_;refine Xj [0,2,4,5] (fun g:Bool×StG=>[(0, .ptr (.own kp) 0),(2, .ptr (.own k0q0) 0),(4, .ptr (.own k3q11) 0),(5, .bool g.1)]) (fun g:Bool×StG=>QG g.2.G g.2.pb) (fun g:Bool×StG=>StOk wz H B kp k0q0 k3q11 (.slice lc o l.length c) l t g.2/\P=qbl l g.2.at_ g.1 (g.2.qs.map (·.1))) (fun g:Bool×StG=>l.length-g.2.at_) ⟨true,⟨i+2,G0,none,[]⟩⟩ (by rfl) (Vl _) ⟨⟨by simp only;omega,hdG0,eb_p,eb_0q0,eb_3q11,trivial,rfl,(fun q hq=>by cases hq),Js _⟩,hPr⟩ ?_;rintro⟨first,⟨at_,G,pb,qs⟩⟩ ⟨⟨g1,g2,g3,g4,g5,g6,g7,g8,g9⟩,hPr⟩;simp only at g1 g2 g3 g4 g5 g6 g7 g8 g9 hPr|-
    obtain⟨H7,hH7⟩:∃H7,H7=QG G pb:=⟨_,rfl⟩
    have hs_H7:Sub B H7:=by rw[hH7];exact(hsB.trans g2).trans (BH g6)
    have eb_p:H7 kp=some ⟨[.slice lc o l.length c, .int .i64 at_],0⟩:=by rw[hH7];exact ZE g6 g3
    have eb_0q0:H7 k0q0=some ⟨[.int .u8 0, .str [], .int .i64 0, .int .i64 0, .bool false, .nilSlice],0⟩:=by rw[hH7];exact ZE g6 g4
    have eb_3q11:H7 k3q11=some ⟨[.int .u8 t.kind.toNat, .str t.text, .int .i64 t.line, .int .i64 t.col, .bool t.left,QH 2 pb],0⟩:=by rw[hH7];exact ZE g6 g5
    have hbl:=QW 2 pb;rw[<-hH7];refine qJ ?_;refine qef [0,1,2,3,4,5,6,7,8,9,10,11,12,13,14,15,16,17,18] [none,none,none,none,none,none,none,none,none,none,none,none,none,none,none,some 14,some 15,some 16,some 17] 19 [0,2,4,51] mixed (by kernel_rfl) (by rfl) fun K hK=>?_;simp only[Yl,VI,Ee,Ky,KL];simp+decide only[qa,ev,putD,VM,VO,Ka,true_and,qbJ,qck,Un,↓qg,qc,↓Xe,agP,Qw,qO,qK,Xf,YJ,qD,Qh,qon,implies_true,↓Yi,qV,Qt,qbr,qbs,↓Xl,qm,YR,Zn,Zo,↓Zg,XN,YT,qcK,qz ag3,qak,qz UU,↓qcr,Qv,Ze Tryz.underlying26,qgi,qgj,↓Xd,ql,qP,cond_false,Zi,qbb,Zj,qbc,qo,XD,QC wz eb_p,VX,Km,Jr,qi,hlv];refine qiI (cs:=byteCells [6]) (g:=QE (!first) (.bool (decide ((at_:Int)<l.length)))) (by rfl) (Xf _ _) (fun _=>by kernel_rfl) fun k7q14 h7q14 hs7 hb7=>?_;have hs_h7q14:Sub B h7q14:=BJ zqC hs7;have hr_h7q14:Sub H7 h7q14:=BJ zqC hs7;have eb_p:=hs7 kp _ zqA;have eb_0q0:=hs7 k0q0 _ zqA;have eb_3q11:=hs7 k3q11 _ zqA;rw[qa];refine And.intro (by first|exact Vl _|assumption|exact Vg (by assumption)) ?_;simp+decide only[putD,VM,if_false,qD,YJ]
    (refine Zp (V:= .bool (XJ l at_ [6])) (f:=_) (cap:=_) (xs:=_) (by first|rfl|(simp+decide only[gv,qO,VO,Ka,Xf])) (fun hg=>⟨rfl,?_⟩) (fun hg=>qmR wz _ kp _ l at_ _ [6] zqA (hv.mono zqB) (qbz (k:=k7q14) (ks:=[6]) (hb7 hg)) (by decide)) ?_;· (simp+decide only[gv,qO,VO,Ka,qD,YJ]at hg;simp+decide only[evs,ev,VO,Ka,hg,Qz,Be,Kc,Vj]<;>try rfl))
    rw[qa];refine And.intro (by first|exact Vl _|assumption|exact Vg (by assumption)) ?_;simp+decide only[qa,ev,qI,qG,putD,VM,VO,VN,Ka,true_and,Un,gv,qO,qD,Qh,YJ,↓qcI,XW,agP,Qw,qK,Xf,implies_true,Yc,qlM,qlN,↓qcJ,Qy,Qk,Zm,qhp,Xv,ZC,qhn,qho,↓Xa];apply hK;clear hK K;refine qH (b:=_) rfl (fun hb3=>?_) (fun hb3=>?_)
    ·try simp only[decide_eq_true_eq,Ji,Kw,JV]at hb3
     have hst:=qeG g1 first (qs.map (·.1))
     have hc3:first=true\/(at_<l.length/\XJ l at_ [6]=false):=by
      rcases hb3 with q|q
      ·exact .inl q
      ·exact .inr ⟨by omega,q.2⟩
     rw[if_pos hc3]at hst;obtain⟨p1,p2,p3⟩:=qiY (l:=l) (i:=at_) g1;obtain⟨p,hp⟩:∃p,p=YG l at_:=⟨_,rfl⟩
     rw[<-hp]at hst p1 p2 p3;refine qN ?_;change Awp _ _ _ _ _ _ _;refine qJ ?_;refine Qj ?_;refine awp_rseq [0,2,4,6,7] (by rfl) fun K hK=>?_;simp+decide only[ev,putD,VM,VO,Ka,true_and,↓qg,qc];refine QR (by rfl) (by rfl) (c_pair wz _ B kp _ l at_ zqA zqB hb hv (by omega) g1) fun x9q1 h9q1 hx9q1=>?_;rw[<-hp]at hx9q1;obtain⟨⟨ov,nw,rfl,hso,hsn,hrep⟩,rfl⟩:=hx9q1;have hlo:=ZU hso;have hln:=ZU hsn;simp+decide only[ev,putD,VM,VO,Ka,true_and,↓qg,qc,↓QV,QJ,QU,KX,J8,VX,Km,VX,Km,Jr,Nat.reduceAdd];refine Qi ze46 (cs:=[.nilSlice, .nilSlice]) (by rfl) fun k9q5 hk9q5=>?_;have hn_9q5:h7q14 k9q5=none:=by first|assumption|(simp only[V7]at hk9q5;simp only[hk9q5])
     have hf_9q5:B k9q5=none:=Bg hs_h7q14 hn_9q5;have ne_9q5_p:k9q5≠kp:=Bh hn_9q5 eb_p;have ne_9q5_0q0:k9q5≠k0q0:=Bh hn_9q5 eb_0q0;have ne_9q5_3q11:k9q5≠k3q11:=Bh hn_9q5 eb_3q11;refine qp (by rfl) (by rfl) zqA qeu (by rfl) (by rfl) zqD (Js _) (by first|rfl|(simp+decide only[ev,putD,VM,VO,Ka,VV,Qr,JS,hso,hsn])) ?_;simp only[Vh,VV];simp+decide only[qa,ev,putD,VM,VO,VN,Ka,true_and,↓qd,qb,setAt,VW,Ki,Jr];apply hK;clear hK K;refine qJ ?_;refine awp_rseq [0,2,4,6,58] (by rfl) fun K hK=>?_;simp+decide only[qa,ev,putD,VM,VO,VN,Ka,true_and,↓qg,qc,↓Yj,XW,Yc];apply hK;clear hK K;refine qH (b:=_) rfl (fun hb4=>?_) (fun hb4=>?_)
     ·try simp only[Ji]at hb4
      rw[if_pos (by simpa using hb4)]at hst;rw[hPr,hst]at ho;refine awp_rseq [2,3] (by rfl) fun K hK=>?_;simp+decide only[ev,qI,qG,putD,VM,VO,if_false,true_and,↓Qo,↓qZ,qic,evP,Vj];refine qp (by rfl) (by rfl) zqA qae (by rfl) (by rfl) zqD (Js _) (by first|rfl|(simp+decide only[ev,putD,VM,VO,Ka,VV,Qr,JS,Vf,hso,hsn,XU,XA,XB,Xh])) ?_;simp only[VV];simp+decide only[qa,ev,qI,qG,putD,VM,VO,VN,Ka,true_and,↓qd,qb,setAt,VW,Ki,Jr,Nat.reduceAdd];apply hK;clear hK K;refine qL ?_;try simp only[Qg,Qn]
      refine QF (?_) ?_
      ·simp+decide only[QD,qA,qj,VO,Ka,and_true,qA,qj,qh qeh qae,Qa,qf,VX,Km,Jr,Nat.reduceAdd,qC,qi,qE,QK,allLive,JS,qf,VX,Km,Jr,Nat.reduceAdd,qC,qi,qE,QK,allLive,JS]
      simp+decide only[VO,Ka,Xg,qA,qj,qh qeh qae,Qa,qf,VX,Km,Jr,Nat.reduceAdd,qC,qi,qE,QK,allLive,JS,qf,VX,Km,Jr,Nat.reduceAdd,qC,qi,qE,QK,allLive,JS];have hsG:Sub G h7q14:=(show Sub G H7 by rw[hH7];exact BH g6).trans hs7;have ho':O=qdj p.at_:=by rw[ho];rfl
      rw[ho'];refine⟨(G.set kp ⟨[.slice lc o l.length c, .int .i64 p.at_],0⟩).set k0q0 ⟨[.int .u8 0, .str [], .int .i64 0, .int .i64 0, .bool false, .nilSlice],0⟩,?_,?_⟩
      ·exact V9 (V3 (V9 hsG _ _) ((Vb _ _ ne_9q5_p).trans (Bg hsG hn_9q5))) _ _
      ·exact⟨ZK (ZK g2 (Yg kp) _) hd0 _,(Vb _ _ ne_0q0_p.symm).trans (Vd _ _ _), .nilSlice,B,rfl,NewE.refl _ _,hsB.trans (ZK (ZK g2 (Yg kp) _) hd0 _),IsReps.none⟩
     ·try simp only[VS]at hb4
      have hok:p.ok=true:=by simpa using hb4
      rw[if_neg (by rw[hok];decide)]at hst;have hsG:Sub G h7q14:=(show Sub G H7 by rw[hH7];exact BH g6).trans hs7;have hrp:=hrep hok;have p4:=(p3 hok).1;refine qN ?_;change Awp _ _ _ _ _ _ _;refine XE [0,2,4] (by rfl) ?_;simp+decide only[ev,putD,VM,VO,Ka,true_and,↓qB,qm,qpG,↓qF,qY,qz ag43,qh qoJ qeu,QZ,ne_eq,not_false_eq_true,ne_9q5_3q11.symm,QC wz eb_3q11,ne_3q11_p,QN,qf,VX,Km,Jr,allLive,JS,hbl,hlo,hln];refine QA (cs:=[ov,nw]) (by kernel_rfl) fun k12q3 hk12q3=>?_;have ne_12q3_9q5:k12q3≠k9q5:=by simp only[V7]at hk12q3;simp only[hk12q3,ne_eq,not_false_eq_true]
      have hn_12q3:h7q14 k12q3=none:=by first|assumption|(simp only[V7]at hk12q3;simp only[hk12q3])
      have hf_12q3:B k12q3=none:=Bg hs_h7q14 hn_12q3;have ne_12q3_p:k12q3≠kp:=Bh hn_12q3 eb_p;have ne_12q3_0q0:k12q3≠k0q0:=Bh hn_12q3 eb_0q0;have ne_12q3_3q11:k12q3≠k3q11:=Bh hn_12q3 eb_3q11;refine XH (es:=2) (zs:=qs.map Uz) (xs:=[[ov,nw]]) (hZ:=G.set kp ⟨[.slice lc o l.length c, .int .i64 p.at_],0⟩) (b:=pb) (by rfl) (by rfl) Tryz.underlying43 Tryz.underlying43 (fun k e=>by cases e) qeu by46 ze46 (by rfl) (by decide) (by rfl) (ZY g6 g3 _) g7 qga (by rw[<-YW g6 g3,<-hH7];exact V3 (V3 (V9 hs7 _ _) ((Vb _ _ ne_9q5_p).trans (Bg hs7 hn_9q5))) ((Vb _ _ ne_12q3_p).trans (Bg hs7 hn_12q3))) (by rfl) (V8 (Vd _ _ _) (by simp) (by rfl) (by simp[allLive,hlo,hln]) (.exact 1) (KJ _)) (by simp[Qr,hso,hsn]) (by simp;omega) (by simp;omega) fun pb2 h12 o1 o2 o3=>?_;have eb12:h12 k3q11=some ⟨[.int .u8 t.kind.toNat, .str t.text, .int .i64 t.line, .int .i64 t.col, .bool t.left,QH 2 pb],0⟩:=o3 _ _ (ZE o1 ((Vb _ _ ne_3q11_p).trans g5));simp+decide only[ev,putD,VM,VO,Ka,true_and,↓qB,qm,qpG,Jr];refine qp (v:=QH 2 pb2) (by rfl) (by rfl) eb12 sz43 (QW _ _) (by rw[Ue];rfl) (KJ _) (Js _) (by rw[Ue];simp[Qr,XU]) ?_;simp only[setAt,Ue];simp+decide only[qa,putD,VN,Ka];change Awp _ _ _ _ _ _ _;refine XE [0,2,4,5] (by rfl) ?_;simp+decide only[qa,ev,qI,qG,putD,VM,VN,Ka,true_and,↓qd,qb];try simp only[Qf]
      exact⟨(false,⟨p.at_,(G.set kp ⟨[.slice lc o l.length c, .int .i64 p.at_],0⟩).set k3q11 ⟨[.int .u8 t.kind.toNat, .str t.text, .int .i64 t.line, .int .i64 t.col, .bool t.left,QH 2 pb2],0⟩,pb2,qs++[(p.rep,ov,nw)]⟩),rfl,by rw[<-YW o1 ((Vb _ _ ne_3q11_p).trans g5)];exact V9 o3 _ _,⟨⟨p2,ZK (ZK g2 (Yg kp) _) (by simp[Vk,ne_3q11_p,hn3H]) _,(Vb _ _ ne_3q11_p.symm).trans (Vd _ _ _),(Vb _ _ ne_3q11_0q0.symm).trans ((Vb _ _ ne_0q0_p).trans g4),Vd _ _ _,ZY o1 ((Vb _ _ ne_3q11_p).trans g5) _,by rw[o2,Ba];rfl,fun q hq=>by
       rcases JI.1 hq with z|z
       ·exact g8 q z
       ·rw[BD.1 z];exact hrp,by(simp only[Jb,KX,J8];omega)⟩,by simp only;rw[hPr,hst,Ba];rfl⟩,by simp only;omega⟩
    ·try simp only[decide_eq_false_iff_not,VS,VP,VQ]at hb3
     have hst:=qeG g1 first (qs.map (·.1))
     have hc3:¬(first=true\/(at_<l.length/\XJ l at_ [6]=false)):=by
      rintro(q|⟨q1,q2⟩)
      ·rw[q]at hb3
       exact absurd hb3.1 (by decide)
      ·rcases hb3.2 with z|z
       ·omega
       ·rw[q2]at z;cases z
     rw[if_neg hc3]at hst;rw[hst]at hPr;refine Xm ?_;first
     |exact⟨⟨at_,G,pb,qs⟩,rfl,by rw[hH7]at hs7;exact hs7,⟨g1,g2,g3,g4,g5,g6,g7,g8,g9⟩,hPr⟩
     |exact⟨⟨i+1,(H3.set k3q11 ⟨[.int .u8 t.kind.toNat, .str t.text, .int .i64 t.line, .int .i64 t.col, .bool t.left, .nilSlice],0⟩).set kp ⟨[.slice lc o l.length c, .int .i64 ((i+1:Nat):Int)],0⟩,none,[]⟩,rfl,(by first|exact Vl _|(simp only[QG,Vh];exact Vl _)),⟨by(simp only;omega),ZK (hd3.trans (Vg hn_3q11)) (Yg kp) _,Vd _ _ _,zqA,zqA,trivial,rfl,(fun q hq=>by cases hq),Js _⟩,hP⟩
   ·skip
    rw[if_neg (by rw[hb2];decide)]at hP;rw[hb2,if_neg (by decide)];refine qN ?_;try simp only[Qf]
    first
    |exact⟨⟨at_,G,pb,qs⟩,rfl,by rw[hH7]at hs7;exact hs7,⟨g1,g2,g3,g4,g5,g6,g7,g8,g9⟩,hPr⟩
    |exact⟨⟨i+1,(H3.set k3q11 ⟨[.int .u8 t.kind.toNat, .str t.text, .int .i64 t.line, .int .i64 t.col, .bool t.left, .nilSlice],0⟩).set kp ⟨[.slice lc o l.length c, .int .i64 ((i+1:Nat):Int)],0⟩,none,[]⟩,rfl,(by first|exact Vl _|(simp only[QG,Vh];exact Vl _)),⟨by(simp only;omega),ZK (hd3.trans (Vg hn_3q11)) (Yg kp) _,Vd _ _ _,zqA,zqA,trivial,rfl,(fun q hq=>by cases hq),Js _⟩,hP⟩
  ·rintro⟨at_,G,pb,qs⟩ ⟨⟨g1,g2,g3,g4,g5,g6,g7,g8,g9⟩,hPe⟩
   simp only at g1 g2 g3 g4 g5 g6 g7 g8 g9 hPe|-
   rw[hPe]at ho;obtain⟨H7,hH7⟩:∃H7,H7=QG G pb:=⟨_,rfl⟩
   have hs_H7:Sub B H7:=by rw[hH7];exact(hsB.trans g2).trans (BH g6)
   have hsG:Sub G H7:=by rw[hH7];exact BH g6
   have eb_p:H7 kp=some ⟨[.slice lc o l.length c, .int .i64 at_],0⟩:=by rw[hH7];exact ZE g6 g3
   have eb_0q0:H7 k0q0=some ⟨[.int .u8 0, .str [], .int .i64 0, .int .i64 0, .bool false, .nilSlice],0⟩:=by rw[hH7];exact ZE g6 g4
   have eb_3q11:H7 k3q11=some ⟨[.int .u8 t.kind.toNat, .str t.text, .int .i64 t.line, .int .i64 t.col, .bool t.left,QH 2 pb],0⟩:=by rw[hH7];exact ZE g6 g5
   have hbl:=QW 2 pb;rw[<-hH7];refine qJ ?_;skip;refine awp_rseq [0,2,4,69] (by rfl) fun K hK=>?_;simp+decide only[ev,putD,VM,VO,Ka,true_and,↓qg,qc];refine QA (cs:=byteCells [6]) (by kernel_rfl) fun k13q1 hk13q1=>?_;have hn_13q1:H7 k13q1=none:=by first|assumption|(simp only[V7]at hk13q1;simp only[hk13q1])
   have hf_13q1:B k13q1=none:=Bg hs_H7 hn_13q1;have ne_13q1_p:k13q1≠kp:=Bh hn_13q1 eb_p;have ne_13q1_0q0:k13q1≠k0q0:=Bh hn_13q1 eb_0q0;have ne_13q1_3q11:k13q1≠k3q11:=Bh hn_13q1 eb_3q11;refine qM (V:= .bool (XJ l at_ [6])) (by rfl) (by rfl) (qmR wz _ kp _ l at_ _ [6] zqA (hv.mono zqB) (qbz (k:=k13q1) (ks:=[6]) zqA) (by decide)) ?_;simp+decide only[qa,ev,putD,VM,VO,VN,Ka,true_and,↓Yj,XW,Yc];apply hK;clear hK K;refine qH (b:=_) rfl (fun hb5=>?_) (fun hb5=>?_)
   ·try simp only[Ji]at hb5
    refine awp_rseq [2,3] (by rfl) fun K hK=>?_;simp+decide only[ev,qI,qG,putD,VM,VO,if_false,true_and,↓Qo,↓qZ,qic,evP,Vj];refine qp (by rfl) (by rfl) zqA qae (by rfl) (by rfl) zqD (Js _) (by first|rfl|(simp+decide only[ev,putD,VM,VO,Ka,VV,Qr,JS,Vf,hso,hsn,XU,XA,XB,Xh])) ?_;simp only[VV];simp+decide only[qa,ev,qI,qG,putD,VM,VO,VN,Ka,true_and,↓qd,qb,setAt,VW,Ki,Jr,Nat.reduceAdd];apply hK;clear hK K;refine qL ?_;try simp only[Qg]
    refine QF (?_) ?_
    ·simp+decide only[QD,qA,qj,VO,Ka,and_true,qA,qj,qh qeh qae,Qa,qf,VX,Km,Jr,Nat.reduceAdd,qC,qi,qE,QK,allLive,JS,qf,VX,Km,Jr,Nat.reduceAdd,qC,qi,qE,QK,allLive,JS]
    simp+decide only[VO,Ka,Xg,qA,qj,qh qeh qae,Qa,qf,VX,Km,Jr,Nat.reduceAdd,qC,qi,qE,QK,allLive,JS,qf,VX,Km,Jr,Nat.reduceAdd,qC,qi,qE,QK,allLive,JS];have ho':O=qdj at_:=by
     rw[ho];unfold Yu;simp only[hb5,if_true,Eg,if_false]
    rw[ho'];exact⟨G.set k0q0 ⟨[.int .u8 0, .str [], .int .i64 0, .int .i64 0, .bool false, .nilSlice],0⟩,V9 (V3 hsG (Bg hsG hn_13q1)) _ _,ZK g2 hd0 _,(Vb _ _ ne_0q0_p.symm).trans g3, .nilSlice,B,rfl,NewE.refl _ _,hsB.trans (ZK g2 hd0 _),IsReps.none⟩
   ·try simp only[VS]at hb5
    have ho':O=⟨true,t,qs.map (·.1),at_+1⟩:=by
     rw[ho];unfold Yu;simp only[hb5,if_false,Eg]
    refine qN ?_;change Awp _ _ _ _ _ _ _;refine awp_rseq [2,4] (by rfl) fun K hK=>?_;simp+decide only[ev,qI,qG,putD,VM,VO,Ka,true_and,↓qg,qc,↓Ql,qV,Qt,↓qB,qm,YR,↓qF,qY,qz ag3,↓qw,ql,qy,cond_false,qo,QS,QZ,ne_eq,not_false_eq_true,ne_13q1_p.symm,QC wz eb_p,VX,Km,Jr,qi];try simp(disch:=omega)only[wrap_i64]
    refine qp (by rfl) (by rfl) zqA sz3 (by rfl) (by rfl) zqD (Js _) (by first|rfl|(simp+decide only[ev,putD,VM,VO,Ka,VV,Qr,JS,Vf,hso,hsn,XU,XA,XB,Xh])) ?_;simp only[VV];simp+decide only[qa,ev,putD,VO,VN,Ka,setAt,VW,Ki];apply hK;clear hK K;refine awp_rseq [2,3] (by rfl) fun K hK=>?_;simp+decide only[ev,putD,VM,VO,Ka,true_and,↓qF,qY,qh qeh qae,QZ,ne_eq,not_false_eq_true,ne_13q1_3q11.symm,QC wz eb_3q11,ne_3q11_p,qf,VX,Km,Jr,Nat.reduceAdd,qC,qi,qE,allLive,JS,hbl];refine qp (by rfl) (by rfl) zqA qae (by rfl) (by rfl) zqD (Js _) (by first|rfl|(simp+decide only[ev,VO,Ka,VV,Qr,JS,XU,XA,XB,Xh])) ?_;simp only[VV];simp+decide only[qa,ev,qI,qG,putD,VM,VO,VN,Ka,true_and,↓qd,qb,setAt,VW,Ki,Jr,Nat.reduceAdd];apply hK;clear hK K;refine qL ?_;refine QF (?_) ?_
    ·simp+decide only[QD,qA,qj,VO,Ka,and_true,qA,qj,qh qeh qae,Qa,qf,VX,Km,Jr,Nat.reduceAdd,qC,qi,qE,allLive,JS,qf,VX,Km,Jr,Nat.reduceAdd,qC,qi,qE,allLive,JS,hbl]
    simp+decide only[VO,Ka,Xg,qA,qj,qh qeh qae,Qa,qf,VX,Km,Jr,Nat.reduceAdd,qC,qi,qE,allLive,JS,qf,VX,Km,Jr,Nat.reduceAdd,qC,qi,qE,allLive,JS,hbl];rw[ho'];have k1:bufOk ((G.set kp ⟨[.slice lc o l.length c, .int .i64 ((at_+1:Nat):Int)],0⟩).set k0q0 ⟨[.int .u8 t.kind.toNat, .str t.text, .int .i64 t.line, .int .i64 t.col, .bool t.left,QH 2 pb],0⟩) 2 pb:=ZY (ZY g6 g3 _) ((Vb _ _ ne_0q0_p).trans g4) _;have k2:bufOk B 2 pb:=g6.sub (hsB.trans g2);have k3:=(newE_buf (B:=B) g6 g2 g3).resolve_right (fun n=>n k2);refine⟨QG ((G.set kp ⟨[.slice lc o l.length c, .int .i64 ((at_+1:Nat):Int)],0⟩).set k0q0 ⟨[.int .u8 t.kind.toNat, .str t.text, .int .i64 t.line, .int .i64 t.col, .bool t.left,QH 2 pb],0⟩) pb,?_,?_,?_,QH 2 pb,QG B pb,rfl,k3,?_,qs,rfl,BF k2 (by decide) g7 qga (Vl _),fun q hq=>(g8 q hq).mono k3.sub⟩
    ·rw[<-YW (ZY g6 g3 _) ((Vb _ _ ne_0q0_p).trans g4),<-YW g6 g3,<-hH7]
     exact V9 (V9 (Vg hn_13q1) _ _) _ _
    ·exact(ZK (ZK g2 (Yg kp) _) hd0 _).trans (BH k1)
    ·exact ZE k1 ((Vb _ _ ne_0q0_p.symm).trans (Vd _ _ _))
    ·exact Sub.bufBoth (hsB.trans (ZK (ZK g2 (Yg kp) _) hd0 _))
end Go.Proofs.YtlhhaagmakhilaaGreatDoor
namespace Go.Proofs.YtlhhaagmakhilaaGreatDoor
open Go.AM
open Go.Proofs
open Go.Col
open Go.Tok
open Go.Cop
open Go.RowKit (Below)
set_option maxRecDepth 100000
theorem qhZ{l:List TokC}{i:Nat}(hi:i<l.length):Xy l i=if Zt l i COPY=true then i else Xy l (i+1):=by
 have hw:Zt l i COPY=(decide ((l.getD i noT).kind=1) && decide ((l.getD i noT).text=COPY)):=by
  unfold Zt XJ;rw[decide_eq_true hi,Vf];congr 1;simp
 unfold Xy;rw[qhT noT hi,BX,hw];cases (decide ((l.getD i noT).kind=1) && decide ((l.getD i noT).text=COPY))with
 |true=>simp
 |false=>
  simp only[Ef,if_true,KV,if_false,KX];omega
theorem qop{l:List TokC}{i:Nat}(hi:l.length<=i):Xy l i=i:=by
 unfold Xy;rw[Vt hi];rfl
theorem NewE.none{B H E:AHeap}(h:NewE B H E){k:Nat}{c:Blk}(hk:H k=some c)(hb:B k=Option.none):E k=Option.none:=h.off k (by rw[hk];exact fun e=>by cases e) hb
def qgP(b:AVal)(t:TokC)(rv:AVal)(more:Bool)(f:FaultC):AVal:= .tuple [b, .agg (qkP t rv), .bool more,Qu f]
def NextR(wz:World)(H B:AHeap)(kp:Nat)(v:AVal)(l:List TokC)(i:Nat)(r:AVal)(h':AHeap):Prop:=
 Sub (H.del kp) h'/\∃j:Nat,h' kp=some ⟨[v, .int .i64 j],0⟩/\j<=l.length/\
  ((l.length<=Xy l i/\∃bv,r=qgP bv noT .nilSlice false okF/\IsL wz B 5 bv ((l.drop i).map QM))\/
   (Xy l i<l.length/\(QL l (Xy l i+1)).ok=false/\r=qgP .nilSlice noT .nilSlice false (Ut l (Xy l i) (QL l (Xy l i+1)).at_))\/
   (Xy l i<l.length/\(QL l (Xy l i+1)).ok=true/\j=(QL l (Xy l i+1)).at_/\∃bv rv E,r=qgP bv (QL l (Xy l i+1)).name rv true okF/\IsL wz B 5 bv ((qal l i (Xy l i)).map QM)/\NewE B H E/\Sub E h'/\IsReps wz E rv (QL l (Xy l i+1)).reps))
set_option maxHeartbeats 2000000 in
theorem qrY(wz:World)(H B:AHeap)(kp:Nat)(v:AVal)(l:List TokC)(i:Nat)(eb_p:H kp=some ⟨[v, .int .i64 i],0⟩)(hs_H:Sub B H)(hb:B kp=none)(hv:IsL wz B 5 v (l.map QM))(hl:l.length<=1000000)(hi:i<=l.length):
 ACall Tryz.prog wz 43 [.ptr (.own kp) 0] H (NextR wz H B kp v l i):=by
 have hlv:=hv.live;have nv:=XY hv;have hdel:Sub (H.del kp) H:=fun j b hj=>by
  by_cases e:j=kp
  ·subst e;rw[Yg]at hj;cases hj
  ·simpa[Vk,e]using hj
 have hd_p:(H.del kp) kp=none:=Yg kp;have hsB:Sub B (H.del kp):=qbv hs_H hb;have hsl:∀a b,(qjn 5 v a b).live=true:=fun a b=>ZU (qcc hv ⟨true,a,b,0⟩);have hrl:(AVal.bool true).live=true:=rfl;have hrc:(AVal.bool true).scal=true:=rfl;refine qW (n:=95) (rs:=[.tmp 2, .cell 3 91, .tmp 4, .cell 5 35]) Tryz.func43 rfl rfl rfl rfl (VL rfl) ?_;simp only[Qe];refine awp_rseq [0,3,5] (by rfl) fun K hK=>?_;simp+decide only[ev,qI,qG,putD,VM,if_false,true_and,↓qd,qb];refine Qi qsi (cs:=[.int .u8 0, .str [], .int .i64 0, .int .i64 0, .bool false, .nilSlice]) (by rfl) fun k0q1 hk0q1=>?_;have hn_0q1:H k0q1=none:=by first|assumption|(simp only[V7]at hk0q1;simp only[hk0q1])
 have hf_0q1:B k0q1=none:=Bg hs_H hn_0q1;have ne_0q1_p:k0q1≠kp:=Bh hn_0q1 eb_p;simp+decide only[ev,qI,qG,putD,VM,if_false,true_and,↓qd,qb];refine Qi qap (cs:=[.int .i64 0, .int .i64 0, .int .i64 0]) (by rfl) fun k0q3 hk0q3=>?_;have ne_0q3_0q1:k0q3≠k0q1:=by simp only[V7]at hk0q3;simp only[hk0q3,ne_eq,not_false_eq_true]
 have hn_0q3:H k0q3=none:=by first|assumption|(simp only[V7]at hk0q3;simp only[hk0q3])
 have hf_0q3:B k0q3=none:=Bg hs_H hn_0q3;have ne_0q3_p:k0q3≠kp:=Bh hn_0q3 eb_p;simp+decide only[qa,putD,VM,VN,Ka];apply hK;clear hK K;obtain⟨H0,hH0⟩:∃H0,H0=(H.set k0q1 ⟨[.int .u8 0, .str [], .int .i64 0, .int .i64 0, .bool false, .nilSlice],0⟩).set k0q3 ⟨[.int .i64 0, .int .i64 0, .int .i64 0],0⟩:=⟨_,rfl⟩
 refine BG (h':=H0) (by rw[hH0];exact Vl _) ?_;have hs_H0:Sub B H0:=by rw[hH0];exact zqB
 have hd0:Sub (H.del kp) H0:=by rw[hH0];exact hdel.trans (V3 (Vg hn_0q1) hn_0q3)
 have eb_p:H0 kp=some ⟨[v, .int .i64 i],0⟩:=by rw[hH0];exact zqA
 have eb_0q1:H0 k0q1=some ⟨[.int .u8 0, .str [], .int .i64 0, .int .i64 0, .bool false, .nilSlice],0⟩:=by rw[hH0];exact zqA
 have eb_0q3:H0 k0q3=some ⟨[.int .i64 0, .int .i64 0, .int .i64 0],0⟩:=by rw[hH0];exact zqA
 have hd_0q1:(H.del kp) k0q1=none:=hdel.none hn_0q1;have hd_0q3:(H.del kp) k0q3=none:=hdel.none hn_0q3;clear hH0;refine awp_rseq [0,3,5,6] (by rfl) fun K hK=>?_;simp+decide only[qa,ev,putD,VM,VO,VN,Ka,true_and,↓qg,qc,↓Ql,qV,Qt,↓qB,qm,YR,↓qF,qY,qz ag3,↓qd,qb,QC wz eb_p,VX,Km,Jr,qi];apply hK;clear hK K;refine qJ ?_;refine Qj ?_;refine Xj [0,3,5,6] (fun j:Nat=>[(0, .ptr (.own kp) 0),(3, .ptr (.own k0q1) 0),(5, .ptr (.own k0q3) 0),(6, .int .i64 i)]) (fun j:Nat=>H0.set kp ⟨[v, .int .i64 j],0⟩) (fun j:Nat=>i<=j/\j<=l.length/\Xy l j=Xy l i) (fun j:Nat=>l.length-j) i (by rfl) (by rw[qmg eb_p];exact Vl _) ⟨KJ _,hi,rfl⟩ ?_;rintro j ⟨hj1,hj2,hj3⟩;obtain⟨H1,hH1⟩:∃H1,H1=H0.set kp ⟨[v, .int .i64 j],0⟩:=⟨_,rfl⟩
 have hs_H1:Sub B H1:=by rw[hH1];exact ZK hs_H0 hb _
 have hd1:Sub (H.del kp) H1:=by rw[hH1];exact ZK hd0 hd_p _
 have eb_p:H1 kp=some ⟨[v, .int .i64 j],0⟩:=by rw[hH1];exact Vd _ _ _
 have eb_0q1:H1 k0q1=some ⟨[.int .u8 0, .str [], .int .i64 0, .int .i64 0, .bool false, .nilSlice],0⟩:=by rw[hH1];exact zqA
 have eb_0q3:H1 k0q3=some ⟨[.int .i64 0, .int .i64 0, .int .i64 0],0⟩:=by rw[hH1];exact zqA
 rw[<-hH1];refine qJ ?_;refine Zw [0,3,5,6,23] mixed (by kernel_rfl) (by rfl) (by rfl) fun K hK=>?_;simp+decide only[qa,ev,putD,VM,VO,VN,Ka,true_and,↓qg,qc,↓Ql,qV,Qt,↓qB,qm,YR,↓qF,qY,qz ag3,qak,qz UU,↓Xc,Qv,↓qw,ql,qP,cond_false,qo,XD,QC wz eb_p,VX,Km,Jr,qi,hlv,nv];apply hK;clear hK K;refine qH (b:=_) rfl (fun hb1=>?_) (fun hb1=>?_)
 ·try simp only[decide_eq_true_eq]at hb1
  have hjl:j<l.length:=by omega
  obtain⟨W,hW⟩:∃W,W=Zt l j COPY:=⟨_,rfl⟩
  have hcs:=qhZ hjl;rw[<-hW]at hcs;refine qN ?_;change Awp _ _ _ _ _ _ _;refine Qj ?_;refine awp_rseq [0,3,5,6,7] (by rfl) fun K hK=>?_;simp+decide only[qa,ev,putD,VM,VO,VN,Ka,true_and,↓qg,qc,↓Ql,qV,Qt,↓qB,qm,YR,↓qF,qY,qz ag3,↓qd,qb,QC wz eb_p,VX,Km,Jr,qi];apply hK;clear hK K;refine qJ ?_;refine awp_rseq [0,3,5,6,7,30] (by rfl) fun K hK=>?_;simp+decide only[ev,putD,VM,VO,Ka,true_and,↓qg,qc];refine QR (by rfl) (by rfl) (qmP wz _ B kp _ l j COPY zqA zqB hv (by omega)) fun x4q1 h4q1 hx4q1=>?_;rw[<-hW]at hx4q1;obtain⟨rfl,rfl⟩:=hx4q1;simp+decide only[qa,ev,putD,VM,VO,VN,Ka,true_and,↓Yj,XW,Yc];apply hK;clear hK K;refine qH (b:=_) rfl (fun hb2=>?_) (fun hb2=>?_)
  ·try simp only[Ji]at hb2
   rw[if_neg (by simpa using hb2)]at hcs;have hWf:W=false:=by simpa using hb2
   rw[hWf,if_neg (by decide)];refine awp_rseq [0,3,5,6] (by rfl) fun K hK=>?_;simp+decide only[ev,qI,qG,putD,VM,VO,Ka,true_and,↓qg,qc,↓Ql,qV,Qt,↓qB,qm,YR,↓qF,qY,qz ag3,↓qw,ql,qy,cond_false,qo,QS,QN,VX,Km,Jr,qi];try simp(disch:=omega)only[wrap_i64]
   refine qp (by rfl) (by rfl) zqA sz3 (by rfl) (by rfl) zqD (Js _) (by first|rfl|(simp+decide only[ev,putD,VM,VO,Ka,VV,Qr,JS,Vf,hrc,XA,XB,Xh])) ?_;simp only[Vh,VV];simp+decide only[qa,ev,putD,VO,VN,Ka,setAt,VW,Ki];apply hK;clear hK K;refine Xm ?_;exact⟨j+1,rfl,by(rw[hH1];simp only[Vh];exact Vl _),⟨by omega,hjl,by rw[<-hcs];exact hj3⟩,by omega⟩
  ·try simp only[VS]at hb2
   rw[if_pos (by simpa using hb2)]at hcs;have hci:Xy l i=j:=by rw[<-hj3];exact hcs
   have hWt:W=true:=by simpa using hb2
   rw[hWt,if_pos rfl];refine qN ?_;change Awp _ _ _ _ _ _ _;refine awp_rseq [0,3,5,6,7,8,9] (by rfl) fun K hK=>?_;simp+decide only[ev,putD,VM,VO,Ka,true_and,↓qg,qc];refine QR (by rfl) (by rfl) (qou wz _ B kp v l (j+1) zqA zqB hb hv hl (by omega)) fun x6q1 h6q1 hx6q1=>?_;obtain⟨st,hst⟩:∃st,st=QL l (j+1):=⟨_,rfl⟩
   rw[<-hst]at hx6q1;obtain⟨hsub6,eb_p,rv,E,rfl,hE6,hE6s,hrp⟩:=hx6q1;have hstm:=We (l:=l) (i:=j+1) (by omega);rw[<-hst]at hstm;have hd6':Sub (H.del kp) ((H1.set kp ⟨[v, .int .i64 ((j+1:Nat):Int)],0⟩).del kp):=qbv (ZK hd1 hd_p _) hd_p;have hd6:Sub (H.del kp) h6q1:=hd6'.trans hsub6;have hs_h6q1:Sub B h6q1:=(qbv (ZK hs_H1 hb _) hb).trans hsub6;have he_0q1:E k0q1=none:=hE6.none ((Vb _ _ ne_0q1_p).trans eb_0q1) hf_0q1;have he_0q3:E k0q3=none:=hE6.none ((Vb _ _ ne_0q3_p).trans eb_0q3) hf_0q3;have he_p:E kp=none:=hE6.none (Vd _ _ _) hb;have hE:NewE B H E:=⟨hE6.sub,fun q h1 h2=>hE6.off q (fun e=>by
    by_cases e2:q=kp
    ·subst e2;rw[Vd]at e;cases e
    ·have:(H.del kp) q=none:=(ZK hd1 hd_p _).none e
     simp only[Vk,e2,if_false]at this;exact h1 this) h2⟩
   have eb_0q1:h6q1 k0q1=some ⟨[.int .u8 0, .str [], .int .i64 0, .int .i64 0, .bool false, .nilSlice],0⟩:=hsub6 _ _ (by rw[Eh];simp only[Vk,ne_0q1_p,if_false];exact eb_0q1);have eb_0q3:h6q1 k0q3=some ⟨[.int .i64 0, .int .i64 0, .int .i64 0],0⟩:=hsub6 _ _ (by rw[Eh];simp only[Vk,ne_0q3_p,if_false];exact eb_0q3);have hrc:rv.scal=true:=by obtain⟨qs,-,q2,-⟩:=hrp;exact q2.scal
   have hrl:=ZU hrc;unfold qkP;simp+decide only[ev,putD,VM,VO,Ka,true_and,↓qg,qc,↓QV,QJ,QU,KX,J8,VX,Km,VX,Km,Jr,Nat.reduceAdd];refine Qi qsi (cs:=[.int .u8 0, .str [], .int .i64 0, .int .i64 0, .bool false, .nilSlice]) (by rfl) fun k6q5 hk6q5=>?_;have hn_6q5:h6q1 k6q5=none:=by first|assumption|(simp only[V7]at hk6q5;simp only[hk6q5])
   have hf_6q5:B k6q5=none:=Bg hs_h6q1 hn_6q5;have ne_6q5_p:k6q5≠kp:=Bh hn_6q5 eb_p;have ne_6q5_0q1:k6q5≠k0q1:=Bh hn_6q5 eb_0q1;have ne_6q5_0q3:k6q5≠k0q3:=Bh hn_6q5 eb_0q3;refine qp (by rfl) (by rfl) zqA qae (by rfl) (by rfl) zqD (Js _) (by first|rfl|(simp+decide only[ev,putD,VM,VO,Ka,VV,Qr,JS,hrc,XA,XB,Xh])) ?_;simp only[Vh,VV];simp+decide only[qa,ev,putD,VM,VO,VN,Ka,true_and,↓qd,qb,setAt,VW,Ki,Jr,Nat.reduceAdd];apply hK;clear hK K;refine qJ ?_;refine awp_rseq [0,3,5,6,7,8,44] (by rfl) fun K hK=>?_;simp+decide only[qa,ev,putD,VM,VO,VN,Ka,true_and,↓qg,qc,↓Yj,XW,Yc];apply hK;clear hK K;refine qH (b:=_) rfl (fun hb3=>?_) (fun hb3=>?_)
   ·try simp only[Ji]at hb3
    have hok:st.ok=false:=by simpa using hb3
    obtain⟨lc,o,c,rfl⟩:=Wd hv (by omega);refine BG (h':=h6q1) (Vg hn_6q5) ?_;obtain⟨-,-,e2,e3,-⟩:=YL (hv.mono hs_h6q1) hjl;have e3':rd wz h6q1 lc (o+j*5+2+1)= .int .i64 (l.getD j XZ).col:=e3;refine awp_rseq [0,3,5] (by rfl) fun K hK=>?_;simp+decide only[ev,qI,qG,putD,VM,VO,Ka,true_and,↓qg,qc,↓Ql,qV,Qt,↓qB,qm,qak,↓qF,qY,qz UU,↓Qp,qU Tryz.underlying26 Xb,qeZ,qh qfg qbe,↓Qo,↓qZ,WL,evP,Kc,Vj,QC wz eb_p,qf,VX,Jr,qi,allLive,JS,hlv,e2,e3',Vq];repeat (with_reducible refine And.intro ?_ ?_;· first|trivial|omega|(intro hg;simp only[Kw,JV,Ji,VP,VQ,VS,decide_eq_true_eq,decide_eq_false_iff_not,XK]at hg;omega))
    refine qp (by rfl) (by rfl) zqA QI (by rfl) (by rfl) zqD (Js _) (by first|rfl|(simp+decide only[ev,putD,VM,VO,Ka,VV,Qr,JS,Vf,hrc,XA,XB,Xh])) ?_;simp only[VV];simp+decide only[qa,ev,putD,VO,VN,Ka,setAt,VW,Ki,Jr,Nat.reduceAdd];apply hK;clear hK K;refine qJ ?_;refine Zw [0,3,5,63] mixed (by kernel_rfl) (by rfl) (by rfl) fun K hK=>?_;simp+decide only[qa,ev,putD,VM,VO,VN,Ka,true_and,↓qg,qc,↓Ql,qV,Qt,↓qB,qm,YR,↓qF,qY,qz ag3,qak,qz UU,↓Xc,Qv,Ze Tryz.underlying26,↓qw,ql,qP,cond_false,qo,XD,QZ,ne_eq,not_false_eq_true,QC wz eb_p,ne_0q3_p.symm,VX,Km,Jr,qi,hlv];apply hK;clear hK K;refine qH (b:=_) rfl (fun hb4=>?_) (fun hb4=>?_)
    ·try simp only[decide_eq_true_eq]at hb4
     have hat:st.at_<l.length:=by omega
     obtain⟨-,-,d2,d3,-⟩:=YL (hv.mono (ZK hs_h6q1 hf_0q3 ⟨[.int .i64 4, .int .i64 (l.getD j XZ).line, .int .i64 (l.getD j XZ).col],0⟩)) hat;have d3':rd wz (h6q1.set k0q3 ⟨[.int .i64 4, .int .i64 (l.getD j XZ).line, .int .i64 (l.getD j XZ).col],0⟩) lc (o+st.at_*5+2+1)= .int .i64 (l.getD st.at_ XZ).col:=d3;refine qbd 12 mixed (by kernel_rfl) (by rfl) (by rfl) ?_;simp+decide only[ev,putD,VM,VO,Ka,true_and,↓qg,qc,↓Ql,qV,Qt,↓qB,qm,qak,↓qF,qY,qz UU,YR,qz ag3,↓Qp,qU Tryz.underlying26 Xb,qeZ,qh qfg qbe,fa35_1,QZ,ne_eq,not_false_eq_true,QC wz eb_p,ne_0q3_p.symm,qf,VX,Km,Jr,qi,allLive,JS,hlv,d2,d3',Vq];repeat (with_reducible refine And.intro ?_ ?_;· first|trivial|omega|(intro hg;simp only[Kw,JV,Ji,VP,VQ,VS,decide_eq_true_eq,decide_eq_false_iff_not,XK]at hg;omega))
     refine qp (by rfl) (by rfl) zqA qbe (by rfl) (by rfl) zqD (Js _) (by first|rfl|(simp+decide only[ev,putD,VM,VO,Ka,VV,Qr,JS,Vf,hrc,XA,XB,Xh])) ?_;simp only[Vh,VV];simp+decide only[qa,ev,putD,VO,Ka,setAt,VW,Ki,Nat.reduceAdd];change Awp _ _ _ _ _ _ _;refine qgp 3 [1] [k0q3] [2,3,4,5] mixed (by kernel_rfl) (by rfl) fun K hK=>?_;simp only[Kh,V6,VB,KP];simp+decide only[Yz,ev,qI,qG,putD,VM,VO,Ka,true_and,↓UH,↓qZ,qic,evP,Vj,↓ZG,XM,qh Xo QI,↓qbK,qb,QN,qf,VX,Km,Jr,Nat.reduceAdd,qi,allLive,JS];refine And.intro (by simp(decide:=true) [qcP,ev,VO]) ?_;refine qbI ?_;refine qp (by rfl) (by rfl) zqA qae (by rfl) (by rfl) zqD (Js _) (by first|rfl|(simp+decide only[ev,putD,VM,VO,Ka,VV,Qr,JS,Vf,hrc,XA,XB,Xh])) ?_;simp only[VV];rw[qa];refine And.intro (by intro k hk;simp only[KW,Bj,or_false]at hk;first|rfl|(first|subst hk|(rcases hk with rfl|rfl|rfl|rfl|rfl));all_goals (simp[Bd,ne_0q3_0q1]<;>rfl)) ?_;simp+decide only[ev,qI,qG,putD,VM,VO,Ka,true_and,↓qly,qb,setAt,VW,Ki,Jr,Nat.reduceAdd];refine qbI ?_;refine qp (by rfl) (by rfl) zqA QI (by rfl) (by rfl) zqD (Js _) (by first|rfl|(simp+decide only[ev,putD,VM,VO,Ka,VV,Qr,JS,Vf,hrc,XA,XB,Xh])) ?_;simp only[VV];rw[qa];refine And.intro (by intro k hk;simp only[KW,Bj,or_false]at hk;first|rfl|(first|subst hk|(rcases hk with rfl|rfl|rfl|rfl|rfl));all_goals (simp[Bd,ne_0q3_0q1]<;>rfl)) ?_;simp+decide only[qjS,ev,putD,VO,VN,Ka,setAt,VW,Ki,Jr,Nat.reduceAdd];apply hK;clear hK K;refine qL ?_;try simp only[Qg,Qn]
     refine QF (?_) ?_
     ·simp+decide only[QD,qA,qj,VO,Ka,and_true,qA,qj,qh qeh qae,qh Xo QI,Qa,qf,VX,Km,Jr,Nat.reduceAdd,qC,qi,qE,QK,allLive,JS,QZ,ne_eq,not_false_eq_true,ne_0q3_0q1.symm,qf,VX,Km,Jr,Nat.reduceAdd,qC,qi,qE,QK,allLive,JS]
     simp+decide only[VO,Ka,qcA,qA,qj,qh qeh qae,qh Xo QI,Qa,qf,VX,Km,Jr,Nat.reduceAdd,qC,qi,qE,QK,allLive,JS,QZ,ne_eq,not_false_eq_true,ne_0q3_0q1.symm,qf,VX,Km,Jr,Nat.reduceAdd,qC,qi,qE,QK,allLive,JS];refine⟨_,Vl _,zqB,st.at_,zqA,hstm.2.1, .inr (.inl ⟨by rw[hci];exact hjl,by rw[hci,<-hst];exact hok,?_⟩)⟩;rw[hci,<-hst];unfold qgP Qu Ut;rw[if_pos hat];rfl
    ·try simp only[decide_eq_false_iff_not]at hb4
     refine qN ?_;change Awp _ _ _ _ _ _ _;refine qgp 3 [1] [k0q3] [2,3,4,5] mixed (by kernel_rfl) (by rfl) fun K hK=>?_;simp only[Kh,V6,VB,KP];simp+decide only[Yz,ev,qI,qG,putD,VM,VO,Ka,true_and,↓UH,↓qZ,qic,evP,Vj,↓ZG,XM,qh Xo QI,↓qbK,qb,QN,qf,VX,Km,Jr,Nat.reduceAdd,qi,allLive,JS];refine And.intro (by simp(decide:=true) [qcP,ev,VO]) ?_;refine qbI ?_;refine qp (by rfl) (by rfl) zqA qae (by rfl) (by rfl) zqD (Js _) (by first|rfl|(simp+decide only[ev,putD,VM,VO,Ka,VV,Qr,JS,Vf,hrc,XA,XB,Xh])) ?_;simp only[VV];rw[qa];refine And.intro (by intro k hk;simp only[KW,Bj,or_false]at hk;first|rfl|(first|subst hk|(rcases hk with rfl|rfl|rfl|rfl|rfl));all_goals (simp[Bd,ne_0q3_0q1]<;>rfl)) ?_;simp+decide only[ev,qI,qG,putD,VM,VO,Ka,true_and,↓qly,qb,setAt,VW,Ki,Jr,Nat.reduceAdd];refine qbI ?_;refine qp (by rfl) (by rfl) zqA QI (by rfl) (by rfl) zqD (Js _) (by first|rfl|(simp+decide only[ev,putD,VM,VO,Ka,VV,Qr,JS,Vf,hrc,XA,XB,Xh])) ?_;simp only[VV];rw[qa];refine And.intro (by intro k hk;simp only[KW,Bj,or_false]at hk;first|rfl|(first|subst hk|(rcases hk with rfl|rfl|rfl|rfl|rfl));all_goals (simp[Bd,ne_0q3_0q1]<;>rfl)) ?_;simp+decide only[qjS,ev,putD,VO,VN,Ka,setAt,VW,Ki,Jr,Nat.reduceAdd];apply hK;clear hK K;refine qL ?_;try simp only[Qg,Qn]
     refine QF (?_) ?_
     ·simp+decide only[QD,qA,qj,VO,Ka,and_true,qA,qj,qh qeh qae,qh Xo QI,Qa,qf,VX,Km,Jr,Nat.reduceAdd,qC,qi,qE,QK,allLive,JS,QZ,ne_eq,not_false_eq_true,ne_0q3_0q1.symm,qf,VX,Km,Jr,Nat.reduceAdd,qC,qi,qE,QK,allLive,JS]
     simp+decide only[VO,Ka,qcA,qA,qj,qh qeh qae,qh Xo QI,Qa,qf,VX,Km,Jr,Nat.reduceAdd,qC,qi,qE,QK,allLive,JS,QZ,ne_eq,not_false_eq_true,ne_0q3_0q1.symm,qf,VX,Km,Jr,Nat.reduceAdd,qC,qi,qE,QK,allLive,JS];refine⟨_,Vl _,zqB,st.at_,zqA,hstm.2.1, .inr (.inl ⟨by rw[hci];exact hjl,by rw[hci,<-hst];exact hok,?_⟩)⟩;rw[hci,<-hst];unfold qgP Qu Ut;rw[if_neg (by omega)];rfl
   ·try simp only[VS]at hb3
    have hok:st.ok=true:=by simpa using hb3
    have hsl2:=hv.slice Tryz.underlying26 Xb (some (.int .i64 i)) (some (.int .i64 j)) (l:=i) (r:=j) rfl rfl (by omega) (by omega) (by rw[Jo];omega);refine qN ?_;change Awp _ _ _ _ _ _ _;refine YS 10 [8] [2,3,4,5] mixed (by kernel_rfl) (by rfl) fun K hK=>?_;simp only[Kh,V6,VB,KP];simp+decide only[Yz,ev,qI,qG,putD,VM,VO,Ka,true_and,↓XR,qc,↓WR,qV,Qt,↓ZR,qm,qak,↓ZG,XM,qz UU,↓qoc,ZA,evO,qh qeh qae,↓UH,↓qZ,ZI,evP,Vj,↓qbK,qb,QZ,ne_eq,not_false_eq_true,ne_6q5_p.symm,QC wz eb_p,QN,qf,VX,Km,Jr,Nat.reduceAdd,qC,qi,qE,allLive,JS,hlv,hrl,hsl2];refine qp (by rfl) (by rfl) zqA qae (by rfl) (by rfl) zqD (Js _) (by first|rfl|(simp+decide only[ev,VO,Ka,VV,Qr,JS,hrc,XA,XB,Xh])) ?_;simp only[VV];simp+decide only[ev,qI,qG,putD,VM,VO,Ka,true_and,↓qd,qb,setAt,VW,Ki,Jr,Nat.reduceAdd];refine qp (by rfl) (by rfl) zqA QI (by rfl) (by rfl) zqD (Js _) (by first|rfl|(simp+decide only[ev,putD,VM,VO,Ka,VV,Qr,JS,Vf,hrc,XA,XB,Xh])) ?_;simp only[VV];simp+decide only[qa,ev,putD,VO,VN,Ka,setAt,VW,Ki,Jr,Nat.reduceAdd];apply hK;clear hK K;refine qL ?_;try simp only[Qg,Qn]
    refine QF (?_) ?_
    ·simp+decide only[QD,qA,qj,VO,Ka,and_true,qA,qj,qh qeh qae,qh Xo QI,Qa,qf,VX,Km,Jr,Nat.reduceAdd,qC,qi,qE,allLive,JS,QZ,ne_eq,not_false_eq_true,ne_0q3_0q1.symm,qf,VX,Km,Jr,Nat.reduceAdd,qC,qi,qE,allLive,JS,hrl]
    simp+decide only[VO,Ka,qcA,qA,qj,qh qeh qae,qh Xo QI,Qa,qf,VX,Km,Jr,Nat.reduceAdd,qC,qi,qE,allLive,JS,QZ,ne_eq,not_false_eq_true,ne_0q3_0q1.symm,qf,VX,Km,Jr,Nat.reduceAdd,qC,qi,qE,allLive,JS,hrl];have hd_6q5:(H.del kp) k6q5=none:=hd6.none hn_6q5;refine⟨_,Vl _,zqB,st.at_,zqA,hstm.2.1, .inr (.inr ⟨by rw[hci];exact hjl,by rw[hci,<-hst];exact hok,by rw[hci,<-hst],qjn 5 v i j,rv,E,?_,?_,hE,?_,?_⟩)⟩
    ·rw[hci,<-hst];rfl
    ·rw[hci];exact qcd hv (o:=⟨true,i,j,0⟩) hj1 hj2 rfl
    ·have he_6q5:E k6q5=none:=hE6s.none hn_6q5
     exact zqB
    ·rw[hci,<-hst];exact hrp
 ·try simp only[decide_eq_false_iff_not]at hb1
  have hje:j=l.length:=by omega
  have hce:Xy l j=j:=qop (by omega);have hsl3:=hv.slice Tryz.underlying26 Xb (some (.int .i64 i)) none (l:=i) (r:=l.length) rfl (by rw[Jo];rfl) (by omega) (by omega) (by rw[Jo];omega);refine Xm ?_;change Awp _ _ _ _ _ _ _;refine awp_rseq [2,3,4,5] (by rfl) fun K hK=>?_;simp+decide only[ev,qI,qG,putD,VM,VO,Ka,true_and,↓qg,qc,↓Ql,qV,Qt,↓qB,qm,qak,↓qF,qY,qz UU,↓Wp,ZA,evO,↓Qo,↓qZ,qic,evP,Vj,ZI,↓qd,qb,QC wz eb_p,VX,Jr,hlv,hsl3];refine qp (by rfl) (by rfl) zqA qae (by rfl) (by rfl) zqD (Js _) (by first|rfl|(simp+decide only[ev,putD,VM,VO,Ka,VV,Qr,JS,Vf,hrc,XA,XB,Xh])) ?_;simp only[VV];simp+decide only[ev,qI,qG,putD,VM,VO,Ka,true_and,↓qd,qb,setAt,VW,Ki,Jr,Nat.reduceAdd];refine qp (by rfl) (by rfl) zqA QI (by rfl) (by rfl) zqD (Js _) (by first|rfl|(simp+decide only[ev,putD,VM,VO,Ka,VV,Qr,JS,Vf,hrc,XA,XB,Xh])) ?_;simp only[VV];simp+decide only[qa,ev,putD,VO,VN,Ka,setAt,VW,Ki,Jr,Nat.reduceAdd];apply hK;clear hK K;refine qL ?_;refine QF (?_) ?_
  ·simp+decide only[QD,qA,qj,VO,Ka,and_true,qA,qj,qh qeh qae,qh Xo QI,Qa,qf,VX,Km,Jr,Nat.reduceAdd,qC,qi,qE,QK,allLive,JS,QZ,ne_eq,not_false_eq_true,ne_0q3_0q1.symm,qf,VX,Km,Jr,Nat.reduceAdd,qC,qi,qE,QK,allLive,JS]
  simp+decide only[VO,Ka,qcA,qA,qj,qh qeh qae,qh Xo QI,Qa,qf,VX,Km,Jr,Nat.reduceAdd,qC,qi,qE,QK,allLive,JS,QZ,ne_eq,not_false_eq_true,ne_0q3_0q1.symm,qf,VX,Km,Jr,Nat.reduceAdd,qC,qi,qE,QK,allLive,JS];refine⟨_,Vl _,zqB,j,zqA,hj2, .inl ⟨by rw[<-hj3,hce];omega,qjn 5 v i l.length,rfl,?_⟩⟩;have:=qcd hv (o:=⟨true,i,l.length,0⟩) hi (KJ _) rfl;unfold qal at this;rw[Jq (by simp[K5])]at this;exact this
end Go.Proofs.YtlhhaagmakhilaaGreatDoor
namespace Go.Proofs.YtlhhaagmakhilaaGreatDoor
open Go.AM
open Go.Proofs
open Go.Col
open Go.Tok
open Go.Cop
open Go.RowKit (Below)
set_option maxRecDepth 100000
def qaU{α:Type}(p:α->Bool)(l:List α):Int:=match l.findIdx? p with
 |some i=>(i:Int)
 |none=> -1
theorem qhL{α:Type}{p:α->Bool}{l:List α}(d:α){i:Nat}(hi:i<l.length)(hp:p (l.getD i d)=true)(hn:∀j,j<i->p (l.getD j d)=false):qaU p l=i:=by
 have:l.findIdx? p=some i:=by
  rw[BU];refine⟨hi,?_,fun j hj=>?_⟩
  ·rw[Kn,Jz hi]at hp
   exact hp
  ·have:=hn j hj
   rw[Kn,Jz (by omega)]at this;simpa using this
 unfold qaU;rw[this]
theorem qhM{α:Type}{p:α->Bool}{l:List α}(d:α)(hn:∀j,j<l.length->p (l.getD j d)=false):qaU p l= -1:=by
 have:l.findIdx? p=none:=by
  rw[BS];intro x hx;obtain⟨j,hj,rfl⟩:=BM hx;have:=hn j hj;rw[Kn,Jz hj]at this;exact this
 unfold qaU;rw[this]
theorem qgY{α β:Type}(f:α->β)(p:β->Bool)(l:List α):qaU p (l.map f)=qaU (fun x=>p (f x)) l:=by
 unfold qaU;rw[Ei];rfl
abbrev MemQ:=MemC×AVal
def qgS(q:MemQ):List AVal:=[.str q.1.name,q.2]
def IsMems(wz:World)(h:AHeap)(v:AVal)(ms:List MemC):Prop:=∃qs:List MemQ,ms=qs.map (·.1)/\IsL wz h 2 v (qs.map qgS)/\∀q∈qs,IsL wz h 5 q.2 (q.1.toks.map QM)
theorem IsMems.mono{wz:World}{h h':AHeap}{v:AVal}{ms:List MemC}(hv:IsMems wz h v ms)(hs:Sub h h'):IsMems wz h' v ms:=by
 obtain⟨qs,h1,h2,h3⟩:=hv;exact⟨qs,h1,h2.mono hs,fun q hq=>(h3 q hq).mono hs⟩
def qgo:MemQ:=(⟨[],[]⟩, .nilSlice)
def qla:RepQ:=(⟨[],[]⟩, .nilSlice, .nilSlice)
theorem Uk{α:Type}{l:List α}(d:α){i:Nat}(hi:i<l.length):l.getD i d∈l:=by
 rw[Kn,Jz hi];exact VH hi
section
variable {wz:World} {h:AHeap} {v:AVal}
theorem qrK{qs:List MemQ}(hv:IsL wz h 2 v (qs.map qgS)):∀H:AHeap,Yr Tryz.prog H 28 v=⟨True, .int .i64 qs.length⟩:=by
 have:=hv.len Tryz.underlying28
 rwa [Jo]at this
theorem qjM{qs:List MemQ}(hv:IsL wz h 2 v (qs.map qgS))(hn:0<qs.length):∃lc o c,v= .slice lc o qs.length c:=by
 obtain⟨lc,o,c,e⟩:=hv.open (fun e=>by rw[VU]at e;subst e;simp at hn);rw[Jo]at e;exact⟨lc,o,c,e⟩
theorem qpt{qs:List MemQ}{lc:AM.Loc}{o:Nat}{c:Cap}(hv:IsL wz h 2 (.slice lc o qs.length c) (qs.map qgS)){i:Nat}(hi:i<qs.length):rd wz h lc (o+i*2)= .str (qs.getD i qgo).1.name/\rd wz h lc (o+i*2+1)=(qs.getD i qgo).2:=by
 have he:=hv.elem (i:=i) (by rw[Jo];exact hi);rw[getD_map qgo hi]at he;simp only[qf,qgS,List.cons.injEq,and_true]at he;exact he
theorem qrz{qs:List RepQ}(hv:IsL wz h 2 v (qs.map Uz)):∀H:AHeap,Yr Tryz.prog H 43 v=⟨True, .int .i64 qs.length⟩:=by
 have:=hv.len Tryz.underlying43
 rwa [Jo]at this
theorem qnz{qs:List RepQ}(hv:IsL wz h 2 v (qs.map Uz))(hn:0<qs.length):∃lc o c,v= .slice lc o qs.length c:=by
 obtain⟨lc,o,c,e⟩:=hv.open (fun e=>by rw[VU]at e;subst e;simp at hn);rw[Jo]at e;exact⟨lc,o,c,e⟩
theorem qph{qs:List RepQ}{lc:AM.Loc}{o:Nat}{c:Cap}(hv:IsL wz h 2 (.slice lc o qs.length c) (qs.map Uz)){i:Nat}(hi:i<qs.length):rd wz h lc (o+i*2)=(qs.getD i qla).2.1/\rd wz h lc (o+i*2+1)=(qs.getD i qla).2.2:=by
 have he:=hv.elem (i:=i) (by rw[Jo];exact hi);rw[getD_map qla hi]at he;simp only[qf,Uz,List.cons.injEq,and_true]at he;exact he
end
theorem c_indexM(wz:World)(h:AHeap)(v:AVal)(qs:List MemQ)(f:FuncId)(cap:List AVal)(p:MemQ->Bool)(hv:IsL wz h 2 v (qs.map qgS))(hq:∀q∈qs,q.2.live=true)(hl:qs.length<=1099511627776)(hfl:(AVal.func f cap).live=true)
 (hf:∀q∈qs,ACall Tryz.prog wz f ([.agg (qgS q)]++cap) h (fun r h'=>r= .bool (p q)/\h'=h)):
 ACall Tryz.prog wz 57 [v, .func f cap] h (fun r h'=>r= .int .i64 (qaU p qs)/\h'=h):=by
 have hlv:=hv.live;have nv:=qrK hv;refine qW (n:=19) (rs:=[.tmp 4]) Tryz.func57 rfl rfl rfl rfl (VL rfl) ?_;simp only[Qe];refine awp_rseq [0,1] (by rfl) fun K hK=>?_;simp+decide only[qa,ev,qI,qG,putD,VM,VN,Ka,true_and,↓qd,qb,Jr];apply hK;clear hK K;refine qJ ?_;refine awp_rseq [0,1,7,8] (by rfl) fun K hK=>?_;simp+decide only[qa,ev,qI,qG,putD,VM,VO,VN,Ka,true_and,↓qg,qc,↓Xc,Qv,nv];apply hK;clear hK K;refine Qj ?_;refine Xj [0,1,7,8] (fun i:Nat=>[(0,v),(1, .func f cap),(7, .int .i64 qs.length),(8, .int .i64 i)]) (fun i:Nat=>h) (fun i:Nat=>i<=qs.length/\∀j,j<i->p (qs.getD j qgo)=false) (fun i:Nat=>qs.length-i) 0 (by rfl) (Vl _) ⟨Js _,fun j hj=>by omega⟩ ?_;rintro i ⟨hi,hn⟩;refine awp_rseq [0,1,7,8,9] (by rfl) fun K hK=>?_;simp+decide only[qa,ev,putD,VM,VO,VN,Ka,true_and,↓qw,ql,qP,cond_false,qo,XD];apply hK;clear hK K;refine qJ (qH (b:=_) rfl (fun hb1=>?_) (fun hb1=>?_))
 ·try simp only[decide_eq_true_eq]at hb1
  have hi':i<qs.length:=by omega
  obtain⟨lc,o,c,rfl⟩:=qjM hv (by omega);obtain⟨e0,e1⟩:=qpt hv hi';obtain⟨q,hqe⟩:∃q,q=qs.getD i qgo:=⟨_,rfl⟩
  have hqm:q∈qs:=by rw[hqe];exact Uk qgo hi'
  have hql:=hq q hqm;rw[<-hqe]at e0 e1;refine qN ?_;change Awp _ _ _ _ _ _ _;refine qJ ?_;refine Qj ?_;refine awp_rseq [0,1,5,7,8] (by rfl) fun K hK=>?_;simp+decide only[qa,ev,putD,VM,VO,VN,Ka,true_and,↓qg,qc,↓qd,qb];apply hK;clear hK K;refine awp_rseq [0,1,5,7,8,16] (by rfl) fun K hK=>?_;simp+decide only[ev,putD,VM,VO,Ka,true_and,↓qg,qc,↓Qp,qY,qU Tryz.underlying28 qmd,↓qF,qh ag57 qmd,qf,qE,allLive,JS,e0,e1,hql,Vq];repeat (with_reducible refine And.intro ?_ ?_;· first|trivial|omega|(intro hg;simp only[Kw,JV,Ji,VP,VQ,VS,decide_eq_true_eq,decide_eq_false_iff_not,XK]at hg;omega))
  refine qM (V:= .bool (p q)) (by rfl) (by rfl) (hf q hqm) ?_;simp+decide only[qa,putD,VM,VN,Ka];apply hK;clear hK K;refine qH (b:=_) rfl (fun hb2=>?_) (fun hb2=>?_)
  ·skip
   refine awp_rseq [4] (by rfl) fun K hK=>?_;simp+decide only[qa,ev,putD,VM,VO,VN,Ka,true_and,↓qg,qc,↓qd,qb];apply hK;clear hK K;refine qL ?_;try simp only[Qg,Qn]
   refine Qb h zqC (qR (Qc)) ?_;simp+decide only[VO,if_true,and_true,Qs];rw[qhL qgo hi' (by rw[<-hqe];exact hb2) hn]
  ·skip
   refine qN ?_;change Awp _ _ _ _ _ _ _;refine XE [0,1,7,8] (by rfl) ?_;simp+decide only[qa,ev,qI,qG,putD,VM,VO,VN,Ka,true_and,↓qw,ql,qy,cond_false,qo,QS,↓qg,qc];try simp(disch:=omega)only[wrap_i64]
   try simp only[Qf]
   exact⟨i+1,rfl,Vl _,⟨hi',fun j hj=>by
    rcases KT j i with z|z
    ·exact hn j z
    ·rw[show j=i by omega,<-hqe];exact hb2⟩,by omega⟩
 ·try simp only[decide_eq_false_iff_not]at hb1
  refine Xm ?_;change Awp _ _ _ _ _ _ _;refine awp_rseq [4] (by rfl) fun K hK=>?_;simp+decide only[qa,ev,qI,qG,putD,VM,VN,Ka,true_and,↓qd,qb];apply hK;clear hK K;refine qL ?_;refine Qb h zqC (qR (Qc)) ?_;simp+decide only[VO,if_true,and_true,Qs];rw[qhM qgo fun j hj=>hn j (by omega)]
theorem qoz(wz:World)(h:AHeap)(v:AVal)(qs:List RepQ)(f:FuncId)(cap:List AVal)(p:RepQ->Bool)(hv:IsL wz h 2 v (qs.map Uz))(hq:∀q∈qs,q.2.1.live=true/\q.2.2.live=true)(hl:qs.length<=1099511627776)(hfl:(AVal.func f cap).live=true)
 (hf:∀q∈qs,ACall Tryz.prog wz f ([.agg (Uz q)]++cap) h (fun r h'=>r= .bool (p q)/\h'=h)):
 ACall Tryz.prog wz 37 [v, .func f cap] h (fun r h'=>r= .int .i64 (qaU p qs)/\h'=h):=by
 have hlv:=hv.live;have nv:=qrz hv;refine qW (n:=19) (rs:=[.tmp 4]) Tryz.func37 rfl rfl rfl rfl (VL rfl) ?_;simp only[Qe];refine awp_rseq [0,1] (by rfl) fun K hK=>?_;simp+decide only[qa,ev,qI,qG,putD,VM,VN,Ka,true_and,↓qd,qb,Jr];apply hK;clear hK K;refine qJ ?_;refine awp_rseq [0,1,7,8] (by rfl) fun K hK=>?_;simp+decide only[qa,ev,qI,qG,putD,VM,VO,VN,Ka,true_and,↓qg,qc,↓Xc,Qv,nv];apply hK;clear hK K;refine Qj ?_;refine Xj [0,1,7,8] (fun i:Nat=>[(0,v),(1, .func f cap),(7, .int .i64 qs.length),(8, .int .i64 i)]) (fun i:Nat=>h) (fun i:Nat=>i<=qs.length/\∀j,j<i->p (qs.getD j qla)=false) (fun i:Nat=>qs.length-i) 0 (by rfl) (Vl _) ⟨Js _,fun j hj=>by omega⟩ ?_;rintro i ⟨hi,hn⟩;refine awp_rseq [0,1,7,8,9] (by rfl) fun K hK=>?_;simp+decide only[qa,ev,putD,VM,VO,VN,Ka,true_and,↓qw,ql,qP,cond_false,qo,XD];apply hK;clear hK K;refine qJ (qH (b:=_) rfl (fun hb1=>?_) (fun hb1=>?_))
 ·try simp only[decide_eq_true_eq]at hb1
  have hi':i<qs.length:=by omega
  obtain⟨lc,o,c,rfl⟩:=qnz hv (by omega);obtain⟨e0,e1⟩:=qph hv hi';obtain⟨q,hqe⟩:∃q,q=qs.getD i qla:=⟨_,rfl⟩
  have hqm:q∈qs:=by rw[hqe];exact Uk qla hi'
  obtain⟨hql,hqr⟩:=hq q hqm;rw[<-hqe]at e0 e1;refine qN ?_;change Awp _ _ _ _ _ _ _;refine qJ ?_;refine Qj ?_;refine awp_rseq [0,1,5,7,8] (by rfl) fun K hK=>?_;simp+decide only[qa,ev,putD,VM,VO,VN,Ka,true_and,↓qg,qc,↓qd,qb];apply hK;clear hK K;refine awp_rseq [0,1,5,7,8,16] (by rfl) fun K hK=>?_;simp+decide only[ev,putD,VM,VO,Ka,true_and,↓qg,qc,↓Qp,qY,qU Tryz.underlying43 qeu,↓qF,qh qoJ qeu,qf,allLive,JS,e0,e1,hql,hqr,Vq];repeat (with_reducible refine And.intro ?_ ?_;· first|trivial|omega|(intro hg;simp only[Kw,JV,Ji,VP,VQ,VS,decide_eq_true_eq,decide_eq_false_iff_not,XK]at hg;omega))
  refine qM (V:= .bool (p q)) (by rfl) (by rfl) (hf q hqm) ?_;simp+decide only[qa,putD,VM,VN,Ka];apply hK;clear hK K;refine qH (b:=_) rfl (fun hb2=>?_) (fun hb2=>?_)
  ·skip
   refine awp_rseq [4] (by rfl) fun K hK=>?_;simp+decide only[qa,ev,putD,VM,VO,VN,Ka,true_and,↓qg,qc,↓qd,qb];apply hK;clear hK K;refine qL ?_;try simp only[Qg,Qn]
   refine Qb h zqC (qR (Qc)) ?_;simp+decide only[VO,if_true,and_true,Qs];rw[qhL qla hi' (by rw[<-hqe];exact hb2) hn]
  ·skip
   refine qN ?_;change Awp _ _ _ _ _ _ _;refine XE [0,1,7,8] (by rfl) ?_;simp+decide only[qa,ev,qI,qG,putD,VM,VO,VN,Ka,true_and,↓qw,ql,qy,cond_false,qo,QS,↓qg,qc];try simp(disch:=omega)only[wrap_i64]
   try simp only[Qf]
   exact⟨i+1,rfl,Vl _,⟨hi',fun j hj=>by
    rcases KT j i with z|z
    ·exact hn j z
    ·rw[show j=i by omega,<-hqe];exact hb2⟩,by omega⟩
 ·try simp only[decide_eq_false_iff_not]at hb1
  refine Xm ?_;change Awp _ _ _ _ _ _ _;refine awp_rseq [4] (by rfl) fun K hK=>?_;simp+decide only[qa,ev,qI,qG,putD,VM,VN,Ka,true_and,↓qd,qb];apply hK;clear hK K;refine qL ?_;refine Qb h zqC (qR (Qc)) ?_;simp+decide only[VO,if_true,and_true,Qs];rw[qhM qla fun j hj=>hn j (by omega)]
end Go.Proofs.YtlhhaagmakhilaaGreatDoor
namespace Go.Proofs.YtlhhaagmakhilaaGreatDoor
open Go.AM
open Go.Proofs
open Go.Col
open Go.Tok
open Go.Cop
open Go.RowKit (Below)
set_option maxRecDepth 100000
theorem qjs:∀l m:List TokC,qbU l m=alike l m
 |[],[]=>rfl
 |[],_::_=>rfl
 |_::_,[]=>rfl
 |a::l,b::m=>by rw[qbU,alike,qjs l m];rfl
theorem idxI_pos{α:Type}(p:α->Bool)(l:List α):decide (0<=qaU p l)=l.any p:=by
 unfold qaU;cases h:l.findIdx? p with
 |none=>
  rw[BS]at h;have:l.any p=false:=by rw[Ej];intro x hx;simp[h x hx]
  rw[this];rfl
 |some i=>
  rw[BU]at h;obtain⟨hi,hp,-⟩:=h;have:l.any p=true:=by rw[JX];exact⟨l[i],VH hi,hp⟩
  rw[this,decide_eq_true_eq];simp only;omega
theorem RepOk.lives{wz:World}{h:AHeap}{q:RepQ}(hq:RepOk wz h q):q.2.1.live=true/\q.2.2.live=true/\q.2.1.scal=true/\q.2.2.scal=true:=⟨hq.old.live,hq.new.live,hq.old.scal,hq.new.scal⟩
theorem c_rep1(wz:World)(h:AHeap)(q:RepQ)(hq:RepOk wz h q):
 ACall Tryz.prog wz 36 [.agg (Uz q)] h (fun r h'=>r= .bool (decide (q.1.old=[]))/\h'=h):=by
 obtain⟨h1,h2,h3,h4⟩:=hq.lives;have no:=XY hq.old;obtain⟨⟨x,y⟩,ov,nv⟩:=q;simp only at h1 h2 h3 h4 no;unfold Uz;have e:decide (x=[])=decide ((x.length:Int)=0):=decide_eq_decide.2 ⟨fun e=>by rw[e];rfl,fun e=>Ke (by omega)⟩;simp only;rw[e];refine qW (n:=7) (rs:=[.tmp 2]) Tryz.func36 rfl rfl rfl rfl (VL rfl) ?_;simp only[Qe];refine awp_rseq [1] (by rfl) fun K hK=>?_;refine WN (by rfl) (by rfl) (by rfl) fun k0q0 hk0q0=>?_;try have hf_0q0:h k0q0=none:=by first|assumption|(simp only[V7]at hk0q0;simp only[hk0q0])
 skip;simp+decide only[qa,ev,qI,qG,putD,VM,VO,VN,Ka,true_and,↓qd,qb,VV];apply hK;clear hK K;refine awp_rseq [2] (by rfl) fun K hK=>?_;simp+decide only[qa,ev,qI,qG,putD,VM,VO,VN,Ka,true_and,↓qB,qm,qmG,↓qF,qY,qz UU,↓Xc,Qv,↓qw,ql,qy,cond_false,qo,XT,↓qd,qb,QN,VX,Jr,h1,no];apply hK;clear hK K;refine qL ?_;refine Qb h zqC (qR (Qc)) ?_;simp+decide only[VO,if_true,and_true,Qs];skip
theorem c_contR(wz:World)(h:AHeap)(v:AVal)(qs:List RepQ)(hv:IsL wz h 2 v (qs.map Uz))(hq:∀q∈qs,RepOk wz h q)(hl:qs.length<=1099511627776):
 ACall Tryz.prog wz 35 [v, .func 36 []] h (fun r h'=>r= .bool (qs.any fun q=>decide (q.1.old=[]))/\h'=h):=by
 have hlv:=hv.live;refine qW (n:=9) (rs:=[.tmp 4]) Tryz.func35 rfl rfl rfl rfl (VL rfl) ?_;simp only[Qe];refine awp_rseq [0,1] (by rfl) fun K hK=>?_;simp+decide only[qa,ev,qI,qG,putD,VM,VN,Ka,true_and,↓qd,qb,Jr];apply hK;clear hK K;refine awp_rseq [4] (by rfl) fun K hK=>?_;simp+decide only[ev,putD,VM,VO,Ka,true_and,↓qg,qc];refine qM (V:= .int .i64 (qaU (fun q=>decide (q.1.old=[])) qs)) (by rfl) (by rfl) (qoz wz _ v qs _ [] (fun q=>decide (q.1.old=[])) hv (fun q hm=>⟨(hq q hm).lives.1,(hq q hm).lives.2.1⟩) hl rfl (fun q hm=>by rw[Be];exact c_rep1 wz _ q (hq q hm))) ?_;simp+decide only[qa,ev,qI,qG,putD,VM,VO,VN,Ka,true_and,↓qw,ql,qy,cond_false,qo,Ub,↓qd,qb];apply hK;clear hK K;refine qL ?_;refine Qb h zqC (qR (Qc)) ?_;simp+decide only[VO,if_true,and_true,Qs];rw[idxI_pos]
theorem c_rep2Out(wz:World)(h:AHeap)(q:RepQ)(hq:RepOk wz h q)(kl ka:Nat)(lv:AVal)(l:List TokC)(at_:Nat)(eb_l:h kl=some ⟨[lv],0⟩)(eb_a:h ka=some ⟨[.int .i64 at_],0⟩)(hlv:IsL wz h 5 lv (l.map QM))(hl:l.length<=1099511627776)(hat:at_<=l.length)(hout:¬at_+q.1.old.length<=l.length):
 ACall Tryz.prog wz 38 ([.agg (Uz q)]++[.ptr (.own kl) 0, .ptr (.own ka) 0]) h (fun r h'=>r= .bool (WS (l.drop at_) q.1.old)/\h'=h):=by
 obtain⟨h1,h2,h3,h4⟩:=hq.lives;have no:=XY hq.old;have nl:=XY hlv;have hll:=hlv.live;have hr:WS (l.drop at_) q.1.old=false:=by
  unfold WS;rw[decide_eq_false (by rw[K5];omega),VZ]
 rw[hr];obtain⟨⟨x,y⟩,ov,nv⟩:=q;simp only at h1 h2 h3 h4 no hout;have hs_h:Sub h h:=Vl h;have hw1:IntKind.i64.wrap ((l.length:Int)-at_)=(l.length:Int)-at_:=by simp(disch:=omega)only[wrap_i64]
 have hng:¬((x.length:Int)<=l.length-at_):=by omega
 unfold Uz;simp only[Kg,Jd];refine qW (n:=26) (rs:=[.tmp 4]) Tryz.func38 rfl rfl rfl rfl (VL rfl) ?_;simp only[Qe];refine awp_rseq [1,2,3] (by rfl) fun K hK=>?_;refine WN (by rfl) (by rfl) (by rfl) fun k0q0 hk0q0=>?_;have hn_0q0:h k0q0=none:=by first|assumption|(simp only[V7]at hk0q0;simp only[hk0q0])
 have hf_0q0:h k0q0=none:=Bg hs_h hn_0q0;have ne_0q0_l:k0q0≠kl:=Bh hn_0q0 eb_l;have ne_0q0_a:k0q0≠ka:=Bh hn_0q0 eb_a;skip;simp+decide only[qa,ev,qI,qG,putD,VM,VO,VN,Ka,true_and,↓qd,qb,VV,Jr,Nat.reduceAdd];apply hK;clear hK K;refine Uf [4] mixed (by kernel_rfl) (by rfl) fun K hK=>?_;simp+decide only[ev,putD,VM,VO,Ka,true_and,↓UM,qm,qmG,↓qfl,XM,qz UU,↓qlZ,Qv,qz ag3,↓qgw,ql,qP,cond_false,qo,UA,qeJ,↓qdB,qc,↓qar,vgP,qcV,qO,qK,qD,implies_true,decide_false,Zk,false_implies,↓qgz,↓vg_len,↓qnn,↓qjg,ZA,evO,QZ,ne_eq,not_false_eq_true,ne_0q0_l.symm,ne_0q0_a.symm,QC wz eb_l,QC wz eb_a,QN,VX,Jr,qi,h1,no,nl,hll,hw1,hng];first|refine qno (by rfl) ?_|refine fOps_gno (by rfl) ?_
 simp+decide only[qbP,ev,qI,qG,putD,VM,VO,VN,Ka,true_and,↓qgu,Qy,Qk,↓qcU,qb];apply hK;clear hK K;refine qL ?_;refine Qb h zqC (qR (Qc)) ?_;simp+decide only[VO,if_true,and_true,Qs];all_goals first|rfl|exact⟨rfl,rfl⟩|(simp+decide only[Ka, *];done)|(trace_state;fail)
theorem c_rep2In(wz:World)(h:AHeap)(q:RepQ)(hq:RepOk wz h q)(kl ka:Nat)(lv:AVal)(l:List TokC)(at_:Nat)(eb_l:h kl=some ⟨[lv],0⟩)(eb_a:h ka=some ⟨[.int .i64 at_],0⟩)(hlv:IsL wz h 5 lv (l.map QM))(hl:l.length<=1099511627776)(hin:at_+q.1.old.length<=l.length):
 ACall Tryz.prog wz 38 ([.agg (Uz q)]++[.ptr (.own kl) 0, .ptr (.own ka) 0]) h (fun r h'=>r= .bool (WS (l.drop at_) q.1.old)/\h'=h):=by
 obtain⟨h1,h2,h3,h4⟩:=hq.lives;have no:=XY hq.old;have nl:=XY hlv;have hll:=hlv.live;have hr:WS (l.drop at_) q.1.old=qbU q.1.old (qal l at_ (at_+q.1.old.length)):=by
  unfold WS qal;rw[decide_eq_true (by rw[K5];omega),Vf,qjs,Nat.add_sub_cancel_left]
 rw[hr];have hoq:=hq.old;obtain⟨⟨x,y⟩,ov,nv⟩:=q;simp only at h1 h2 h3 h4 no hin hoq;have hs_h:Sub h h:=Vl h;have hw1:IntKind.i64.wrap ((l.length:Int)-at_)=(l.length:Int)-at_:=by simp(disch:=omega)only[wrap_i64]
 have hw2:IntKind.i64.wrap ((at_:Int)+x.length)=(at_:Int)+x.length:=by simp(disch:=omega)only[wrap_i64]
 have hg0:(x.length:Int)<=l.length-at_:=by omega
 have hsl:=hlv.slice Tryz.underlying26 Xb (some (.int .i64 at_)) (some (.int .i64 ((at_:Int)+x.length))) (l:=at_) (r:=(at_:Int)+x.length) rfl rfl (by omega) (by omega) (by rw[Jo];omega);have hcut:=qcd hlv (o:=⟨true,at_,at_+x.length,0⟩) (El _ _) hin rfl;have hsv:qjn 5 lv ((at_:Int)).toNat (((at_:Int)+x.length)).toNat=qdh lv ⟨true,at_,at_+x.length,0⟩:=by
  rw[show(((at_:Int)+x.length)).toNat=at_+x.length by omega];rfl
 rw[hsv]at hsl;unfold Uz;simp only[Kg,Jd];refine qW (n:=26) (rs:=[.tmp 4]) Tryz.func38 rfl rfl rfl rfl (VL rfl) ?_;simp only[Qe];refine awp_rseq [1,2,3] (by rfl) fun K hK=>?_;refine WN (by rfl) (by rfl) (by rfl) fun k0q0 hk0q0=>?_;have hn_0q0:h k0q0=none:=by first|assumption|(simp only[V7]at hk0q0;simp only[hk0q0])
 have hf_0q0:h k0q0=none:=Bg hs_h hn_0q0;have ne_0q0_l:k0q0≠kl:=Bh hn_0q0 eb_l;have ne_0q0_a:k0q0≠ka:=Bh hn_0q0 eb_a;skip;simp+decide only[qa,ev,qI,qG,putD,VM,VO,VN,Ka,true_and,↓qd,qb,VV,Jr,Nat.reduceAdd];apply hK;clear hK K;refine Uf [4] mixed (by kernel_rfl) (by rfl) fun K hK=>?_;simp+decide only[ev,putD,VM,VO,Ka,true_and,↓UM,qm,qmG,↓qfl,XM,qz UU,↓qlZ,Qv,qz ag3,↓qgw,ql,qP,cond_false,qo,UA,qeJ,↓qdB,qc,↓qar,vgP,qcV,qO,qK,qD,implies_true,decide_true,Qz,↓qgz,↓vg_len,↓qnn,QS,↓qjg,ZA,evO,QZ,ne_eq,not_false_eq_true,ne_0q0_l.symm,ne_0q0_a.symm,QC wz eb_l,QC wz eb_a,QN,VX,Jr,qi,h1,no,nl,hll,hw1,hw2,hg0,hsl];refine qdC (V:= .bool (qbU x (qal l at_ (at_+x.length)))) (f:=_) (cap:=_) (xs:=_) (by first|rfl|(simp+decide only[gv,qO,VO,Ka,Xf,qK])) (fun hg=>⟨rfl,?_⟩) (fun hg=>c_Same wz _ ov _ x _ (hoq.mono zqB) (hcut.mono zqB) (by omega)) ?_
 ·try simp+decide only[gv,qO,VO,Ka,qD]at hg
  simp+decide only[evs,ev,VO,Ka,Be,Kc,Vj]
 simp+decide only[qbP,ev,qI,qG,putD,VM,VO,VN,Ka,true_and,gv,qO,qD,↓qgu,Qy,Qk,Xk,Xv,↓qcU,qb];apply hK;clear hK K;refine qL ?_;refine Qb h zqC (qR (Qc)) ?_;simp+decide only[VO,if_true,and_true,Qs];rw[Vf]
theorem c_rep2(wz:World)(h:AHeap)(q:RepQ)(hq:RepOk wz h q)(kl ka:Nat)(lv:AVal)(l:List TokC)(at_:Nat)(eb_l:h kl=some ⟨[lv],0⟩)(eb_a:h ka=some ⟨[.int .i64 at_],0⟩)(hlv:IsL wz h 5 lv (l.map QM))(hl:l.length<=1099511627776)(hat:at_<=l.length):
 ACall Tryz.prog wz 38 ([.agg (Uz q)]++[.ptr (.own kl) 0, .ptr (.own ka) 0]) h (fun r h'=>r= .bool (WS (l.drop at_) q.1.old)/\h'=h):=by
 by_cases hin:at_+q.1.old.length<=l.length
 ·exact c_rep2In wz h q hq kl ka lv l at_ eb_l eb_a hlv hl hin
 ·exact c_rep2Out wz h q hq kl ka lv l at_ eb_l eb_a hlv hl hat hin
end Go.Proofs.YtlhhaagmakhilaaGreatDoor
namespace Go.Proofs.YtlhhaagmakhilaaGreatDoor
open Go.AM
open Go.Proofs
open Go.Col
open Go.Tok
open Go.Cop
open Go.RowKit (Below)
set_option maxRecDepth 100000
theorem qee(v:AVal):Ym (Ym v)=Ym v:=by cases v<;>rfl
def OutR(h:AHeap)(out:List TokC)(v:AVal)(h':AHeap):Prop:=∃tb,v=Ym (QH 5 tb)/\bufOk h 5 tb/\Yn tb=(out.map QM).flatten/\h'=QG h tb
theorem OutR.toks{wz:World}{h h':AHeap}{out:List TokC}{v:AVal}(hr:OutR h out v h'):IsL wz h' 5 v (out.map QM)/\Ym v=v/\Sub h h':=by
 obtain⟨tb,rfl,h1,h2,rfl⟩:=hr;exact⟨(BF h1 (by decide) h2 Xn (Vl _)).clip,qee _,BH h1⟩
theorem OutR.nil(h:AHeap):OutR h [] .nilSlice h:=⟨none,rfl,trivial,rfl,rfl⟩
theorem qlP{H:AHeap}{es:Nat}{b:Option Buf}{j:Nat}(hb:bufOk H es b)(hj:QG H b j=none)(c:Blk):bufOk (H.set j c) es b:=by
 cases b with
 |none=>trivial
 |some b=>
  have hne:b.blk≠j:=fun e=>by
   rw[<-e,show QG H (some b)=H.set b.blk ⟨b.cells,0⟩from rfl,Vd]at hj;cases hj
  exact⟨(Vb _ _ hne).trans hb.1,hb.2⟩
structure RpG where
 at_:Nat
 ka:Nat
 tb:Option Buf
 out:List TokC
structure RpOk(h:AHeap)(k0:Nat)(lv:AVal)(l:List TokC)(rs:List RepC)(s:RpG):Prop where
 at_:s.at_<=l.length
 new:h s.ka=none/\s.ka≠k0
 ok:bufOk ((h.set k0 ⟨[lv],0⟩).set s.ka ⟨[.int .i64 s.at_],0⟩) 5 s.tb
 eq:Yn s.tb=(s.out.map QM).flatten
 go:s.out++qcv rs (l.drop s.at_)=qcv rs l
set_option maxHeartbeats 2000000 in
theorem qkY(wz:World)(h:AHeap)(lv rv:AVal)(l:List TokC)(rs:List RepC)(hlv:IsL wz h 5 lv (l.map QM))(hrv:IsReps wz h rv rs)(hl:l.length<=1000000)(hrl:rs.length<=1000000)(hn:∀x∈rs,x.new.length<=1000000):
 ACall Tryz.prog wz 16 [lv,rv] h (fun r h'=>∃v,r= .tuple [v, .int .i64 (qdc l rs).2]/\OutR h (qdc l rs).1 v h'):=by
 obtain⟨qs,hqs,hq2,hq3⟩:=hrv;have hll:=hlv.live;have hls:=hlv.scal;have nl:=XY hlv;have hlr:=hq2.live;have nr:=qrz hq2;have hqn:qs.length=rs.length:=by rw[hqs,Jo]
 obtain⟨an,han⟩:∃b,b=rs.any (fun x=>decide (x.old=[])):=⟨_,rfl⟩
 have hanq:qs.any (fun q=>decide (q.1.old=[]))=an:=by rw[han,hqs,List.any_map];rfl
 have hR:qdc l rs=if an=true then([],1)else if 65536<(qcv rs l).length then([],3)else(qcv rs l,0):=by rw[han];rfl
 refine qW (n:=50) (rs:=[.tmp 4, .tmp 5]) Tryz.func16 rfl rfl rfl rfl (VL rfl) ?_;simp only[Qe];refine awp_rseq [1,2] (by rfl) fun K hK=>?_;refine WN (v:=lv) (cs:=[lv]) (by rfl) hll hlv.cells fun k0q0 hk0q0=>?_;try have hf_0q0:h k0q0=none:=by first|assumption|(simp only[V7]at hk0q0;simp only[hk0q0])
 simp+decide only[qa,ev,qI,qG,putD,VM,VN,Ka,true_and,↓qd,qb,Jr];apply hK;clear hK K;refine qJ ?_;refine awp_rseq [1,2,10] (by rfl) fun K hK=>?_;simp+decide only[ev,putD,VM,VO,Ka,true_and,↓qg,qc];refine qM (V:= .bool an) (by rfl) (by rfl) (by rw[<-hanq];exact c_contR wz _ rv qs (hq2.mono zqB) (fun q hm=>(hq3 q hm).mono zqB) (by omega)) ?_;simp+decide only[qa,putD,VM,VN,Ka];apply hK;clear hK K;refine qH (b:=_) rfl (fun hb1=>?_) (fun hb1=>?_)
 ·skip
  refine awp_rseq [4,5] (by rfl) fun K hK=>?_;simp+decide only[qa,ev,qI,qG,putD,VM,VN,Ka,true_and,↓qd,qb];apply hK;clear hK K;refine qL ?_;try simp only[Qg]
  refine Qb h zqB (qR (qR (Qc))) ?_;simp+decide only[VO,Ka,WH];rw[hR,if_pos hb1];exact⟨.nilSlice,rfl,OutR.nil h⟩
 ·skip
  rw[if_neg (by rw[hb1];decide)]at hR;have hrs:∀x∈rs,x.old≠[]:=fun x hx e=>by
   rw[hb1]at han;have:=han.symm;rw[Ej]at this;exact this x hx (by simp[e])
  refine qN ?_;change Awp _ _ _ _ _ _ _;refine awp_rseq [1,2,6] (by rfl) fun K hK=>?_;simp+decide only[qa,ev,qI,qG,putD,VM,VN,Ka,true_and,↓qd,qb];apply hK;clear hK K;refine qJ ?_;refine awp_rseq [1,2,6,7] (by rfl) fun K hK=>?_;refine Qi ze3 (cs:=[.int .i64 0]) (by rfl) fun k4q0 hk4q0=>?_;have ne_4q0_0q0:k4q0≠k0q0:=by simp only[V7]at hk4q0;simp only[hk4q0,ne_eq,not_false_eq_true]
  try have hf_4q0:h k4q0=none:=by first|assumption|(simp only[V7]at hk4q0;simp only[hk4q0])
  refine qp (by rfl) (by rfl) zqA sz3 (by rfl) (by rfl) zqD (Js _) (by rfl) ?_;simp only[Vh,VV];simp+decide only[qa,ev,qI,qG,putD,VM,VN,Ka,setAt,VW];apply hK;clear hK K;refine Qj ?_;refine Xj [1,2,6,7] (fun s:RpG=>[(1,rv),(2, .ptr (.own k0q0) 0),(6,QH 5 s.tb),(7, .ptr (.own s.ka) 0)]) (fun s:RpG=>QG ((h.set k0q0 ⟨[lv],0⟩).set s.ka ⟨[.int .i64 s.at_],0⟩) s.tb) (fun s:RpG=>RpOk h k0q0 lv l rs s/\s.out.length<=65536) (fun s:RpG=>l.length-s.at_) ⟨0,k4q0,none,[]⟩ (by rfl) (Vl _) ⟨⟨Js _,⟨hf_4q0,ne_4q0_0q0⟩,trivial,rfl,rfl⟩,Js _⟩ ?_;rintro⟨at_,ka,tb,out⟩ ⟨⟨g1,⟨g2,ne_a_0q0⟩,g4,g5,g6⟩,g7⟩;simp only at g1 g2 ne_a_0q0 g4 g5 g6 g7|-
  obtain⟨G,hG⟩:∃G,G=(h.set k0q0 ⟨[lv],0⟩).set ka ⟨[.int .i64 at_],0⟩:=⟨_,rfl⟩
  rw[<-hG]at g4|-
  have hsG:Sub h G:=by rw[hG];exact V3 (Vg hf_0q0) g2
  have gb_0:G k0q0=some ⟨[lv],0⟩:=by rw[hG];exact(Vb _ _ ne_a_0q0.symm).trans (Vd _ _ _)
  have gb_a:G ka=some ⟨[.int .i64 at_],0⟩:=by rw[hG];exact Vd _ _ _
  obtain⟨H1,hH1⟩:∃H1,H1=QG G tb:=⟨_,rfl⟩
  have hs_H1:Sub h H1:=by rw[hH1];exact hsG.trans (BH g4)
  have eb_0q0:H1 k0q0=some ⟨[lv],0⟩:=by rw[hH1];exact ZE g4 gb_0
  have eb_a:H1 ka=some ⟨[.int .i64 at_],0⟩:=by rw[hH1];exact ZE g4 gb_a
  have hbl:=QW 5 tb;rw[<-hH1];refine qJ ?_;refine awp_rseq [1,2,6,7,14] (by rfl) fun K hK=>?_;simp+decide only[qa,ev,putD,VM,VO,VN,Ka,true_and,↓qF,qY,qz ag3,qz UU,↓Xc,Qv,↓qw,ql,qP,cond_false,qo,XD,QC wz eb_0q0,QC wz eb_a,VX,qi,hll,nl];apply hK;clear hK K;refine qH (b:=_) rfl (fun hb2=>?_) (fun hb2=>?_)
  ·try simp only[decide_eq_true_eq]at hb2
   have hat:at_<l.length:=by omega
   have hst:=qsp hrs hat;refine qN ?_;change Awp _ _ _ _ _ _ _;refine qJ ?_;refine Qj ?_;refine awp_rseq [1,2,6,7,8] (by rfl) fun K hK=>?_;simp+decide only[ev,putD,VM,VO,Ka,true_and,↓qg,qc,↓qfe,qdN,evs,Kc,Vj];refine qM (V:= .int .i64 (qaU (fun q=>WS (l.drop at_) q.1.old) qs)) (by rfl) (by rfl) (qoz wz _ rv qs _ [.ptr (.own k0q0) 0, .ptr (.own ka) 0] (fun q=>WS (l.drop at_) q.1.old) (hq2.mono zqB) (fun q hm=>⟨(hq3 q hm).lives.1,(hq3 q hm).lives.2.1⟩) (by omega) (by rfl) (fun q hm=>c_rep2 wz _ q ((hq3 q hm).mono zqB) k0q0 ka lv l at_ zqA zqA (hlv.mono zqB) (by omega) g1)) ?_;simp+decide only[qa,ev,putD,VM,VO,VN,Ka,true_and,↓qd,qb];apply hK;clear hK K;refine qJ ?_;refine awp_rseq [1,2,6,7,8,19] (by rfl) fun K hK=>?_;simp+decide only[qa,ev,qI,qG,putD,VM,VO,VN,Ka,true_and,↓qg,qc,↓qw,ql,qy,cond_false,qo,XD];apply hK;clear hK K;refine Uo [1,2,6,7] (fun s:RpG=>[(1,rv),(2, .ptr (.own k0q0) 0),(6,QH 5 s.tb),(7, .ptr (.own s.ka) 0)]) (fun s:RpG=>QG ((h.set k0q0 ⟨[lv],0⟩).set s.ka ⟨[.int .i64 s.at_],0⟩) s.tb) (fun s:RpG=>RpOk h k0q0 lv l rs s/\s.out.length<=2000000/\at_<s.at_) ?_ ?_
   ·refine qH (b:=_) rfl (fun hb3=>?_) (fun hb3=>?_)
    ·try simp only[decide_eq_true_eq]at hb3
     have hnone:rs.find? (fun x=>WS (l.drop at_) x.old)=none:=by
      rcases qjY (r:=rs) (p:=fun x=>WS (l.drop at_) x.old)with z|⟨i,x,z1,z2,z3,z4⟩
      ·exact z.2
      ·exfalso
       have e:qaU (fun q:RepQ=>WS (l.drop at_) q.1.old) qs=i:=by
        rw[<-qgY (fun q:RepQ=>q.1) (fun x:RepC=>WS (l.drop at_) x.old) qs,<-hqs];unfold qaU;rw[z1]
       omega
     rw[hnone]at hst;obtain⟨lc,o,c,rfl⟩:=Wd hlv (by omega);obtain⟨t,ht⟩:∃t,t=l.getD at_ XZ:=⟨_,rfl⟩
     rw[show l.getD at_ noT=t from ht.symm]at hst;obtain⟨e0,e1,e2,e3,e4⟩:=YL (hlv.mono hs_H1) hat;rw[<-ht]at e0 e1 e2 e3 e4;have e2':rd wz H1 lc (o+at_*5+1+1)= .int .i64 t.line:=e2;have e3':rd wz H1 lc (o+at_*5+1+1+1)= .int .i64 t.col:=e3;have e4':rd wz H1 lc (o+at_*5+1+1+1+1)= .bool t.left:=e4;refine awp_rseq [1,2,6,7] (by rfl) fun K hK=>?_;simp+decide only[ev,putD,VM,VO,Ka,true_and,↓qg,qc,↓qF,qY,qz UU,qz ag3,↓Qp,qU Tryz.underlying26 Xb,qh Zv Xb,QC wz eb_0q0,QC wz eb_a,qf,VX,qC,qi,qE,allLive,JS,hll,e0,e1,e2',e3',e4',Vq];repeat (with_reducible refine And.intro ?_ ?_;· first|trivial|omega|(intro hg;simp only[Kw,JV,Ji,VP,VQ,VS,decide_eq_true_eq,decide_eq_false_iff_not,XK]at hg;omega))
     refine QA (cs:=QM t) (by kernel_rfl) fun k8q5 hk8q5=>?_;have hn_8q5:H1 k8q5=none:=by first|assumption|(simp only[V7]at hk8q5;simp only[hk8q5])
     have hf_8q5:h k8q5=none:=Bg hs_H1 hn_8q5;have ne_8q5_0q0:k8q5≠k0q0:=Bh hn_8q5 eb_0q0;have ne_8q5_a:k8q5≠ka:=Bh hn_8q5 eb_a;refine XH (es:=5) (zs:=out.map QM) (xs:=[QM t]) (hZ:=G) (b:=tb) (by rfl) (by rfl) Tryz.underlying26 Tryz.underlying26 (fun k e=>by cases e) Xb qkZ qaD (by rfl) (by decide) (by rfl) g4 g5 Xn (by rw[<-hH1];exact zqB) (by rfl) (V8 (Vd _ _ _) (by simp[QM]) (by rfl) (by rfl) (.exact 1) (KJ _)) (by rfl) (by simp;omega) (by simp;omega) fun tb2 h8 o1 o2 o3=>?_;have eb8:=o3 _ _ (ZE o1 gb_a);simp+decide only[qa,ev,putD,VM,VO,VN,Ka,true_and,↓qd,qb];apply hK;clear hK K;refine XE [1,2,6,7] (by rfl) ?_;simp+decide only[ev,qI,qG,putD,VM,VO,Ka,true_and,↓qF,qY,qz ag3,↓qw,ql,qy,cond_false,qo,QS,VX,qi,QC wz eb8];try simp(disch:=omega)only[wrap_i64]
     refine qp (by rfl) (by rfl) zqA sz3 (by rfl) (by rfl) zqD (Js _) (by rfl) ?_;simp only[VV];simp+decide only[qa,ev,putD,VO,VN,Ka,setAt,VW];try simp only[Qf]
     first
     |exact⟨⟨at_+1,ka,tb2,out++[t]⟩,rfl,by(rw[show(h.set k0q0 ⟨[.slice lc o l.length c],0⟩).set ka ⟨[.int .i64 ((at_+1:Nat):Int)],0⟩=G.set ka ⟨[.int .i64 ((at_+1:Nat):Int)],0⟩ by rw[hG,Vh],<-YW o1 gb_a];exact V9 o3 _ _),⟨hat,⟨g2,ne_a_0q0⟩,by(rw[show(h.set k0q0 ⟨[.slice lc o l.length c],0⟩).set ka ⟨[.int .i64 ((at_+1:Nat):Int)],0⟩=G.set ka ⟨[.int .i64 ((at_+1:Nat):Int)],0⟩ by rw[hG,Vh]];exact ZY o1 gb_a _),by rw[o2,Ba];rfl,by rw[<-g6,hst,K9];rfl⟩,by(simp only[Jb,KX,J8];omega),by(simp only;omega)⟩
     |exact⟨⟨at_+x.old.length,ka,tb2,out++x.new⟩,rfl,by(rw[show(h.set k0q0 ⟨[lv],0⟩).set ka ⟨[.int .i64 ((at_+x.old.length:Nat):Int)],0⟩=G.set ka ⟨[.int .i64 ((at_+x.old.length:Nat):Int)],0⟩ by rw[hG,Vh],<-YW o1 gb_a];exact V9 o3 _ _),⟨by(simp only;omega),⟨g2,ne_a_0q0⟩,by(rw[show(h.set k0q0 ⟨[lv],0⟩).set ka ⟨[.int .i64 ((at_+x.old.length:Nat):Int)],0⟩=G.set ka ⟨[.int .i64 ((at_+x.old.length:Nat):Int)],0⟩ by rw[hG,Vh]];exact ZY o1 gb_a _),by rw[o2,Ba,Em],by rw[<-g6,hst,K9]⟩,by(simp only[Jb];omega),by(simp only;omega)⟩
    ·try simp only[decide_eq_false_iff_not]at hb3
     obtain⟨i,x,z1,z2,z3,z4⟩:∃i x,rs.findIdx? (fun x=>WS (l.drop at_) x.old)=some i/\rs.find? (fun x=>WS (l.drop at_) x.old)=some x/\i<rs.length/\rs[i]?=some x:=by
      rcases qjY (r:=rs) (p:=fun x=>WS (l.drop at_) x.old)with z|z
      ·exfalso
       have e:qaU (fun q:RepQ=>WS (l.drop at_) q.1.old) qs= -1:=by
        rw[<-qgY (fun q:RepQ=>q.1) (fun x:RepC=>WS (l.drop at_) x.old) qs,<-hqs];unfold qaU;rw[z.1]
       omega
      ·exact z
     have e:qaU (fun q:RepQ=>WS (l.drop at_) q.1.old) qs=i:=by
      rw[<-qgY (fun q:RepQ=>q.1) (fun x:RepC=>WS (l.drop at_) x.old) qs,<-hqs];unfold qaU;rw[z1]
     rw[e];rw[z2]at hst;have hiq:i<qs.length:=by omega
     obtain⟨q,hqe⟩:∃q,q=qs.getD i qla:=⟨_,rfl⟩
     have hqm:q∈qs:=by rw[hqe];exact Uk qla hiq
     have hq1:q.1=x:=by
      rw[hqs,Eb,Jz hiq]at z4;rw[hqe,Kn,Jz hiq];exact Option.some.inj z4
     have hqk:=hq3 q hqm;obtain⟨y1,y2,y3,y4⟩:=hqk.lives;have hxm:x∈rs:=JZ z4;have hxn:=hn x hxm;have hfit:=fitsR_len (l:=l.drop at_) (o:=x.old) (by have:=BZ z2;exact this);rw[K5]at hfit;have hxo:0<x.old.length:=by
      rcases Nat.eq_zero_or_pos x.old.length with w|w
      ·exact absurd (Ke w) (hrs x hxm)
      ·exact w
     obtain⟨lcr,orr,cr,rfl⟩:=qnz hq2 (by omega);obtain⟨-,d1⟩:=qph (hq2.mono hs_H1) hiq;rw[<-hqe]at d1;have nold:=XY hqk.old;rw[hq1]at nold;have hnw:=hqk.new;rw[hq1]at hnw;refine awp_rseq [1,2,6,7,8] (by rfl) fun K hK=>?_;simp+decide only[ev,putD,VM,VO,Ka,true_and,↓qg,qc,↓Qp,qY,qU Tryz.underlying43 qeu,↓qB,qm,fa46_1,↓qF,qz UU,d1,y2,Vq];repeat (with_reducible refine And.intro ?_ ?_;· first|trivial|omega|(intro hg;simp only[Kw,JV,Ji,VP,VQ,VS,decide_eq_true_eq,decide_eq_false_iff_not,XK]at hg;omega))
     refine XH (es:=5) (zs:=out.map QM) (xs:=x.new.map QM) (hZ:=G) (b:=tb) (by rfl) (by rfl) Tryz.underlying26 Tryz.underlying26 (fun k e=>by cases e) Xb qkZ qaD (by rfl) (by decide) (by rfl) g4 g5 Xn (by rw[<-hH1];exact zqB) (by rfl) (hnw.mono zqB) (by rw[YZ];intro z hz;obtain⟨t,_,rfl⟩:=JG.1 hz;rfl) (by simp;omega) (by simp;omega) fun tb2 h10 o1 o2 o3=>?_;have eb10:=o3 _ _ (ZE o1 gb_a);have hs10:Sub h h10:=(hsG.trans (BH o1)).trans o3;obtain⟨d0,-⟩:=qph (hq2.mono hs10) hiq;rw[<-hqe]at d0;simp+decide only[qa,ev,putD,VM,VO,VN,Ka,true_and,↓qd,qb];apply hK;clear hK K;refine qbd 8 mixed (by kernel_rfl) (by rfl) (by rfl) ?_;simp+decide only[ev,putD,VM,VO,Ka,true_and,↓qF,qY,qz ag3,↓qg,qc,↓Qp,qU Tryz.underlying43 qeu,↓qB,qm,qmG,qz UU,↓Xc,Qv,↓qw,ql,qP,cond_false,qo,QS,VX,qi,QC wz eb10,d0,y1,nold,Vq,K6];try simp(disch:=omega)only[wrap_i64]
     repeat (with_reducible refine And.intro ?_ ?_;· first|trivial|omega|(intro hg;simp only[Kw,JV,Ji,VP,VQ,VS,decide_eq_true_eq,decide_eq_false_iff_not,XK]at hg;omega))
     refine qp (by rfl) (by rfl) zqA sz3 (by rfl) (by rfl) zqD (Js _) (by rfl) ?_;simp only[VV];simp+decide only[qa,ev,putD,VO,Ka,setAt,VW];try simp only[Qf]
     first
     |exact⟨⟨at_+1,ka,tb2,out++[t]⟩,rfl,by(rw[show(h.set k0q0 ⟨[.slice lc o l.length c],0⟩).set ka ⟨[.int .i64 ((at_+1:Nat):Int)],0⟩=G.set ka ⟨[.int .i64 ((at_+1:Nat):Int)],0⟩ by rw[hG,Vh],<-YW o1 gb_a];exact V9 o3 _ _),⟨hat,⟨g2,ne_a_0q0⟩,by(rw[show(h.set k0q0 ⟨[.slice lc o l.length c],0⟩).set ka ⟨[.int .i64 ((at_+1:Nat):Int)],0⟩=G.set ka ⟨[.int .i64 ((at_+1:Nat):Int)],0⟩ by rw[hG,Vh]];exact ZY o1 gb_a _),by rw[o2,Ba];rfl,by rw[<-g6,hst,K9];rfl⟩,by(simp only[Jb,KX,J8];omega),by(simp only;omega)⟩
     |exact⟨⟨at_+x.old.length,ka,tb2,out++x.new⟩,rfl,by(rw[show(h.set k0q0 ⟨[lv],0⟩).set ka ⟨[.int .i64 ((at_+x.old.length:Nat):Int)],0⟩=G.set ka ⟨[.int .i64 ((at_+x.old.length:Nat):Int)],0⟩ by rw[hG,Vh],<-YW o1 gb_a];exact V9 o3 _ _),⟨by(simp only;omega),⟨g2,ne_a_0q0⟩,by(rw[show(h.set k0q0 ⟨[lv],0⟩).set ka ⟨[.int .i64 ((at_+x.old.length:Nat):Int)],0⟩=G.set ka ⟨[.int .i64 ((at_+x.old.length:Nat):Int)],0⟩ by rw[hG,Vh]];exact ZY o1 gb_a _),by rw[o2,Ba,Em],by rw[<-g6,hst,K9]⟩,by(simp only[Jb];omega),by(simp only;omega)⟩
   ·rintro⟨at2,ka2,tb2,out2⟩ ⟨⟨f1,⟨f2,ne_a2_0q0⟩,f4,f5,f6⟩,f7,f8⟩
    simp only at f1 f2 ne_a2_0q0 f4 f5 f6 f7 f8|-
    obtain⟨G2,hG2⟩:∃G2,G2=(h.set k0q0 ⟨[lv],0⟩).set ka2 ⟨[.int .i64 at2],0⟩:=⟨_,rfl⟩
    rw[<-hG2]at f4|-
    have hsG2:Sub h G2:=by rw[hG2];exact V3 (Vg hf_0q0) f2
    have gb_0:G2 k0q0=some ⟨[lv],0⟩:=by rw[hG2];exact(Vb _ _ ne_a2_0q0.symm).trans (Vd _ _ _)
    have gb_a2:G2 ka2=some ⟨[.int .i64 at2],0⟩:=by rw[hG2];exact Vd _ _ _
    obtain⟨H2,hH2⟩:∃H2,H2=QG G2 tb2:=⟨_,rfl⟩
    have hs_H2:Sub h H2:=by rw[hH2];exact hsG2.trans (BH f4)
    have eb_0q0:H2 k0q0=some ⟨[lv],0⟩:=by rw[hH2];exact ZE f4 gb_0
    have eb_a2:H2 ka2=some ⟨[.int .i64 at2],0⟩:=by rw[hH2];exact ZE f4 gb_a2
    have hbl2:=QW 5 tb2;have nb2:=XY (BF (wz:=wz) f4 (by decide) f5 Xn (Vl _));rw[<-hH2];skip;refine awp_rseq [1,2,6,7,46] (by rfl) fun K hK=>?_;simp+decide only[qa,ev,qI,qG,putD,VM,VO,VN,Ka,true_and,↓qg,qc,↓Xc,Qv,↓qw,ql,qy,cond_false,qo,qah,nb2];apply hK;clear hK K;refine qH (b:=_) rfl (fun hb4=>?_) (fun hb4=>?_)
    ·try simp only[decide_eq_true_eq]at hb4
     refine awp_rseq [4,5] (by rfl) fun K hK=>?_;simp+decide only[qa,ev,qI,qG,putD,VM,VN,Ka,true_and,↓qd,qb];apply hK;clear hK K;refine qL ?_;try simp only[Qg,Qn]
     refine Qb h zqB (qR (qR (Qc))) ?_;simp+decide only[VO,Ka,WH];have hlen:65536<(qcv rs l).length:=by
      rw[<-f6,Jb];omega
     rw[hR,if_pos hlen];exact⟨.nilSlice,rfl,OutR.nil h⟩
    ·try simp only[decide_eq_false_iff_not]at hb4
     refine qN ?_;change Awp _ _ _ _ _ _ _;refine awp_rseq [1,2,6,47] (by rfl) fun K hK=>?_;simp+decide only[qa,ev,putD,VM,VO,VN,Ka,true_and,↓qF,qY,qz ag3,QC wz eb_a2,VX,qi];apply hK;clear hK K;refine XE [1,2,6,7] (by rfl) ?_;refine Qi ze3 (cs:=[.int .i64 0]) (by rfl) fun k15q0 hk15q0=>?_;have hn_15q0:H2 k15q0=none:=by first|assumption|(simp only[V7]at hk15q0;simp only[hk15q0])
     have hf_15q0:h k15q0=none:=Bg hs_H2 hn_15q0;have ne_15q0_0q0:k15q0≠k0q0:=Bh hn_15q0 eb_0q0;have ne_15q0_a2:k15q0≠ka2:=Bh hn_15q0 eb_a2;refine qp (by rfl) (by rfl) zqA sz3 (by rfl) (by rfl) zqD (Js _) (by rfl) ?_;simp only[Vh,VV];simp+decide only[qa,ev,putD,VM,VO,VN,Ka,setAt,VW];try simp only[Qf]
     have hnew:=qko (b:=tb2) (H:=G2) (j:=k15q0) (by rw[<-hH2];exact hn_15q0) ⟨[.int .i64 at2],0⟩;exact⟨⟨at2,k15q0,tb2,out2⟩,rfl,by(rw[hH2,hnew.1,hG2];exact Sub.bufBoth (V9 (Vg ((Vb _ _ ne_a2_0q0).trans f2)) _ _)),⟨⟨f1,⟨hf_15q0,ne_15q0_0q0⟩,(qlP f4 (by rw[<-hH2];exact hn_15q0) ⟨[.int .i64 at2],0⟩).sub (by rw[hG2];exact V9 (Vg ((Vb _ _ ne_a2_0q0).trans f2)) _ _),f5,f6⟩,by simp only;omega⟩,by simp only;omega⟩
  ·try simp only[decide_eq_false_iff_not]at hb2
   have hae:at_=l.length:=by omega
   rw[hae,JY,repE_nil,Be]at g6;have hlb:IsL wz H1 5 (QH 5 tb) (out.map QM):=by rw[hH1];exact BF g4 (by decide) g5 Xn (Vl _)
   refine Xm ?_;change Awp _ _ _ _ _ _ _;refine awp_rseq [4,5] (by rfl) fun K hK=>?_;simp+decide only[ev,putD,VM,VO,Ka,true_and,↓qg,qc];refine qM (V:=Ym (QH 5 tb)) (by rfl) (by rfl) (qmU wz _ _ (out.map QM) hlb) ?_;simp+decide only[qa,ev,qI,qG,putD,VM,VO,VN,Ka,true_and,↓qd,qb];apply hK;clear hK K;refine qL ?_;refine QF (qR (qR (Qc))) ?_;simp+decide only[VO,Ka,WH];rw[hR,if_neg (by rw[<-g6];omega)];exact⟨QG h tb,by rw[hH1];exact Sub.bufBoth hsG,Ym (QH 5 tb),rfl,tb,rfl,g4.sub hsG,by rw[g5,g6],rfl⟩
end Go.Proofs.YtlhhaagmakhilaaGreatDoor
namespace Go.Proofs.YtlhhaagmakhilaaGreatDoor
open Go.AM
open Go.Proofs
open Go.Col
open Go.Tok
open Go.Cop
open Go.RowKit (Below)
set_option maxRecDepth 100000
theorem ACall.down{P:Program}{wz:World}{f:FuncId}{args:List AVal}{h H:AHeap}{R:AVal->AHeap->Prop}(hs:Sub H h)(hc:ACall P wz f args H R):ACall P wz f args h R:=fun fi vals w hr hv=>hc fi vals w (hr.forget hs) hv
def qaj(s:Str):List AVal:=[.str s]
theorem qaR{l:List Str}:∀x∈l.map qaj,x.length=1:=fun x hx=>by obtain⟨y,_,rfl⟩:=JG.1 hx;rfl
def qat(G:AHeap)(kx:Nat)(mv mo:AVal)(nb:Option Buf)(cp:Int):AHeap:=QG (G.set kx ⟨[mv,mo,QH 1 nb, .int .i64 cp],0⟩) nb
structure UseOk(G:AHeap)(kx:Nat)(nb:Option Buf)(ns:List Str):Prop where
 bx:G kx=none
 ok:∀X,bufOk (G.set kx X) 1 nb
 eq:Yn nb=(ns.map qaj).flatten
section
variable {G:AHeap} {kx:Nat} {mv mo:AVal} {nb:Option Buf} {cp:Int} {ns:List Str}
theorem UseOk.at(hu:UseOk G kx nb ns):qat G kx mv mo nb cp kx=some ⟨[mv,mo,QH 1 nb, .int .i64 cp],0⟩:=ZE (hu.ok _) (Vd _ _ _)
theorem UseOk.above(hu:UseOk G kx nb ns):Sub G (qat G kx mv mo nb cp):=(Vg hu.bx).trans (BH (hu.ok _))
theorem UseOk.set(hu:UseOk G kx nb ns)(X:Blk):(qat G kx mv mo nb cp).set kx X=QG (G.set kx X) nb:=by
 unfold qat;rw[YW (hu.ok _) (Vd _ _ _),Vh]
theorem UseOk.down(hu:UseOk G kx nb ns){G':AHeap}(hs:Sub G' G):UseOk G' kx nb ns:=⟨hs.none hu.bx,fun X=>(hu.ok X).sub (V9 hs _ _),hu.eq⟩
theorem UseOk.names(wz:World)(hu:UseOk G kx nb ns):IsL wz (qat G kx mv mo nb cp) 1 (QH 1 nb) (ns.map qaj):=BF (hu.ok _) (by decide) hu.eq qaR (Vl _)
theorem UseOk.lay(hu:UseOk G kx nb ns){j:Nat}(hj:qat G kx mv mo nb cp j=none)(c:Blk):(qat G kx mv mo nb cp).set j c=qat (G.set j c) kx mv mo nb cp/\UseOk (G.set j c) kx nb ns/\G j=none/\j≠kx:=by
 have hne:j≠kx:=fun e=>by rw[e,hu.at]at hj;cases hj
 have hn:=qko hj c;have hg:G j=none:=by
  have:=hn.2
  rwa [Vb _ _ hne]at this
 refine⟨?_,⟨(Vb _ _ hne.symm).trans hu.bx,fun X=>?_,hu.eq⟩,hg,hne⟩
 ·unfold qat
  rw[hn.1,Vi _ _ _ hne]
 ·have h1:=hu.ok X
  have h2:QG (G.set kx X) nb j=none:=by
   cases nb with
   |none=>exact(Vb _ _ hne).trans hg
   |some b=>
    have hnb:j≠b.blk:=fun e=>by
     rw[e]at hj;rw[show qat G kx mv mo (some b) cp=(G.set kx ⟨[mv,mo,QH 1 (some b), .int .i64 cp],0⟩).set b.blk ⟨b.cells,0⟩from rfl,Vd]at hj;cases hj
    exact(Vb _ _ hnb).trans ((Vb _ _ hne).trans hg)
  have h3:=qlP h1 h2 c
  rwa [Vi _ _ _ hne]at h3
end
set_option maxHeartbeats 1000000 in
theorem c_use(wz:World)(G:AHeap)(kx:Nat)(mv mo:AVal)(nb:Option Buf)(cp:Int)(ns:List Str)(s:Str)(hu:UseOk G kx nb ns)(hn:ns.length<=1000000)(hmv:mv.scal=true)(hmo:mo.scal=true):
 ACall Tryz.prog wz 44 [.ptr (.own kx) 0, .str s] (qat G kx mv mo nb cp) (fun r h'=>r= .tuple []/\∃nb',UseOk G kx nb' (Cop.addE ns s)/\h'=qat G kx mv mo nb' cp):=by
 obtain⟨H,hH⟩:∃H,H=qat G kx mv mo nb cp:=⟨_,rfl⟩
 have hs_H:Sub G H:=by rw[hH];exact hu.above
 have eb_x:H kx=some ⟨[mv,mo,QH 1 nb, .int .i64 cp],0⟩:=by rw[hH];exact hu.at
 have hbl:=QW 1 nb;have hst:IsStrs wz H (QH 1 nb) ns:=by rw[hH];exact hu.names wz
 have hml:=ZU hmv;have hol:=ZU hmo;rw[<-hH];refine qW (n:=21) (rs:=[]) Tryz.func44 rfl rfl rfl rfl (VL rfl) ?_;simp only[Qe];refine awp_rseq [0,1,10] (by rfl) fun K hK=>?_;simp+decide only[ev,putD,VM,VO,Ka,true_and,↓qg,qc,↓Ql,qV,Qt,↓qB,qm,qjZ,↓qF,qY,qz ag30,QC wz eb_x,VX,Km,Jr,hbl];refine qM (V:= .bool (ns.contains s)) (by rfl) (by rfl) (qkk wz _ (QH 1 nb) ns s hst (by omega)) ?_;simp+decide only[qa,ev,putD,VM,VO,VN,Ka,true_and,↓Yj,XW,Yc];apply hK;clear hK K;refine qH (b:=_) rfl (fun hb1=>?_) (fun hb1=>?_)
 ·try simp only[Ji]at hb1
  have hc:ns.contains s=false:=by simpa using hb1
  refine XE [] (by rfl) ?_;simp+decide only[ev,putD,VM,VO,Ka,true_and,↓qg,qc,↓Ql,qV,Qt,↓qB,qm,qjZ,↓qF,qY,qz ag30,QC wz eb_x,VX,Km,Jr,hbl];refine QA (cs:=[.str s]) (by kernel_rfl) fun k1q6 hk1q6=>?_;have hn_1q6:H k1q6=none:=by first|assumption|(simp only[V7]at hk1q6;simp only[hk1q6])
  have hf_1q6:G k1q6=none:=Bg hs_H hn_1q6;have ne_1q6_x:k1q6≠kx:=Bh hn_1q6 eb_x;refine XH (es:=1) (zs:=ns.map qaj) (xs:=[qaj s]) (hZ:=G.set kx ⟨[mv,mo,QH 1 nb, .int .i64 cp],0⟩) (b:=nb) (by rfl) (by rfl) Tryz.underlying30 Tryz.underlying30 (fun k e=>by cases e) sz9 by9 ze9 (by rfl) (by decide) (by rfl) (hu.ok _) hu.eq qaR (by rw[show QG (G.set kx ⟨[mv,mo,QH 1 nb, .int .i64 cp],0⟩) nb=H from hH.symm];exact Vg hn_1q6) (by rfl) (V8 (Vd _ _ _) (by simp[qaj]) (by rfl) (by rfl) (.exact 1) (KJ _)) (by rfl) (by simp;omega) (by simp;omega) fun nb2 h1 o1 o2 o3=>?_;have eb1:=o3 _ _ (ZE o1 (Vd _ _ _));simp+decide only[ev,putD,VM,VO,Ka,true_and,↓Ql,qV,Qt,↓qB,qm,qjZ,Jr];refine qp (v:=QH 1 nb2) (by rfl) (by rfl) eb1 sz30 (QW _ _) (by rw[Ue];rfl) (by simp) (Js _) (by rw[Ue];simp[Qr,XU]) ?_;simp only[setAt,Ue,VW,Ki];simp+decide only[qa,putD,VN,if_false];refine qft (Qc) ?_;simp+decide only[true_and,qfu];have ha:Cop.addE ns s=ns++[s]:=by unfold Cop.addE;rw[if_neg (by rw[hc];decide)]
  refine⟨qat G kx mv mo nb2 cp,?_,nb2,⟨hu.bx,fun X=>?_,?_⟩,rfl⟩
  ·unfold qat
   rw[<-Vh G kx ⟨[mv,mo,QH 1 nb, .int .i64 cp],0⟩,<-YW o1 (Vd _ _ _)];exact V9 o3 _ _
  ·have:=ZY o1 (Vd _ _ _) X
   rwa [Vh]at this
  ·rw[o2,ha,Ba]
   rfl
 ·try simp only[VS]at hb1
  have hc:ns.contains s=true:=by simpa using hb1
  refine qN ?_;refine qft (Qc) ?_;simp+decide only[true_and,qfu];have ha:Cop.addE ns s=ns:=by unfold Cop.addE;rw[if_pos hc]
  exact⟨H,Vl _,nb,by rw[ha];exact hu,hH⟩
end Go.Proofs.YtlhhaagmakhilaaGreatDoor
namespace Go.Proofs.YtlhhaagmakhilaaGreatDoor
open Go.AM
open Go.Proofs
open Go.Col (Str FaultC okF)
open Go.Tok
open Go.Cop
open Go.RowKit (Below)
set_option maxRecDepth 100000
theorem qoo(l:List TokC)(i j:Nat):(qal l i j).length<=l.length:=by
 unfold qal;rw[K4,K5];omega
theorem pair_new(l:List TokC)(i:Nat):(YG l i).rep.new.length<=l.length:=by
 unfold YG;simp only;split
 ·exact Js _
 ·split
  ·exact Js _
  ·exact qoo _ _ _
theorem qll(l:List TokC):∀(f i:Nat) (first:Bool) (acc:List RepC),(∀x∈acc,x.new.length<=l.length)->(∀x∈(YD l f i first acc).reps,x.new.length<=l.length)/\(YD l f i first acc).reps.length<=acc.length+f
 |0,i,first,acc,h=>⟨h,KJ _⟩
 |f+1,i,first,acc,h=>by
  rw[YD];split
  ·simp only
   split
   ·exact⟨(fun x hx=>by cases hx),Js _⟩
   ·have:=qll l f (YG l i).at_ false (acc++[(YG l i).rep]) fun x hx=>by
     rcases JI.1 hx with z|z
     ·exact h x z
     ·rw[BD.1 z];exact pair_new l i
    refine⟨this.1,?_⟩;have h2:=this.2;rw[Jb,JR]at h2;omega
  ·exact⟨h,El _ _⟩
theorem qoH(l:List TokC)(t:TokC)(p:Pairs):(Yu l t p).reps=[]\/(Yu l t p).reps=p.reps:=by
 unfold Yu;split
 ·exact .inl rfl
 ·split
  ·exact .inl rfl
  ·exact .inr rfl
theorem qjo(l:List TokC)(i:Nat):(∀x∈(QL l i).reps,x.new.length<=l.length)/\(QL l i).reps.length<=l.length+2:=by
 unfold QL;split
 ·exact⟨(fun x hx=>by cases hx),Js _⟩
 ·rcases qoH l (l.getD i noT) (if Zt l (i+1) ZN=true then YD l (l.length+2) (i+2) true []else⟨true,[],i+1⟩)with e|e
  ·rw[e]
   exact⟨(fun x hx=>by cases hx),Js _⟩
  ·rw[e]
   split
   ·have:=qll l (l.length+2) (i+2) true [] (fun x hx=>by cases hx)
    refine⟨this.1,?_⟩;have h2:=this.2;rw[J8]at h2;omega
   ·exact⟨(fun x hx=>by cases hx),Js _⟩
def opC(e:Nat×Str):AVal:= .mapE e.1 (.str e.2) (.bool true)
def Ya(B:AHeap)(kx km:Nat)(mv:AVal)(c:Nat)(es:List (Nat×Str))(nb:Option Buf)(cp:Nat):AHeap:=qat (B.set km (XO c (es.map opC))) kx mv (.map km) nb cp
structure ExOk(B:AHeap)(kx km:Nat)(nb:Option Buf)(ns:List Str):Prop where
 bm:B km=none
 bx:B kx=none
 ne:km≠kx
 use:∀M,UseOk (B.set km M) kx nb ns
section
variable {B:AHeap} {kx km:Nat} {mv:AVal} {c:Nat} {es:List (Nat×Str)} {nb:Option Buf} {cp:Nat} {ns:List Str}
theorem ExOk.x(he:ExOk B kx km nb ns):Ya B kx km mv c es nb cp kx=some ⟨[mv, .map km,QH 1 nb, .int .i64 cp],0⟩:=(he.use _).at
theorem ExOk.m(he:ExOk B kx km nb ns):Ya B kx km mv c es nb cp km=some (XO c (es.map opC)):=(he.use _).above _ _ (Vd _ _ _)
theorem ExOk.above(he:ExOk B kx km nb ns):Sub B (Ya B kx km mv c es nb cp):=(Vg he.bm).trans (he.use _).above
theorem ExOk.set_x(he:ExOk B kx km nb ns)(cp':Nat):(Ya B kx km mv c es nb cp).set kx ⟨[mv, .map km,QH 1 nb, .int .i64 cp'],0⟩=Ya B kx km mv c es nb cp':=(he.use _).set _
theorem ExOk.set_m(he:ExOk B kx km nb ns)(c':Nat)(es':List (Nat×Str)):(Ya B kx km mv c es nb cp).set km (XO c' (es'.map opC))=Ya B kx km mv c' es' nb cp:=by
 unfold Ya qat;rw[YW ((he.use _).ok _) ((Vb _ _ he.ne).trans (Vd _ _ _)),Vi _ _ _ he.ne,Vh]
theorem ExOk.down(he:ExOk B kx km nb ns){B':AHeap}(hs:Sub B' B):ExOk B' kx km nb ns:=⟨hs.none he.bm,hs.none he.bx,he.ne,fun M=>(he.use M).down (V9 hs _ _)⟩
theorem qdp{B':AHeap}(hs:Sub B' B):Sub (Ya B' kx km mv c es nb cp) (Ya B kx km mv c es nb cp):=Sub.bufBoth (V9 (V9 hs _ _) _ _)
theorem ExOk.lay(he:ExOk B kx km nb ns){j:Nat}(hj:Ya B kx km mv c es nb cp j=none)(b:Blk):(Ya B kx km mv c es nb cp).set j b=Ya (B.set j b) kx km mv c es nb cp/\ExOk (B.set j b) kx km nb ns:=by
 have hnm:j≠km:=fun e=>by rw[e,he.m]at hj;cases hj
 have hnx:j≠kx:=fun e=>by rw[e,he.x]at hj;cases hj
 obtain⟨h1,h2,h3,h4⟩:=(he.use (XO c (es.map opC))).lay hj b;refine⟨?_,(Vb _ _ hnm.symm).trans he.bm,(Vb _ _ hnx.symm).trans he.bx,he.ne,fun M=>?_⟩
 ·unfold Ya
  rw[h1,Vi _ _ _ hnm]
 ·have hj2:qat (B.set km M) kx mv (.map km) nb cp j=none:=by
   have hb:B j=none:=by
    have:=h3
    rwa [Vb _ _ hnm]at this
   unfold Ya qat at hj;unfold qat;cases nb with
   |none=>exact(Vb _ _ hnx).trans ((Vb _ _ hnm).trans hb)
   |some b'=>
    have hnb:j≠b'.blk:=fun e=>by
     rw[e,show QG ((B.set km (XO c (es.map opC))).set kx ⟨[mv, .map km,QH 1 (some b'), .int .i64 cp],0⟩) (some b')=((B.set km (XO c (es.map opC))).set kx ⟨[mv, .map km,QH 1 (some b'), .int .i64 cp],0⟩).set b'.blk ⟨b'.cells,0⟩from rfl,Vd]at hj;cases hj
    exact(Vb _ _ hnb).trans ((Vb _ _ hnx).trans ((Vb _ _ hnm).trans hb))
  have:=((he.use M).lay hj2 b).2.1
  rwa [Vi _ _ _ hnm]at this
theorem ExOk.off(he:ExOk B kx km nb ns){B':AHeap}{j:Nat}{b:Blk}(hj:B j=some b)(hj':B' j=none):Ya B' kx km mv c es nb cp j=none:=by
 have hnm:j≠km:=fun e=>by rw[e,he.bm]at hj;cases hj
 have hnx:j≠kx:=fun e=>by rw[e,he.bx]at hj;cases hj
 have h1:=(he.use ⟨[],0⟩).ok ⟨[],0⟩;unfold Ya qat;cases nb with
 |none=>exact(Vb _ _ hnx).trans ((Vb _ _ hnm).trans hj')
 |some b'=>
  have hnb:j≠b'.blk:=fun e=>by
   have h2:((B.set km ⟨[],0⟩).set kx ⟨[],0⟩) b'.blk=none:=h1.1;rw[<-e,Vb _ _ hnx,Vb _ _ hnm,hj]at h2;cases h2
  exact(Vb _ _ hnb).trans ((Vb _ _ hnx).trans ((Vb _ _ hnm).trans hj'))
end
structure ExpR(B:AHeap)(kx km:Nat)(mv:AVal)(op:List Str)(st:Xs)(h:AHeap):Prop where
 few:st.names.length<=5000
 ex:∃c es nb,ExOk B kx km nb st.names/\es.map (·.2)=op/\Sub (Ya B kx km mv c es nb st.copies) h
theorem qjN(s:Str):∀(es:List (Nat×Str)) (k:Nat),s∉es.map (·.2)->qaG (.str s) (es.map opC) k=some none
 |[],_,_=>rfl
 |e::es,k,h=>by
  simp only[Kc,KW,not_or]at h;rw[Kc,opC,qaG];simp only[kEq];rw[decide_eq_false h.1];exact qjN s es (k+1) h.2
theorem qch(s:Str)(b:Nat):∀(es:List (Nat×Str)) (k:Nat),s∉es.map (·.2)->qaG (.str s) ((es++[(b,s)]).map opC) k=some (some (k+es.length, .bool true))
 |[],k,_=>by
  rw[Jd,Kc,Vj,opC,qaG];simp only[kEq,decide_true];rfl
 |e::es,k,h=>by
  simp only[Kc,KW,not_or]at h;rw[Kg,Kc,opC,qaG];simp only[kEq];rw[decide_eq_false h.1,KX,show k+(es.length+1)=(k+1)+es.length by omega];exact qch s b es (k+1) h.2
theorem qnU(s:Str):∀(es:List (Nat×Str)) (k:Nat),s∈es.map (·.2)->∃j,qaG (.str s) (es.map opC) k=some (some (j, .bool true))
 |[],_,h=>by cases h
 |e::es,k,h=>by
  rw[Kc,opC,qaG];simp only[kEq];by_cases q:s=e.2
  ·rw[decide_eq_true q]
   exact⟨k,rfl⟩
  ·rw[decide_eq_false q]
   rw[Kc,KW]at h;exact qnU s es (k+1) (h.resolve_left q)
theorem look_op{h:AHeap}{km c:Nat}{es:List (Nat×Str)}{s:Str}(hm:h km=some (XO c (es.map opC))):qaw Tryz.prog h 74 (.map km) (.str s) false=⟨True, .bool ((es.map (·.2)).contains s)⟩:=by
 by_cases q:s∈es.map (·.2)
 ·obtain⟨j,hj⟩:=qnU s es 0 q
  rw[qpo Tryz.underlying74 ze4 hm (by rfl) hj,qir,JW.2 q]
 ·rw[qnO Tryz.underlying74 ze4 hm (by rfl) (qjN s es 0 q),qir]
  have:(es.map (·.2)).contains s=false:=by
   rw[Bool.eq_false_iff];intro z;exact q (JW.1 z)
  rw[this];rfl
theorem len_op{h:AHeap}{km c:Nat}{es:List (Nat×Str)}(hm:h km=some (XO c (es.map opC))):Yr Tryz.prog h 74 (.map km)=⟨True, .int .i64 es.length⟩:=by
 have:=pLen_map Tryz.underlying74 (UE hm)
 rwa [Jo]at this
theorem c_mem2(wz:World)(h:AHeap)(q:MemQ)(hq:q.2.live=true)(hqc:q.2.cells=[q.2])(kn:Nat)(s:Str)(eb_n:h kn=some ⟨[.str s],0⟩):
 ACall Tryz.prog wz 58 ([.agg (qgS q)]++[.ptr (.own kn) 0]) h (fun r h'=>r= .bool (decide (q.1.name=s))/\h'=h):=by
 have hs_h:Sub h h:=Vl h;obtain⟨⟨nm,tk⟩,tv⟩:=q;simp only at hq hqc;unfold qgS;simp only[Kg,Jd];refine qW (n:=8) (rs:=[.tmp 3]) Tryz.func58 rfl rfl rfl rfl (VL rfl) ?_;simp only[Qe];refine awp_rseq [1,2] (by rfl) fun K hK=>?_;refine WN (v:= .agg [.str nm,tv]) (cs:=[.str nm,tv]) (by rfl) (by simp+decide only[lv_agg]) (by rfl) fun k0q0 hk0q0=>?_;have hn_0q0:h k0q0=none:=by first|assumption|(simp only[V7]at hk0q0;simp only[hk0q0])
 have hf_0q0:h k0q0=none:=Bg hs_h hn_0q0;have ne_0q0_n:k0q0≠kn:=Bh hn_0q0 eb_n;simp+decide only[qa,ev,qI,qG,putD,VM,VN,Ka,true_and,↓qd,qb,Jr];apply hK;clear hK K;refine awp_rseq [3] (by rfl) fun K hK=>?_;simp+decide only[qa,ev,putD,VM,VO,VN,Ka,true_and,↓qB,qm,fa57_0,↓qF,qY,qz ag9,↓qw,ql,qP,cond_false,Za,qdR,↓qd,qb,QZ,ne_eq,not_false_eq_true,ne_0q0_n.symm,QC wz eb_n,QN,VX,Jr,qE];apply hK;clear hK K;refine qL ?_;refine Qb h zqC (qR (Qc)) ?_;simp+decide only[VO,if_true,and_true,Qs];all_goals first|rfl|exact⟨rfl,rfl⟩|(simp+decide only[Ka, *];done)|(trace_state;fail)
theorem qki(wz:World)(h:AHeap)(ks:Nat)(t:TokC)(rv:AVal)(hrl:rv.live=true)(e:Int)(eb_s:h ks=some ⟨qkP t rv,0⟩):
 ACall Tryz.prog wz 56 ([.int .i64 e]++[.ptr (.own ks) 0]) h (fun r h'=>r= .tuple [.nilSlice,Qu ⟨e,t.line,t.col⟩]/\h'=h):=by
 have hs_h:Sub h h:=Vl h;unfold qkP at eb_s;simp only[Kg,Jd];refine qW (n:=10) (rs:=[.tmp 3, .cell 4 35]) Tryz.func56 rfl rfl rfl rfl (VL rfl) ?_;simp only[Qe];refine awp_rseq [0,1,4] (by rfl) fun K hK=>?_;simp+decide only[ev,qI,qG,putD,VM,if_false,true_and,↓qd,qb,Jr];refine Qi qap (cs:=[.int .i64 0, .int .i64 0, .int .i64 0]) (by rfl) fun k0q1 hk0q1=>?_;have hn_0q1:h k0q1=none:=by first|assumption|(simp only[V7]at hk0q1;simp only[hk0q1])
 have hf_0q1:h k0q1=none:=Bg hs_h hn_0q1;have ne_0q1_s:k0q1≠ks:=Bh hn_0q1 eb_s;simp+decide only[qa,putD,VM,VN,Ka];apply hK;clear hK K;refine Zr 6 [3,4] mixed (by kernel_rfl) (by rfl) (by rfl) fun K hK=>?_;simp+decide only[ev,qI,qG,putD,VM,VO,Ka,true_and,↓qg,qc,↓qB,qm,qmE,qeZ,↓qF,qY,qh qfg qbe,↓Qo,↓qZ,WL,evP,Kc,Vj,↓qd,qb,QZ,ne_eq,not_false_eq_true,ne_0q1_s.symm,QC wz eb_s,qf,VX,Km,Jr,Nat.reduceAdd,qi,allLive,JS];refine qp (by rfl) (by rfl) zqA QI (by rfl) (by rfl) zqD (Js _) (by rfl) ?_;simp only[Vh,VV];simp+decide only[qa,ev,putD,VO,VN,Ka,setAt,VW,Ki,Jr,Nat.reduceAdd];apply hK;clear hK K;refine qL ?_;refine Qb h zqC (?_) ?_
 ·simp+decide only[QD,qA,qj,VO,Ka,and_true,qA,qj,qh Xo QI,Qa,qf,VX,Km,Jr,Nat.reduceAdd,qi,allLive,JS,qf,VX,Km,Jr,Nat.reduceAdd,qi,allLive,JS]
 simp+decide only[VO,Ka,and_true,Xg,qA,qj,qh Xo QI,Qa,qf,VX,Km,Jr,Nat.reduceAdd,qi,allLive,JS,qf,VX,Km,Jr,Nat.reduceAdd,qi,allLive,JS,Qu];all_goals first|rfl|exact⟨rfl,rfl⟩|(simp+decide only[Ka, *];done)|(trace_state;fail)
end Go.Proofs.YtlhhaagmakhilaaGreatDoor
namespace Go.Proofs.YtlhhaagmakhilaaGreatDoor
open Go.AM
open Go.Proofs
open Go.Col (Str FaultC okF)
open Go.Tok
open Go.Cop
open Go.RowKit (Below)
set_option maxRecDepth 100000
def ListR(wz:World)(B:AHeap)(kx km:Nat)(mv:AVal)(op:List Str)(x:Xr)(r:AVal)(h':AHeap):Prop:=
 ∃(tb:Option Buf) (st':Xs) (bv:AVal) (bf:FaultC),bufOk B 5 tb/\ExpR (QG B tb) kx km mv op st' h'/\r= .tuple [bv,Qu bf]/\
  ((bf≠okF/\x= .bad bf/\bv= .nilSlice)\/(bf=okF/\∃out,x= .ok out st'/\IsL wz (QG (fun _=>none) tb) 5 bv (out.map QM)/\out.length<=200000/\st'.names.length<=st'.copies/\st'.copies<=4096))
theorem qcY(H:AHeap):Sub (fun _=>none) H:=fun j d hj=>by cases hj
theorem UseOk.swap{B:AHeap}{kx km:Nat}{nb:Option Buf}{ns:List Str}{M:Blk}(hu:UseOk (B.set km M) kx nb ns)(hne:km≠kx)(M':Blk):UseOk (B.set km M') kx nb ns:=by
 refine⟨?_,fun X=>?_,hu.eq⟩
 ·have:=hu.bx
  rw[Vb _ _ hne.symm]at this|-
  exact this
 ·have h1:=hu.ok X
  cases nb with
  |none=>trivial
  |some b=>
   refine⟨?_,h1.2⟩;have h2:((B.set km M).set kx X) b.blk=none:=h1.1;have e1:b.blk≠kx:=fun e=>by rw[e,Vd]at h2;cases h2
   rw[Vb _ _ e1]at h2;have e2:b.blk≠km:=fun e=>by rw[e,Vd]at h2;cases h2
   rw[Vb _ _ e2]at h2;exact(Vb _ _ e1).trans ((Vb _ _ e2).trans h2)
theorem qea(s:Str)(b:Nat):∀es:List (Nat×Str),((es++[(b,s)]).map opC).eraseIdx es.length=es.map opC
 |es=>by
  rw[Ba,List.eraseIdx_append_of_length_le (by rw[Jo];exact KJ _),Jo,Nat.sub_self];simp
theorem ExOk.buf{B hc:AHeap}{kx km:Nat}{mv:AVal}{c cp es5:Nat}{es:List (Nat×Str)}{nb tb:Option Buf}{ns:List Str}(he:ExOk B kx km nb ns)(hs:Sub (Ya B kx km mv c es nb cp) hc)(ht:bufOk hc es5 tb):Ya (QG B tb) kx km mv c es nb cp=QG (Ya B kx km mv c es nb cp) tb/\ExOk (QG B tb) kx km nb ns:=by
 cases tb with
 |none=>exact⟨rfl,he⟩
 |some b=>
  obtain⟨h1,h2⟩:=he.lay (mv:=mv) (c:=c) (es:=es) (cp:=cp) (j:=b.blk) (hs.none ht.1) ⟨b.cells,0⟩;exact⟨h1.symm,h2⟩
theorem qoF{h hc:AHeap}{es j:Nat}{b:Option Buf}{c:Blk}(hj:h j=none)(hj':hc j=some c)(hb:bufOk hc es b):QG h b j=none:=by
 cases b with
 |none=>exact hj
 |some b=>
  have hne:j≠b.blk:=fun e=>by
   have:=hb.1;rw[<-e,hj']at this;cases this
  exact(Vb _ _ hne).trans hj
theorem qlH{qs:List MemQ}{ms:List MemC}(hms:ms=qs.map (·.1))(s:Str):(qaU (fun q:MemQ=>decide (q.1.name=s)) qs= -1/\ms.find? (fun m=>decide (m.name=s))=none)\/∃i,i<qs.length/\qaU (fun q:MemQ=>decide (q.1.name=s)) qs=i/\ms.find? (fun m=>decide (m.name=s))=some (qs.getD i qgo).1:=by
 have e:=qgY (fun q:MemQ=>q.1) (fun m:MemC=>decide (m.name=s)) qs;rw[<-hms]at e;rcases qjY (r:=ms.map fun m=>(⟨[⟨1,m.name,0,0,false⟩],[]⟩:RepC)) (p:=fun x=>decide ((x.old.getD 0 noT).text=s))with z|z
 ·left
  rw[Ei]at z;rw[List.find?_map]at z;refine⟨?_,?_⟩
  ·rw[<-e];unfold qaU
   have z1:=z.1;simp only[Function.comp_def]at z1;rw[show ms.findIdx? (fun m=>decide (m.name=s))=none from z1]
  ·have z2:=z.2
   simpa[Function.comp_def]using z2
 ·right
  obtain⟨i,x,z1,z2,z3,z4⟩:=z;rw[Ei]at z1;have z1':ms.findIdx? (fun m=>decide (m.name=s))=some i:=z1;rw[Jo]at z3;have hq:i<qs.length:=by rw[hms,Jo]at z3;exact z3
  refine⟨i,hq,?_,?_⟩
  ·rw[<-e];unfold qaU;rw[z1']
  ·have h1:=BU.1 z1'
   obtain⟨h2,h3,h4⟩:=h1;rw[BV];refine⟨?_,i,h2,?_,fun j hj=>by simpa using h4 j hj⟩
   ·have:(qs.getD i qgo).1=ms[i]:=by
     simp only[hms,En,Kn,Jz hq,VK]
    rw[this];exact h3
   ·simp only[hms,En,Kn,Jz hq,VK]
end Go.Proofs.YtlhhaagmakhilaaGreatDoor
