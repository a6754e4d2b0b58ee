/-
  Texts of this proof, joined: CoJ, TkO, TkP, TkQ, TmA, BmC, BmD, BmE, BmF, CpA, CpB, CpC, CpD, CpE, CpF, CpG, CpH, CpI, CpJ, CpK, CpL, CpM, CqA, CqB, CqC, CqD, CqE, CqF, CqG, CqH, CqI, CqJ.
  Conditions: none.
-/
import Derived.Test.YtlhhaagmakhilaaGreatDoorNc
import Derived.Test.YtlhhaagmakhilaaGreatDoorNb
import Derived.Defers
import Derived.KernelRfl
set_option linter.unusedSimpArgs false
set_option linter.unnecessarySimpa false
set_option linter.unusedVariables false
namespace Go.Proofs.YtlhhaagmakhilaaGreatDoor
open Go.AM
open Go.Proofs
open Go.Col
set_option maxRecDepth 100000
theorem readLoop(wz:World)(hm:MaxL wz)(h B0:AHeap)(hs0:Sub h B0)(kr kx ks:Nat)(text:Str)(dbg:Bool)(lines:List Str)(hln:lines=XW (Yw text))(hl:text.length<=1048576)
 (er:B0 kr=some ⟨[.int .i64 0, .int .i64 0, .int .i64 0],0⟩) (hr:h kr=none) (es:B0 ks=some ⟨lines.map AVal.str,0⟩) (hi:RdInv wz B0 kx B0 (fun _=>none) none none .start):
 Awp Tryz.prog wz 82 (WP 4 (unScope (WP 1 (qcu Tryz.f49)))) (qeL (qcB Tryz.prog wz [.tmp 4, .cell 5 35] (ReadR wz h text dbg))) [(1, .bool dbg),(5, .ptr (.own kr) 0),(6, .ptr (.own kx) 0),(7, .slice (.own ks) 0 lines.length (.exact lines.length))] (rdH kx B0 none none .start):=by
 have hnl:lines.length<=1048577:=by
  rw[hln];have:=qdM (Yw text);have:=qcW text;omega
 change Awp _ _ _ (Code.seq _ _) _ _ _;refine qK ?_;refine awp_rseq [1,5,6,21,22,23] (by rfl) fun K hK=>?_;simp+decide only[qa,ev,qH,qF,putD,Slots.put,Slots.get,Slots.keep,if_true,if_false,true_and,↓qh,qc,↓Xo,QD,ZI Tryz.underlying30];apply hK;clear hK K;refine Ql ?_;refine Xv [1,5,6,21,22,23] (fun g:RdL=>[(1, .bool dbg),(5, .ptr (.own kr) 0),(6, .ptr (.own kx) 0),(21, .slice (.own ks) 0 lines.length (.exact lines.length)),(22, .int .i64 lines.length),(23, .int .i64 g.i)]) (fun g:RdL=>rdH kx g.B g.cb g.mb g.x) (fun g:RdL=>RdInv wz B0 kx g.B g.M g.cb g.mb g.x/\g.i<=lines.length/\RdSm g.i g.x/\Wp dbg (lines.drop g.i) (g.i+1) g.x=Wp dbg lines 1 .start) (fun g:RdL=>lines.length-g.i) ⟨0,B0,fun _=>none,none,none, .start⟩ (by rfl) (Sub.refl _) ⟨hi,Nat.zero_le _,⟨by simp[Rd.start],by simp[Rd.start]⟩,rfl⟩ ?_;rintro⟨i,B,M,cb,mb,x⟩ ⟨ri,hin,hsm,hrl⟩;simp only at ri hin hsm hrl|-
 have rix:=fun o=>Qy wz ri.at o;refine awp_rseq [1,5,6,21,22,23,24] (by rfl) fun K hK=>?_;simp+decide only[qa,ev,putD,Slots.put,Slots.get,Slots.keep,if_true,if_false,true_and,↓qA,ql,qR,cond_false,qo,XP];apply hK;clear hK K;refine qK (qJ (b:=_) rfl (fun hb1=>?_) (fun hb1=>?_))
 ·try simp only[decide_eq_true_eq]at hb1
  have hi':i<lines.length:=by omega
  have eks:=ri.above _ _ es;have rks:=fun o=>Qy wz eks o;have eg:(lines.map AVal.str).getD i .dead= .str (lines.getD i []):=by simp[List.getD,hi']
  obtain⟨r,cn,f,hp⟩:∃r cn f,Ur (lines.getD i []) ((i:Int)+1) dbg=(r,cn,f):=⟨_,_,_,rfl⟩
  have hsl:=lineE_small (s:=lines.getD i []) (line:=(i:Int)+1) (dbg:=dbg);rw[hp]at hsl;simp only at hsl;have hlm:(lines.getD i []).length<=1048576:=by
   have h1:=splitNL_mem (Yw text) (lines.getD i []) (by rw[<-hln,List.getD,List.getElem?_eq_getElem hi'];exact List.getElem_mem hi');have h2:=qcW text;omega
  have hdrop:lines.drop i=lines.getD i []::lines.drop (i+1):=by rw[List.drop_eq_getElem_cons hi'];simp[List.getD,hi']
  refine qP ?_;change Awp _ _ _ _ _ _ _;refine qK ?_;refine Ql ?_;refine awp_rseq [1,5,6,8,9,21,22,23] (by rfl) fun K hK=>?_;simp+decide only[qa,ev,putD,Slots.put,Slots.get,Slots.keep,if_true,if_false,true_and,↓qh,qc,↓QB,qY,Qb Tryz.underlying30 sz9,↓qG,qy ag9,↓qd,qb,Nat.zero_add,qE,rks,eg,Int.toNat_natCast,Nat.mul_one];repeat (with_reducible refine And.intro ?_ ?_;· first|trivial|omega|(intro hg;simp only[Bool.and_eq_true,Bool.or_eq_true,Bool.not_eq_true',Bool.and_eq_false_iff,Bool.or_eq_false_iff,Bool.not_eq_false',decide_eq_true_eq,decide_eq_false_iff_not,XV]at hg;omega))
  apply hK;clear hK K;refine awp_rseq [1,5,6,10,11,12,21,22,23] (by rfl) fun K hK=>?_;simp+decide only[ev,qH,qF,putD,Slots.put,Slots.get,if_true,if_false,true_and,↓qh,qc,↓qA,ql,qB,cond_false,qo,QY];try simp(disch:=omega)only[wrap_i64]
  refine qN (V:= .tuple [rowA r, .bool cn,Qz f]) (by rfl) (by rfl) ((c_read wz _ (lines.getD i []) ((i:Int)+1) dbg (by omega) (by omega) (by omega)).val (by rw[hp])) ?_;simp+decide only[ev,putD,Slots.put,Slots.get,if_true,if_false,true_and,↓qh,qc,↓QW,QH,QS,List.length_cons,List.length_nil,List.getD_cons_zero,List.getD_cons_succ,List.getD_cons_zero,List.getD_cons_succ,Nat.zero_add,Nat.reduceAdd,Qz,rowA];refine Qj ze120 (cs:=[.int .i64 0, .bool false, .str [], .int .i64 0]) (by rfl) fun k8q9 hk8q9=>?_;try have hf_8q9:(rdH kx B0 none none .start) k8q9=none:=by first|assumption|(simp only[AHeap.set_none]at hk8q9;simp only[hk8q9])
  refine Qj qbc (cs:=[.int .i64 0, .int .i64 0, .int .i64 0]) (by rfl) fun k8q10 hk8q10=>?_;have ne_8q10_8q9:k8q10≠k8q9:=by simp only[AHeap.set_none]at hk8q10;simp only[hk8q10,ne_eq,not_false_eq_true]
  try have hf_8q10:(rdH kx B0 none none .start) k8q10=none:=by first|assumption|(simp only[AHeap.set_none]at hk8q10;simp only[hk8q10])
  refine qp (by rfl) (by rfl) zqA Ya (by rfl) (by rfl) zqD (Nat.zero_le _) (by rfl) ?_;simp only[AVal.cells];simp+decide only[ev,putD,Slots.put,Slots.get,if_true,if_false,true_and,↓qd,qb,setAt,List.set_cons_zero,List.set_cons_succ,Nat.zero_add,Nat.reduceAdd];refine qp (by rfl) (by rfl) zqA QI (by rfl) (by rfl) zqD (Nat.zero_le _) (by rfl) ?_;simp only[AVal.cells];simp+decide only[qa,ev,putD,Slots.get,Slots.keep,if_true,if_false,setAt,List.set_cons_zero,List.set_cons_succ,Nat.zero_add,Nat.reduceAdd];apply hK;clear hK K;refine qK ?_;have hnorm:((((rdH kx B cb mb x).set k8q9 ⟨[.int .i64 0, .bool false, .str [], .int .i64 0],0⟩).set k8q10 ⟨[.int .i64 0, .int .i64 0, .int .i64 0],0⟩).set k8q9 ⟨[.int .i64 r.line, .bool r.more, .str r.text, .int .i64 r.col],0⟩).set k8q10 ⟨[.int .i64 f.e, .int .i64 f.line, .int .i64 f.col],0⟩=((rdH kx B cb mb x).set k8q9 ⟨[.int .i64 r.line, .bool r.more, .str r.text, .int .i64 r.col],0⟩).set k8q10 ⟨[.int .i64 f.e, .int .i64 f.line, .int .i64 f.col],0⟩:=by
   rw[AHeap.set_comm ((rdH kx B cb mb x).set k8q9 ⟨[.int .i64 0, .bool false, .str [], .int .i64 0],0⟩) _ _ ne_8q10_8q9.symm,AHeap.set_set,AHeap.set_set]
  rw[hnorm];obtain⟨a1,a2,a3,a4⟩:=rdH_new ri hk8q9 ⟨[.int .i64 r.line, .bool r.more, .str r.text, .int .i64 r.col],0⟩;have hk2:rdH kx (B.set k8q9 ⟨[.int .i64 r.line, .bool r.more, .str r.text, .int .i64 r.col],0⟩) cb mb x k8q10=none:=by
   rw[<-a1,AHeap.set_ne _ _ ne_8q10_8q9]
   rwa [AHeap.set_ne _ _ ne_8q10_8q9]at hk8q10
  obtain⟨b1,b2,b3,b4⟩:=rdH_new a2 hk2 ⟨[.int .i64 f.e, .int .i64 f.line, .int .i64 f.col],0⟩;rw[a1,b1];obtain⟨B₁,hB₁⟩:∃B₁,B₁=(B.set k8q9 ⟨[.int .i64 r.line, .bool r.more, .str r.text, .int .i64 r.col],0⟩).set k8q10 ⟨[.int .i64 f.e, .int .i64 f.line, .int .i64 f.col],0⟩:=⟨_,rfl⟩
  rw[<-hB₁]at b2|-
  have e0:B₁ k8q9=some ⟨[.int .i64 r.line, .bool r.more, .str r.text, .int .i64 r.col],0⟩:=by rw[hB₁,AHeap.set_ne _ _ ne_8q10_8q9.symm,AHeap.set_same]
  have e1:B₁ k8q10=some ⟨[.int .i64 f.e, .int .i64 f.line, .int .i64 f.col],0⟩:=by rw[hB₁,AHeap.set_same]
  have hB8:B k8q10=none:=by rwa [AHeap.set_ne _ _ ne_8q10_8q9]at b4
  have s0:=fun o=>Qy wz (b2.other e0) o;have s1:=fun o=>Qy wz (b2.other e1) o;refine awp_rseq [1,5,6,10,12,21,22,23,43] (by rfl) fun K hK=>?_;simp+decide only[qa,ev,qH,qF,putD,Slots.put,Slots.get,Slots.keep,if_true,if_false,true_and,↓qG,qY,qg Xt QI,↓Qp,↓qW,ZJ,evP,List.map_nil,↓qA,ql,qR,cond_false,Yc,eq35,↓qh,qc,↓Xf,agP,Qs,qL,qI,qz,implies_true,Bool.and_true,↓qcm,XU,Yi,cv_un,cp_un,↓QT,Qu,Qh,Xg,Xp,qf,List.getD_cons_zero,List.getD_cons_succ,Nat.zero_add,Nat.reduceAdd,qi,allLive,Bool.and_true,s1,WB];apply hK;clear hK K;refine qJ (b:=_) rfl (fun hb2=>?_) (fun hb2=>?_)
  ·try simp only[decide_eq_true_eq,Bool.not_eq_true',Bool.and_eq_true]at hb2
   have iz:=b2;have gz:=hsm.next;have lz:Wp dbg (lines.drop (i+1)) (((i+1:Nat):Int)+1) x=Wp dbg lines 1 .start:=by
    rw[<-hrl,hdrop,readL_skip (by rw[hp,hb2.2]) hb2.1];rfl
   refine Xy ?_;change Awp _ _ _ _ _ _ _;refine XA [1,5,6,21,22,23] (by rfl) ?_;simp+decide only[qa,ev,qH,qF,putD,Slots.put,Slots.get,Slots.keep,if_true,if_false,true_and,↓qA,ql,qB,cond_false,qo,QY,↓qh,qc];try simp(disch:=omega)only[wrap_i64]
   try simp only[Qg]
   exact⟨⟨i+1,_,_,_,_,_⟩,rfl,Sub.refl _,⟨iz,by simp only;omega,gz,lz⟩,by simp only;omega⟩
  ·try simp only[decide_eq_false_iff_not,Bool.not_eq_false',Bool.and_eq_false_iff]at hb2
   refine qP ?_;change Awp _ _ _ _ _ _ _;refine qK ?_;refine awp_rseq [1,5,6,10,12,21,22,23,46] (by rfl) fun K hK=>?_;simp+decide only[qa,ev,qH,qF,putD,Slots.put,Slots.get,Slots.keep,if_true,if_false,true_and,↓qG,qY,qg Xt QI,↓Qp,↓qW,ZJ,evP,List.map_nil,↓qA,ql,qR,cond_false,Yc,eq35,qf,List.getD_cons_zero,List.getD_cons_succ,Nat.zero_add,Nat.reduceAdd,qi,allLive,Bool.and_true,s1,WB];apply hK;clear hK K;refine qJ (b:=_) rfl (fun hb3=>?_) (fun hb3=>?_)
   ·try simp only[decide_eq_true_eq]at hb3
    have hcn:cn=true:=by
     cases hcn:cn with
     |true=>rfl
     |false=>
      rcases hb2 with e|e
      ·exact absurd hb3 e
      ·rw[hcn]at e
       cases e
    subst hcn;refine XA [1,5,6,12,21,22,23] (by rfl) ?_;simp+decide only[ev,putD,Slots.put,Slots.get,if_true,if_false,true_and,↓qG,qY,qg WJ Ya,qf,List.getD_cons_zero,List.getD_cons_succ,Nat.zero_add,Nat.reduceAdd,qD,qi,qE,allLive,Bool.and_true,s0];refine QN (by rfl) (by rfl) (c_take wz B0 kx B₁ M cb mb x b2 r (fun c hc=>by have:=hsm.small c hc;omega) (by have:=hsm.many;omega) (by omega) (hsl.2 rfl).1 (hsl.2 rfl).2.1 (by have:=(hsl.2 rfl).2.2;omega)) fun x11q1 h11q1 hx11q1=>?_;obtain⟨ex,B',M',cb',mb',rfl,i2,s2,m2⟩:=hx11q1;obtain⟨fz,hfz⟩:∃fz,fz=(takeE x r).2:=⟨_,rfl⟩
    rw[<-hfz]at ex;subst ex;have hM8:M' k8q10=none:=m2 _ (by rw[e1];simp) (ri.subM.none hB8);obtain⟨c1,iz⟩:=i2.put (s2 _ _ e1) (ri.sub.none hB8) hM8 ⟨[.int .i64 fz.e, .int .i64 fz.line, .int .i64 fz.col],0⟩;have gz:=qdJ hsm (r:=r) (by omega);refine qp (v:= .agg [.int .i64 fz.e, .int .i64 fz.line, .int .i64 fz.col]) (by rfl) (by rfl) (i2.other (s2 _ _ e1)) QI (by rfl) (by rfl) (by simp[]) (Nat.zero_le _) (by rfl) ?_;simp only[setAt,AVal.cells,List.set_cons_zero,List.set_cons_succ,Nat.zero_add,Nat.reduceAdd];rw[c1];have ez:=AHeap.set_same B' k8q10 ⟨[.int .i64 fz.e, .int .i64 fz.line, .int .i64 fz.col],0⟩;simp+decide only[qa,putD,Slots.put,Slots.keep,if_true,if_false,Qz];change Awp _ _ _ _ _ _ _;refine awp_rseq [1,5,6,12,21,22,23,51] (by rfl) fun K hK=>?_;simp+decide only[qa,ev,qH,qF,putD,Slots.put,Slots.get,Slots.keep,if_true,if_false,true_and,↓qG,qY,qg Xt QI,↓Qp,↓qW,ZJ,evP,List.map_nil,↓qA,ql,qR,cond_false,Yc,ne35,qf,List.getD_cons_zero,List.getD_cons_succ,Nat.zero_add,Nat.reduceAdd,qi,allLive,Bool.and_true,Qy wz (iz.other ez),WB];apply hK;clear hK K;refine qJ (b:=_) rfl (fun hb4=>?_) (fun hb4=>?_)
    ·try simp only[decide_eq_false_iff_not,Bool.not_eq_true']at hb4
     have hres:=readE_fault (text:=text) (dbg:=dbg) hl (by rw[<-hln,<-hrl,hdrop,readL_bad hp hb3 (by rw[<-hfz];exact hb4)]) (by rw[<-hfz];exact hb4);rw[<-hfz]at hres;refine Zk 2 [4,5] mixed (by kernel_rfl) (by rfl) (by rfl) fun K hK=>?_;simp+decide only[ev,qH,qF,putD,Slots.put,Slots.get,if_true,if_false,true_and,↓qG,qY,qg Xt QI,↓qd,qb,qf,List.getD_cons_zero,List.getD_cons_succ,Nat.zero_add,Nat.reduceAdd,qi,allLive,Bool.and_true,Qy wz (iz.other ez)];refine qp (v:= .agg [.int .i64 fz.e, .int .i64 fz.line, .int .i64 fz.col]) (by rfl) (by rfl) (iz.other (iz.sub _ _ er)) QI (by rfl) (by rfl) (by simp[]) (Nat.zero_le _) (by rfl) ?_;simp only[setAt,AVal.cells,List.set_cons_zero,List.set_cons_succ,Nat.zero_add,Nat.reduceAdd];simp+decide only[qa,putD,Slots.keep,if_true,if_false];apply hK;clear hK K;refine qO ?_;try simp only[Qi,Qw,YY]
     refine Qa h (Sub.trans_set (hs0.trans iz.above) hr) (?_) ?_
     ·simp+decide only[QE,qw,qj,Slots.get,if_true,if_false,and_true,qw,qj,qg Xt QI,Qc,qf,List.getD_cons_zero,List.getD_cons_succ,Nat.zero_add,Nat.reduceAdd,qi,allLive,Bool.and_true,qf,List.getD_cons_zero,List.getD_cons_succ,Nat.zero_add,Nat.reduceAdd,qi,allLive,Bool.and_true]
     simp+decide only[Slots.get,if_true,if_false,Xj,qw,qj,qg Xt QI,Qc,qf,List.getD_cons_zero,List.getD_cons_succ,Nat.zero_add,Nat.reduceAdd,qi,allLive,Bool.and_true,qf,List.getD_cons_zero,List.getD_cons_succ,Nat.zero_add,Nat.reduceAdd,qi,allLive,Bool.and_true];exact⟨.nilSlice,by rw[hres];rfl,by rw[hres];exact⟨[],rfl, .nil,by simp⟩,Sub.refl _⟩
    ·try simp only[decide_eq_true_eq,Bool.not_eq_false']at hb4
     have lz:Wp dbg (lines.drop (i+1)) (((i+1:Nat):Int)+1) (takeE x r).1=Wp dbg lines 1 .start:=by
      rw[<-hrl,hdrop,readL_take hp hb3 (by rw[<-hfz];exact hb4)];rfl
     refine qP ?_;change Awp _ _ _ _ _ _ _;refine XA [1,5,6,21,22,23] (by rfl) ?_;simp+decide only[qa,ev,qH,qF,putD,Slots.put,Slots.get,Slots.keep,if_true,if_false,true_and,↓qA,ql,qB,cond_false,qo,QY,↓qh,qc];try simp(disch:=omega)only[wrap_i64]
     try simp only[Qg]
     exact⟨⟨i+1,_,_,_,_,_⟩,rfl,Sub.refl _,⟨iz,by simp only;omega,gz,lz⟩,by simp only;omega⟩
   ·try simp only[decide_eq_false_iff_not]at hb3
    have iz:=b2;have ez:=e1;obtain⟨fz,hfz⟩:∃fz,fz=f:=⟨_,rfl⟩
    subst hfz;refine qP ?_;change Awp _ _ _ _ _ _ _;refine awp_rseq [1,5,6,12,21,22,23,51] (by rfl) fun K hK=>?_;simp+decide only[qa,ev,qH,qF,putD,Slots.put,Slots.get,Slots.keep,if_true,if_false,true_and,↓qG,qY,qg Xt QI,↓Qp,↓qW,ZJ,evP,List.map_nil,↓qA,ql,qR,cond_false,Yc,ne35,qf,List.getD_cons_zero,List.getD_cons_succ,Nat.zero_add,Nat.reduceAdd,qi,allLive,Bool.and_true,s1,WB];apply hK;clear hK K;refine qJ (b:=_) rfl (fun hb5=>?_) (fun hb5=>?_)
    ·try simp only[decide_eq_false_iff_not,Bool.not_eq_true']at hb5
     have hres:=readE_fault (text:=text) (dbg:=dbg) hl (by rw[<-hln,<-hrl,hdrop,readL_fault hp hb3]) hb3;refine Zk 2 [4,5] mixed (by kernel_rfl) (by rfl) (by rfl) fun K hK=>?_;simp+decide only[ev,qH,qF,putD,Slots.put,Slots.get,if_true,if_false,true_and,↓qG,qY,qg Xt QI,↓qd,qb,qf,List.getD_cons_zero,List.getD_cons_succ,Nat.zero_add,Nat.reduceAdd,qi,allLive,Bool.and_true,s1];refine qp (v:= .agg [.int .i64 fz.e, .int .i64 fz.line, .int .i64 fz.col]) (by rfl) (by rfl) (iz.other (iz.sub _ _ er)) QI (by rfl) (by rfl) (by simp[]) (Nat.zero_le _) (by rfl) ?_;simp only[setAt,AVal.cells,List.set_cons_zero,List.set_cons_succ,Nat.zero_add,Nat.reduceAdd];simp+decide only[qa,putD,Slots.keep,if_true,if_false];apply hK;clear hK K;refine qO ?_;try simp only[Qi,Qw,YY]
     refine Qa h (Sub.trans_set (hs0.trans iz.above) hr) (?_) ?_
     ·simp+decide only[QE,qw,qj,Slots.get,if_true,if_false,and_true,qw,qj,qg Xt QI,Qc,qf,List.getD_cons_zero,List.getD_cons_succ,Nat.zero_add,Nat.reduceAdd,qi,allLive,Bool.and_true,qf,List.getD_cons_zero,List.getD_cons_succ,Nat.zero_add,Nat.reduceAdd,qi,allLive,Bool.and_true]
     simp+decide only[Slots.get,if_true,if_false,Xj,qw,qj,qg Xt QI,Qc,qf,List.getD_cons_zero,List.getD_cons_succ,Nat.zero_add,Nat.reduceAdd,qi,allLive,Bool.and_true,qf,List.getD_cons_zero,List.getD_cons_succ,Nat.zero_add,Nat.reduceAdd,qi,allLive,Bool.and_true];exact⟨.nilSlice,by rw[hres];rfl,by rw[hres];exact⟨[],rfl, .nil,by simp⟩,Sub.refl _⟩
    ·try simp only[decide_eq_true_eq,Bool.not_eq_false']at hb5
     exact absurd hb5 hb3
 ·try simp only[decide_eq_false_iff_not]at hb1
  obtain rfl:i=lines.length:=by omega
  have hdone:Wp dbg (XW (Yw text)) 1 .start=(x,okF):=by
   rw[<-hln,<-hrl,List.drop_length];rfl
  refine Xy ?_;change Awp _ _ _ _ _ _ _;refine Awp.keep [5,6] ?_;exact readEnd wz h B0 hs0 kr kx text dbg hl er hr B M cb mb x ri (by have:=hsm.many;omega) hdone
theorem readE_long{text:Str}{dbg:Bool}(hl:1048576<text.length):UG text dbg=([],⟨3,0,0⟩):=by
 unfold UG;rw[if_pos hl]
theorem c_Read(wz:World)(hm:MaxL wz)(h:AHeap)(text:Str)(dbg:Bool)(hl:text.length<=9223372036854775807):ACall Tryz.prog wz 49 [.str text, .bool dbg] h (ReadR wz h text dbg):=by
 refine qU (n:=82) (rs:=[.tmp 4, .cell 5 35]) Tryz.func49 rfl rfl rfl rfl (Nat.le_of_ble_eq_true rfl) ?_;simp only[Qe];refine awp_rseq [0,1,5] (by rfl) fun K hK=>?_;simp+decide only[ev,qH,qF,putD,Slots.put,if_false,true_and,↓qd,qb,Nat.zero_add];refine Qj qbc (cs:=[.int .i64 0, .int .i64 0, .int .i64 0]) (by rfl) fun k0q1 hk0q1=>?_;try have hf_0q1:h k0q1=none:=by first|assumption|(simp only[AHeap.set_none]at hk0q1;simp only[hk0q1])
 simp+decide only[qa,putD,Slots.put,Slots.keep,if_true,if_false];apply hK;clear hK K;refine awp_scope ?_;refine qK ?_;refine awp_rseq [0,1,5,16] (by rfl) fun K hK=>?_;simp+decide only[qa,ev,qH,qF,putD,Slots.put,Slots.get,Slots.keep,if_true,if_false,true_and,↓qh,qc,↓Xo,QD,YK Tryz.underlying9,↓qA,ql,qB,cond_false,qo,UV];apply hK;clear hK K;refine qJ (b:=_) rfl (fun hb1=>?_) (fun hb1=>?_)
 ·try simp only[decide_eq_true_eq]at hb1
  refine awp_rseq [4,5] (by rfl) fun K hK=>?_;simp+decide only[ev,qH,qF,putD,Slots.put,Slots.get,if_true,if_false,true_and,↓Qp,↓qW,bld35_0,evP,List.map_cons,List.map_nil,↓qd,qb];refine qp (by rfl) (by rfl) zqA QI (by rfl) (by rfl) zqD (Nat.zero_le _) (by rfl) ?_;simp only[AHeap.set_set,AVal.cells];simp+decide only[qa,ev,putD,Slots.get,Slots.keep,if_true,if_false,setAt,List.set_cons_zero,List.set_cons_succ,Nat.zero_add,Nat.reduceAdd];apply hK;clear hK K;refine qO ?_;try simp only[Qi,YY]
  refine Qa h zqC (?_) ?_
  ·simp+decide only[QE,qw,qj,Slots.get,if_true,if_false,and_true,qw,qj,qg Xt QI,Qc,qf,List.getD_cons_zero,List.getD_cons_succ,Nat.zero_add,Nat.reduceAdd,qi,allLive,Bool.and_true,qf,List.getD_cons_zero,List.getD_cons_succ,Nat.zero_add,Nat.reduceAdd,qi,allLive,Bool.and_true]
  simp+decide only[Slots.get,if_true,if_false,Xj,qw,qj,qg Xt QI,Qc,qf,List.getD_cons_zero,List.getD_cons_succ,Nat.zero_add,Nat.reduceAdd,qi,allLive,Bool.and_true,qf,List.getD_cons_zero,List.getD_cons_succ,Nat.zero_add,Nat.reduceAdd,qi,allLive,Bool.and_true];have hb:1048576<text.length:=by omega
  exact⟨.nilSlice,by rw[readE_long hb];rfl,by rw[readE_long hb];exact⟨[],rfl, .nil,by simp⟩,Sub.refl _⟩
 ·try simp only[decide_eq_false_iff_not]at hb1
  refine qP ?_;change Awp _ _ _ _ _ _ _;refine awp_rseq [0,1,5,6] (by rfl) fun K hK=>?_;refine Qj ze116 (cs:=[.nilSlice, .int .i64 0, .int .i64 0, .bool false]) (by rfl) fun k3q0 hk3q0=>?_;have ne_3q0_0q1:k3q0≠k0q1:=by simp only[AHeap.set_none]at hk3q0;simp only[hk3q0,ne_eq,not_false_eq_true]
  try have hf_3q0:h k3q0=none:=by first|assumption|(simp only[AHeap.set_none]at hk3q0;simp only[hk3q0])
  simp+decide only[qa,putD,Slots.put,Slots.keep,if_true,if_false];apply hK;clear hK K;refine awp_rseq [1,5,6,7] (by rfl) fun K hK=>?_;simp+decide only[ev,putD,Slots.put,Slots.get,if_true,if_false,true_and,↓qh,qc];refine qN (V:= .str (Yw text)) (by rfl) (by rfl) (c_trimNL wz _ text hl) ?_;refine QN (by rfl) (by rfl) (c_split wz hm _ (Yw text) (by have:=qcW text;omega)) fun x4q2 h4q2 hx4q2=>?_;obtain⟨ks,hks,rfl,rfl⟩:=hx4q2;simp+decide only[qa,ev,putD,Slots.put,Slots.get,Slots.keep,if_true,if_false,true_and,↓qd,qb];apply hK;clear hK K;refine qK ?_;refine awp_label ?_;change Awp _ _ _ _ _ _ _;obtain⟨nks,_,hks2⟩:=(AHeap.set_none _ _ _ _).mp hks;obtain⟨nkr,_,hks3⟩:=(AHeap.set_none _ _ _ _).mp hks2;have nkx:k3q0≠k0q1:=((AHeap.set_none _ _ _ _).mp hk3q0).1;have hcomm:((h.set k0q1 ⟨[.int .i64 0, .int .i64 0, .int .i64 0],0⟩).set k3q0 ⟨[.nilSlice, .int .i64 0, .int .i64 0, .bool false],0⟩).set ks ⟨(XW (Yw text)).map AVal.str,0⟩=rdH k3q0 ((h.set k0q1 ⟨[.int .i64 0, .int .i64 0, .int .i64 0],0⟩).set ks ⟨(XW (Yw text)).map AVal.str,0⟩) none none .start:=AHeap.set_comm _ _ _ nks;rw[hcomm];exact readLoop wz hm h _ zqB k0q1 k3q0 ks text dbg (XW (Yw text)) rfl (by omega) ((AHeap.set_ne _ _ nkr.symm).trans (AHeap.set_same _ _ _)) hk0q1 (AHeap.set_same _ _ _) ⟨Sub.refl _,(fun _ _ e=>by cases e),(AHeap.set_ne _ _ nks.symm).trans hk3q0,trivial,trivial, .inl ⟨rfl,rfl,rfl⟩⟩
end Go.Proofs.YtlhhaagmakhilaaGreatDoor
namespace Go.Proofs.YtlhhaagmakhilaaGreatDoor
open Go.AM
open Go.Proofs
open Go.Col
open Go.Tok
open Go.RowKit (Below)
set_option maxRecDepth 100000
theorem cardT_nth{wz:World}{h:AHeap}{l:AM.Loc}{o n:Nat}{cp:Cap}{cs:List CardC}(hc:IsCards wz h (.slice l o n cp) cs){i:Nat}(hi:i<cs.length):
 ∃mv,IsL wz h 3 mv ((cs.getD i ⟨false,[],[]⟩).marks.map Un)/\rd wz h l (o+i*3)= .bool (cs.getD i ⟨false,[],[]⟩).left/\rd wz h l (o+i*3+1)= .str (cs.getD i ⟨false,[],[]⟩).text/\rd wz h l (o+i*3+2)=mv:=by
 obtain⟨ps,rfl,h2,h3⟩:=hc;rw[List.length_map]at hi;have he:=h2.elem (i:=i) (by rw[List.length_map];exact hi);rw[getD_map (⟨false,[],[]⟩, .dead) hi]at he;have hg:(ps.map (·.1)).getD i ⟨false,[],[]⟩=(ps.getD i (⟨false,[],[]⟩, .dead)).1:=by
  simp[List.getD,hi]
 rw[hg];have hm:ps.getD i (⟨false,[],[]⟩, .dead)∈ps:=by rw[List.getD,List.getElem?_eq_getElem hi];exact List.getElem_mem hi
 simp only[qf,Zo,List.cons.injEq,and_true]at he;exact⟨_,h3 _ hm,he.1,he.2.1,he.2.2⟩
theorem rd_subT{wz:World}{h h':AHeap}{l:AM.Loc}{o:Nat}{v:AVal}(hv:rd wz h l o=v)(hl:v.live=true)(hs:Sub h h'):rd wz h' l o=v:=by
 have:=cellsAt_mono (wz:=wz) (l:=l) hs 1 o (by simp only[qf,AM.allLive,hv,hl,Bool.and_true]);simp only[qf,List.cons.injEq,and_true]at this;rw[this,hv]
theorem IsCards.liveT{wz:World}{h:AHeap}{v:AVal}{cs:List CardC}(hc:IsCards wz h v cs):v.live=true:=by
 obtain⟨ps,rfl,h2,h3⟩:=hc;exact h2.live
theorem IsCards.lenT{wz:World}{h:AHeap}{v:AVal}{cs:List CardC}(hc:IsCards wz h v cs):∀H:AHeap,Ye Tryz.prog H 101 v=⟨True, .int .i64 cs.length⟩:=by
 obtain⟨ps,rfl,h2,h3⟩:=hc;have:=h2.len Tryz.underlying101;intro H;have:=this H;rw[List.length_map]at this|-
 exact this
theorem IsCards.openT{wz:World}{h:AHeap}{v:AVal}{cs:List CardC}(hc:IsCards wz h v cs)(hn:0<cs.length):∃l o c,v= .slice l o cs.length c:=by
 obtain⟨ps,rfl,h2,h3⟩:=hc;obtain⟨l,o,c,e⟩:=h2.open (fun e=>by rw[List.map_eq_nil_iff]at e;subst e;simp at hn);rw[List.length_map]at e|-
 exact⟨l,o,c,e⟩
theorem scanGo_next{cs:List CardC}{i:Nat}(hi:i<cs.length)(l:List TokC):qbD (cs.drop i) l=if (qav (cs.getD i ⟨false,[],[]⟩) l).2≠okF then([],(qav (cs.getD i ⟨false,[],[]⟩) l).2)else qbD (cs.drop (i+1)) (qav (cs.getD i ⟨false,[],[]⟩) l).1:=by
 rw[List.drop_eq_getElem_cons hi,qbD];simp[List.getD,hi]
theorem Sub.bufBoth{h h':AHeap}{b:Option Buf}(hs:Sub h h'):Sub (QG h b) (QG h' b):=by
 cases b with
 |none=>exact hs
 |some b=>exact Sub.set_both hs _ _
def ScanR(h:AHeap)(R:List TokC×FaultC)(v:AVal)(h':AHeap):Prop:=∃tb,v= .tuple [Yt (QA 5 tb),Qz R.2]/\bufOk h 5 tb/\Yu tb=(R.1.map QK).flatten/\h'=QG h tb
structure SnG where
 i:Nat
 l:List TokC
 tb:Option Buf
 lf:Bool
 s:Str
 mv:AVal
 at0:Nat
structure SnOk(kx:Nat)(B:AHeap)(cs:List CardC)(g:SnG):Prop where
 inv:ScInv kx B g.tb g.l
 i:g.i<=cs.length
 eq:qbD (cs.drop g.i) g.l=qdR cs
 len:g.l.length<=65536
theorem c_clipT(wz:World)(h:AHeap)(v:AVal)(xs:List (List AVal))(hv:IsL wz h 5 v xs):ACall Tryz.prog wz 33 [v] h (fun r h'=>r=Yt v/\h'=h):=by
 have hlen:=hv.len Tryz.underlying26;have h3:=hv.slice3 Tryz.underlying26 Xa .i64 .i64 none rfl;refine qU (n:=9) (rs:=[.tmp 2]) Tryz.func33 rfl rfl rfl rfl (Nat.le_of_ble_eq_true rfl) ?_;simp only[Qe];refine awp_rseq [0] (by rfl) fun K hK=>?_;simp+decide only[qa,ev,qH,qF,putD,Slots.put,Slots.keep,if_true,if_false,true_and,↓qd,qb];apply hK;clear hK K;refine awp_rseq [2] (by rfl) fun K hK=>?_;simp+decide only[qa,ev,putD,Slots.put,Slots.get,Slots.keep,if_true,if_false,true_and,↓qh,qc,↓Xo,QD,↓Ua,Zu,evO,↓qd,qb,hlen,h3];apply hK;clear hK K;refine qO ?_;refine Qa _ (Sub.refl _) (qZ (Qd)) ?_;simp+decide only[Slots.get,if_true,and_true,Qr];all_goals first|rfl|exact⟨rfl,rfl⟩|(simp+decide only[if_true,if_false, *];done)|(trace_state;fail)
set_option maxHeartbeats 1000000 in
theorem c_Scan(wz:World)(h:AHeap)(v:AVal)(cs:List CardC)(hc:IsCards wz h v cs)(hn:cs.length<=4611686018427387904)(hsm:∀c∈cs,c.text.length<=1099511627776/\c.marks.length<=4611686018427387904):
 ACall Tryz.prog wz 50 [v] h (ScanR h (qdR cs)):=by
 have hlv:=hc.liveT;have hln:=hc.lenT;refine qU (n:=27) (rs:=[.tmp 2, .cell 3 35]) Tryz.func50 rfl rfl rfl rfl (Nat.le_of_ble_eq_true rfl) ?_;simp only[Qe];refine awp_rseq [0,3] (by rfl) fun K hK=>?_;simp+decide only[ev,qH,qF,putD,Slots.put,if_false,true_and,↓qd,qb];refine Qj qbc (cs:=[.int .i64 0, .int .i64 0, .int .i64 0]) (by rfl) fun k0q1 hk0q1=>?_;try have hf_0q1:h k0q1=none:=by first|assumption|(simp only[AHeap.set_none]at hk0q1;simp only[hk0q1])
 simp+decide only[qa,putD,Slots.put,Slots.keep,if_true,if_false];apply hK;clear hK K;refine awp_rseq [0,3,4] (by rfl) fun K hK=>?_;refine Qj ze132 (cs:=[.bool false, .str [], .nilSlice, .int .i64 0, .nilSlice]) (by rfl) fun k1q0 hk1q0=>?_;have ne_1q0_0q1:k1q0≠k0q1:=by simp only[AHeap.set_none]at hk1q0;simp only[hk1q0,ne_eq,not_false_eq_true]
 try have hf_1q0:h k1q0=none:=by first|assumption|(simp only[AHeap.set_none]at hk1q0;simp only[hk1q0])
 simp+decide only[qa,putD,Slots.put,Slots.keep,if_true,if_false];obtain⟨B,hB⟩:∃B,B=h.set k0q1 ⟨[.int .i64 0, .int .i64 0, .int .i64 0],0⟩:=⟨_,rfl⟩
 have hBs:Sub h B:=by rw[hB];exact Sub.set hk0q1
 have hBk:B k0q1=some ⟨[.int .i64 0, .int .i64 0, .int .i64 0],0⟩:=by rw[hB];exact AHeap.set_same _ _ _
 rw[<-hB]at hk1q0|-
 apply hK;clear hK K;refine qK ?_;refine awp_rseq [3,4,8,9,10] (by rfl) fun K hK=>?_;simp+decide only[qa,ev,qH,qF,putD,Slots.put,Slots.get,Slots.keep,if_true,if_false,true_and,↓qh,qc,↓Xo,QD,hln];apply hK;clear hK K;refine Ql ?_;refine Xv [3,4,8,9,10] (fun g:SnG=>[(3, .ptr (.own k0q1) 0),(4, .ptr (.own k1q0) 0),(8,v),(9, .int .i64 cs.length),(10, .int .i64 g.i)]) (fun g:SnG=>scH k1q0 B g.tb g.lf g.s g.mv g.at0) (fun g:SnG=>SnOk k1q0 B cs g) (fun g:SnG=>cs.length-g.i) ⟨0,[],none,false,[], .nilSlice,0⟩ (by rfl) (Sub.refl _) ⟨⟨hk1q0,fun _=>trivial,rfl⟩,Nat.zero_le _,rfl,Nat.zero_le _⟩ ?_;rintro⟨i,l,tb,lf0,s0,mv0,at0⟩ ⟨i1,i2,i3,i4⟩;simp only at i1 i2 i3 i4|-
 have hSb:Sub h (scH k1q0 B tb lf0 s0 mv0 at0):=hBs.trans i1.above;refine awp_rseq [3,4,8,9,10,11] (by rfl) fun K hK=>?_;simp+decide only[qa,ev,putD,Slots.put,Slots.get,Slots.keep,if_true,if_false,true_and,↓qA,ql,qR,cond_false,qo,XP];apply hK;clear hK K;refine qK (qJ (b:=_) rfl (fun hb1=>?_) (fun hb1=>?_))
 ·try simp only[decide_eq_true_eq]at hb1
  have hi:i<cs.length:=by omega
  obtain⟨lc,o,cp,rfl⟩:=hc.openT (by omega);obtain⟨mv,e3,e0,e1,e2⟩:=cardT_nth hc hi;obtain⟨c,hcc⟩:∃c,c=cs.getD i ⟨false,[],[]⟩:=⟨_,rfl⟩
  have hnext:=scanGo_next hi l;rw[<-hcc]at e0 e1 e3 hnext;have hcs:=hsm c (by rw[hcc,List.getD,List.getElem?_eq_getElem hi];exact List.getElem_mem hi);have hmv:=e3.live;have hms:=e3.scal;have e0':=rd_subT e0 rfl hSb;have e1':=rd_subT e1 rfl hSb;have e2':=rd_subT e2 hmv hSb;rw[i3]at hnext;refine qP ?_;change Awp _ _ _ _ _ _ _;refine qK ?_;refine Ql ?_;refine awp_rseq [3,4,6,8,9,10] (by rfl) fun K hK=>?_;simp+decide only[ev,putD,Slots.put,Slots.get,if_true,if_false,true_and,↓QB,qY,Qb Tryz.underlying101 qcz,↓qG,qg ag129 qcz,qf,qD,qE,allLive,Bool.and_true,e0',e1',e2',Int.toNat_natCast,hmv];repeat (with_reducible refine And.intro ?_ ?_;· first|trivial|omega|(intro hg;simp only[Bool.and_eq_true,Bool.or_eq_true,Bool.not_eq_true',Bool.and_eq_false_iff,Bool.or_eq_false_iff,Bool.not_eq_false',decide_eq_true_eq,decide_eq_false_iff_not,XV]at hg;omega))
  refine Qj ze129 (cs:=[.bool false, .str [], .nilSlice]) (by rfl) fun k4q2 hk4q2=>?_;try have hf_4q2:h k4q2=none:=by first|assumption|(simp only[AHeap.set_none]at hk4q2;simp only[hk4q2])
  refine qp (v:= .agg [.bool c.left, .str c.text,mv]) (by rfl) (by rfl) (AHeap.set_same _ _ _) qcz (by rfl) (by rfl) (by simp[]) (Nat.zero_le _) (show(true && (true && (mv.scal && true)))=true by rw[hms];rfl) ?_;simp only[AHeap.set_set,setAt,AVal.cells,List.set_cons_zero,List.set_cons_succ,Nat.zero_add,Nat.reduceAdd];simp+decide only[qa,putD,Slots.put,Slots.keep,if_true,if_false];apply hK;clear hK K;obtain⟨a1,a2,a3,a4⟩:=i1.lay hk4q2 ⟨[.bool c.left, .str c.text,mv],0⟩;obtain⟨B2,hB2⟩:∃B2,B2=B.set k4q2 ⟨[.bool c.left, .str c.text,mv],0⟩:=⟨_,rfl⟩
  rw[<-hB2]at a1 a2;have hB2s:Sub B B2:=by rw[hB2];exact Sub.set a4
  have b2k:B2 k4q2=some ⟨[.bool c.left, .str c.text,mv],0⟩:=by rw[hB2];exact AHeap.set_same _ _ _
  have r5:=fun o=>Qy wz (a2.other (lf:=lf0) (s:=s0) (mv:=mv0) (i:=at0) b2k) o;have hm2:IsL wz B2 3 mv (c.marks.map Un):=e3.mono (hBs.trans hB2s);rw[a1];refine awp_rseq [3,4,8,9,10] (by rfl) fun K hK=>?_;simp+decide only[ev,putD,Slots.put,Slots.get,if_true,if_false,true_and,↓qG,qY,qg ag129 qcz,↓qC,qm,Ug,qf,List.getD_cons_zero,List.getD_cons_succ,Nat.zero_add,Nat.reduceAdd,qD,qE,allLive,Bool.and_true,r5,hmv];refine qp (v:= .agg [.bool c.left, .str c.text,mv]) (by rfl) (by rfl) a2.at qcz (by rfl) (by rfl) (by simp[]) (Nat.zero_le _) (show(true && (true && (mv.scal && true)))=true by rw[hms];rfl) ?_;simp only[setAt,AVal.cells,List.set_cons_zero,List.set_cons_succ,Nat.zero_add,Nat.reduceAdd];rw[a2.set];show QJ _ _ _ _ _ (scH k1q0 B2 tb c.left c.text mv at0) _
  simp+decide only[ev,putD,Slots.put,Slots.get,if_true,if_false,true_and,↓qC,qm,Wu,Nat.zero_add];refine qp (v:= .int .i64 0) (by rfl) (by rfl) a2.at sz3 (by rfl) (by rfl) (by simp) (Nat.zero_le _) (by rfl) ?_;simp only[setAt,AVal.cells,List.set_cons_zero,List.set_cons_succ];rw[a2.set];show QJ _ _ _ _ _ (scH k1q0 B2 tb c.left c.text mv 0) _
  simp+decide only[qa,putD,Slots.keep,if_true,if_false];apply hK;clear hK K;refine awp_rseq [3,4,7,8,9,10] (by rfl) fun K hK=>?_;refine QN (by rfl) (by rfl) (c_card wz k1q0 B2 tb c mv l a2 hm2 hcs.2 hcs.1 i4) fun x6q0 h6q0 hx6q0=>?_;obtain⟨hv6,hl6,tb',i',hh6,j1⟩:=hx6q0;obtain⟨f,hf⟩:∃f,f=(qav c l).2:=⟨_,rfl⟩
  obtain⟨H6,hH6⟩:∃H6,H6=scH k1q0 B2 tb' c.left c.text mv i':=⟨_,rfl⟩
  have hS6:Sub h H6:=by rw[hH6];exact(hBs.trans hB2s).trans j1.above
  have e06:H6 k0q1=some ⟨[.int .i64 0, .int .i64 0, .int .i64 0],0⟩:=by rw[hH6];exact j1.other (hB2s _ _ hBk)
  rw[<-hf]at hnext;rw[hv6,hh6,<-hH6,<-hf];refine Qj qbc (cs:=[.int .i64 0, .int .i64 0, .int .i64 0]) (by rfl) fun k6q1 hk6q1=>?_;try have hf_6q1:h k6q1=none:=by first|assumption|(simp only[AHeap.set_none]at hk6q1;simp only[hk6q1])
  refine qp (by rfl) (by rfl) zqA QI (by rfl) (by rfl) zqD (Nat.zero_le _) (by rfl) ?_;simp only[AHeap.set_set,AVal.cells];simp+decide only[qa,ev,putD,Slots.put,Slots.get,Slots.keep,if_true,if_false,setAt,List.set_cons_zero,List.set_cons_succ,Nat.zero_add,Nat.reduceAdd,Qz];apply hK;clear hK K;have hf6:=Sub.none hS6 hk6q1;have ne_6q1_0q1:k6q1≠k0q1:=AHeap.ne_some hk6q1 e06;refine awp_rseq [3,4,7,8,9,10,20] (by rfl) fun K hK=>?_;simp+decide only[qa,ev,qH,qF,putD,Slots.put,Slots.get,Slots.keep,if_true,if_false,true_and,↓qG,qY,qg Xt QI,↓Qp,↓qW,ZJ,evP,List.map_nil,↓qA,ql,qR,cond_false,Yc,ne35,QP,qf,List.getD_cons_zero,List.getD_cons_succ,Nat.zero_add,Nat.reduceAdd,qi,allLive,Bool.and_true,WB];apply hK;clear hK K;refine qJ (b:=_) rfl (fun hb2=>?_) (fun hb2=>?_)
  ·try simp only[decide_eq_false_iff_not,Bool.not_eq_true']at hb2
   have hres:qdR cs=([],f):=by rw[hnext,if_pos hb2]
   refine Zk 2 [2,3] mixed (by kernel_rfl) (by rfl) (by rfl) fun K hK=>?_;simp+decide only[ev,qH,qF,putD,Slots.put,Slots.get,if_true,if_false,true_and,↓qG,qY,qg Xt QI,↓qd,qb,QP,qf,List.getD_cons_zero,List.getD_cons_succ,Nat.zero_add,Nat.reduceAdd,qi,allLive,Bool.and_true];refine qp (by rfl) (by rfl) zqA QI (by rfl) (by rfl) zqD (Nat.zero_le _) (by rfl) ?_;simp only[AVal.cells];simp+decide only[qa,ev,putD,Slots.get,Slots.keep,if_true,if_false,setAt,List.set_cons_zero,List.set_cons_succ,Nat.zero_add,Nat.reduceAdd];apply hK;clear hK K;refine qO ?_;try simp only[Qi,Qw]
   refine Qa h zqB (?_) ?_
   ·simp+decide only[QE,qw,qj,Slots.get,if_true,if_false,and_true,qw,qj,qg Xt QI,Qc,qf,List.getD_cons_zero,List.getD_cons_succ,Nat.zero_add,Nat.reduceAdd,qi,allLive,Bool.and_true,qf,List.getD_cons_zero,List.getD_cons_succ,Nat.zero_add,Nat.reduceAdd,qi,allLive,Bool.and_true]
   simp+decide only[Slots.get,if_true,if_false,Xj,qw,qj,qg Xt QI,Qc,qf,List.getD_cons_zero,List.getD_cons_succ,Nat.zero_add,Nat.reduceAdd,qi,allLive,Bool.and_true,qf,List.getD_cons_zero,List.getD_cons_succ,Nat.zero_add,Nat.reduceAdd,qi,allLive,Bool.and_true];exact⟨none,by rw[hres];rfl,trivial,by rw[hres];rfl,rfl⟩
  ·try simp only[decide_eq_true_eq,Bool.not_eq_false']at hb2
   have hres:qdR cs=qbD (cs.drop (i+1)) (qav c l).1:=by rw[hnext,if_neg (by simpa using hb2)]
   refine qP ?_;change Awp _ _ _ _ _ _ _;refine XA [3,4,8,9,10] (by rfl) ?_;simp+decide only[qa,ev,qH,qF,putD,Slots.put,Slots.get,Slots.keep,if_true,if_false,true_and,↓qA,ql,qB,cond_false,qo,QY,↓qh,qc];try simp(disch:=omega)only[wrap_i64]
   try simp only[Qg]
   exact⟨⟨i+1,(qav c l).1,tb',c.left,c.text,mv,i'⟩,rfl,(scH_sub hB2s).trans (by rw[<-hH6];exact Sub.set hk6q1),⟨j1.down hB2s,hi,hres.symm,hl6⟩,by simp only;omega⟩
 ·try simp only[decide_eq_false_iff_not]at hb1
  have hres:qdR cs=(l,okF):=by rw[<-i3,List.drop_eq_nil_of_le (by omega)];rfl
  have rx10:=fun o=>Qy wz (i1.at (lf:=lf0) (s:=s0) (mv:=mv0) (i:=at0)) o;have hbl:=QV 5 tb;have r0:=fun o=>Qy wz (i1.other (lf:=lf0) (s:=s0) (mv:=mv0) (i:=at0) hBk) o;refine Xy ?_;change Awp _ _ _ _ _ _ _;refine awp_rseq [2,3] (by rfl) fun K hK=>?_;simp+decide only[ev,putD,Slots.put,Slots.get,if_true,if_false,true_and,↓qC,qm,qdp,↓qG,qY,qy UJ,List.getD_cons_zero,List.getD_cons_succ,Nat.zero_add,rx10,hbl];refine qN (V:=Yt (QA 5 tb)) (by rfl) (by rfl) (c_clipT wz _ _ _ (i1.toks _)) ?_;simp+decide only[ev,qH,qF,putD,Slots.put,Slots.get,if_true,if_false,true_and,↓Qp,↓qW,ZJ,evP,List.map_nil,↓qd,qb];refine qp (v:= .agg [.int .i64 0, .int .i64 0, .int .i64 0]) (by rfl) (by rfl) (i1.other hBk) QI (by rfl) (by rfl) (by simp[]) (Nat.zero_le _) (by rfl) ?_;simp only[setAt,AVal.cells,List.set_cons_zero,List.set_cons_succ,Nat.zero_add,Nat.reduceAdd];rw[YC (i1.other hBk)];simp+decide only[qa,putD,Slots.keep,if_true,if_false];apply hK;clear hK K;refine qO ?_;refine QR (?_) ?_
  ·simp+decide only[QE,qw,qj,Slots.get,if_true,if_false,and_true,qw,qj,qg Xt QI,qf,List.getD_cons_zero,List.getD_cons_succ,Nat.zero_add,Nat.reduceAdd,qi,allLive,Bool.and_true,qf,List.getD_cons_zero,List.getD_cons_succ,Nat.zero_add,Nat.reduceAdd,qi,allLive,Bool.and_true,r0]
  simp+decide only[Slots.get,if_true,if_false,Xj,qw,qj,qg Xt QI,qf,List.getD_cons_zero,List.getD_cons_succ,Nat.zero_add,Nat.reduceAdd,qi,allLive,Bool.and_true,qf,List.getD_cons_zero,List.getD_cons_succ,Nat.zero_add,Nat.reduceAdd,qi,allLive,Bool.and_true,r0];have hsx:Sub h (B.set k1q0 ⟨[.bool lf0, .str s0,mv0, .int .i64 at0,QA 5 tb],0⟩):=hBs.trans (Sub.set i1.hk);exact⟨QG h tb,Sub.bufBoth hsx,tb,by rw[hres];rfl,(i1.ok _).sub hsx,by rw[hres];exact i1.eq,rfl⟩
end Go.Proofs.YtlhhaagmakhilaaGreatDoor
namespace Go.Proofs.YtlhhaagmakhilaaGreatDoor
open Go.AM
open Go.Proofs
open Go.Col
open Go.Tok
open Go.RowKit (Below)
set_option maxRecDepth 100000
theorem qdf(dbg:Bool):∀(ls:List Str) (n:Int) (x:Rd) (N:Nat),RdSm N x->RdSm (N+ls.length) (Wp dbg ls n x).1
 |[],_,x,N,h=>h
 |s::ls,n,x,N,h=>by
  have hl:=(lineE_small (s:=s) (line:=n) (dbg:=dbg)).1;have e:N+(s::ls).length=(N+1)+ls.length:=by rw[List.length_cons];omega
  have up:∀k {y:Rd},RdSm (N+1) y->RdSm (N+1+k) y:=fun k y hy=>by
   induction k with
   |zero=>exact hy
   |succ k ih=>exact ih.next
  rw[Wp];cases hp:Ur s n dbg with
  |mk r q=>
   obtain⟨cn,f⟩:=q;rw[hp]at hl;simp only;split
   ·rw[e];exact qdf dbg ls _ x (N+1) h.next
   ·split
    ·split
     ·rw[e];exact qdf dbg ls _ _ (N+1) (qdJ h (by have:r.text.length<=65:=hl;omega))
     ·rw[e];exact up _ (qdJ h (by have:r.text.length<=65:=hl;omega))
    ·rw[e];exact up _ h.next
theorem readE_smallT(text:Str)(dbg:Bool):(UG text dbg).1.length<=1048577/\∀c∈(UG text dbg).1,c.text.length<=83886160/\c.marks.length<=1048577:=by
 have h:=qdf dbg (XW (Yw text)) 1 .start 0 ⟨Nat.zero_le _,fun c hc=>by cases hc⟩;have h1:=qdM (Yw text);have h2:=qcW text;unfold UG;split
 ·exact⟨Nat.zero_le _,fun c hc=>by cases hc⟩
 ·simp only
  split
  ·exact⟨Nat.zero_le _,fun c hc=>by cases hc⟩
  ·split
   ·exact⟨Nat.zero_le _,fun c hc=>by cases hc⟩
   ·exact⟨by have:=h.many;simp only;omega,fun c hc=>by have:=h.small c hc;omega⟩
theorem source_small(text:Str)(dbg:Bool):(qeF text dbg).1.length<=65536/\∀t∈(qeF text dbg).1,t.text.length<=83886162:=by
 obtain⟨z1,z2⟩:=readE_smallT text dbg;unfold qeF;split
 ·exact⟨Nat.zero_le _,fun t ht=>by cases ht⟩
 ·refine⟨scanGo_many _ _ (Nat.zero_le _),scanGo_inv _ _ (fun c hc j l hv hj h32 he=>?_) _ (fun t ht=>by cases ht)⟩
  have:=(z2 c hc).1;have:=next_text c.text j l hj;show(WG c.text j l).text.length<=_
  omega
theorem c_Source(wz:World)(hm:MaxL wz)(h:AHeap)(text:Str)(dbg:Bool)(hl:text.length<=9223372036854775807):ACall Tryz.prog wz 42 [.str text, .bool dbg] h (ScanR h (qeF text dbg)):=by
 obtain⟨z1,z2⟩:=readE_smallT text dbg;refine qU (n:=22) (rs:=[.tmp 4, .cell 5 35]) Tryz.func42 rfl rfl rfl rfl (Nat.le_of_ble_eq_true rfl) ?_;simp only[Qe];refine awp_rseq [0,1,5] (by rfl) fun K hK=>?_;simp+decide only[ev,qH,qF,putD,Slots.put,if_false,true_and,↓qd,qb,Nat.zero_add];refine Qj qbc (cs:=[.int .i64 0, .int .i64 0, .int .i64 0]) (by rfl) fun k0q1 hk0q1=>?_;try have hf_0q1:h k0q1=none:=by first|assumption|(simp only[AHeap.set_none]at hk0q1;simp only[hk0q1])
 simp+decide only[qa,putD,Slots.put,Slots.keep,if_true,if_false];apply hK;clear hK K;refine awp_rseq [5,6,7] (by rfl) fun K hK=>?_;simp+decide only[ev,putD,Slots.put,Slots.get,if_true,if_false,true_and,↓qh,qc];refine QN (by rfl) (by rfl) (c_Read wz hm _ text dbg hl) fun x1q2 h1q2 hx1q2=>?_;obtain⟨cv,rfl,hc,hs1⟩:=hx1q2;have hlv:=hc.liveT;obtain⟨cs,hcs⟩:∃cs,cs=(UG text dbg).1:=⟨_,rfl⟩
 obtain⟨f,hf⟩:∃f,f=(UG text dbg).2:=⟨_,rfl⟩
 have hso:qeF text dbg=if f≠okF then([],f)else qdR cs:=by rw[hf,hcs];rfl
 rw[<-hcs]at hc z1 z2;rw[<-hf];have hs_h1q2:Sub h h1q2:=Sub.trans zqC hs1;have hr_h1q2:=hs_h1q2;have eb_0q1:=hs1 k0q1 _ zqA;simp+decide only[ev,putD,Slots.put,Slots.get,if_true,if_false,true_and,↓qh,qc,↓QW,QH,QS,List.length_cons,List.length_nil,List.getD_cons_zero,List.getD_cons_succ,List.getD_cons_zero,List.getD_cons_succ,Nat.zero_add,Nat.reduceAdd,Qz];refine Qj qbc (cs:=[.int .i64 0, .int .i64 0, .int .i64 0]) (by rfl) fun k1q6 hk1q6=>?_;have hn_1q6:h1q2 k1q6=none:=by first|assumption|(simp only[AHeap.set_none]at hk1q6;simp only[hk1q6])
 have hf_1q6:h k1q6=none:=Sub.none hs_h1q2 hn_1q6;have ne_1q6_0q1:k1q6≠k0q1:=AHeap.ne_some hn_1q6 eb_0q1;simp+decide only[ev,putD,Slots.put,Slots.get,if_true,if_false,true_and,↓qd,qb];refine qp (by rfl) (by rfl) zqA QI (by rfl) (by rfl) zqD (Nat.zero_le _) (by rfl) ?_;simp only[AHeap.set_set,AVal.cells];simp+decide only[qa,ev,putD,Slots.get,Slots.keep,if_true,if_false,setAt,List.set_cons_zero,List.set_cons_succ,Nat.zero_add,Nat.reduceAdd];apply hK;clear hK K;refine qK ?_;refine awp_rseq [5,6,7,16] (by rfl) fun K hK=>?_;simp+decide only[qa,ev,qH,qF,putD,Slots.put,Slots.get,Slots.keep,if_true,if_false,true_and,↓qG,qY,qg Xt QI,↓Qp,↓qW,ZJ,evP,List.map_nil,↓qA,ql,qR,cond_false,Yc,ne35,QP,qf,List.getD_cons_zero,List.getD_cons_succ,Nat.zero_add,Nat.reduceAdd,qi,allLive,Bool.and_true,WB];apply hK;clear hK K;refine qJ (b:=_) rfl (fun hb1=>?_) (fun hb1=>?_)
 ·try simp only[decide_eq_false_iff_not,Bool.not_eq_true']at hb1
  rw[if_pos hb1]at hso;refine Zk 2 [4,5] mixed (by kernel_rfl) (by rfl) (by rfl) fun K hK=>?_;simp+decide only[ev,qH,qF,putD,Slots.put,Slots.get,if_true,if_false,true_and,↓qG,qY,qg Xt QI,↓qd,qb,QP,qf,List.getD_cons_zero,List.getD_cons_succ,Nat.zero_add,Nat.reduceAdd,qi,allLive,Bool.and_true];refine qp (by rfl) (by rfl) zqA QI (by rfl) (by rfl) zqD (Nat.zero_le _) (by rfl) ?_;simp only[AVal.cells];simp+decide only[qa,ev,putD,Slots.get,Slots.keep,if_true,if_false,setAt,List.set_cons_zero,List.set_cons_succ,Nat.zero_add,Nat.reduceAdd];apply hK;clear hK K;refine qO ?_;try simp only[Qi]
  refine Qa h zqB (?_) ?_
  ·simp+decide only[QE,qw,qj,Slots.get,if_true,if_false,and_true,qw,qj,qg Xt QI,Qc,qf,List.getD_cons_zero,List.getD_cons_succ,Nat.zero_add,Nat.reduceAdd,qi,allLive,Bool.and_true,qf,List.getD_cons_zero,List.getD_cons_succ,Nat.zero_add,Nat.reduceAdd,qi,allLive,Bool.and_true]
  simp+decide only[Slots.get,if_true,if_false,Xj,qw,qj,qg Xt QI,Qc,qf,List.getD_cons_zero,List.getD_cons_succ,Nat.zero_add,Nat.reduceAdd,qi,allLive,Bool.and_true,qf,List.getD_cons_zero,List.getD_cons_succ,Nat.zero_add,Nat.reduceAdd,qi,allLive,Bool.and_true];exact⟨none,by rw[hso];rfl,trivial,by rw[hso];rfl,rfl⟩
 ·try simp only[decide_eq_true_eq,Bool.not_eq_false']at hb1
  rw[if_neg (by simpa using hb1)]at hso;refine qP ?_;change Awp _ _ _ _ _ _ _;refine awp_rseq [4,5] (by rfl) fun K hK=>?_;simp+decide only[ev,putD,Slots.put,Slots.get,if_true,if_false,true_and,↓qh,qc];refine QN (by rfl) (by rfl) (c_Scan wz _ cv cs (hc.mono zqB) (by omega) (fun c hcm=>by have:=z2 c hcm;omega)) fun x4q1 h4q1 hx4q1=>?_;obtain⟨tb,rfl,o1,o2,rfl⟩:=hx4q1;have hat:=(zqA:(h1q2.set k1q6 ⟨[.int .i64 f.e, .int .i64 f.line, .int .i64 f.col],0⟩) k0q1=some ⟨[.int .i64 0, .int .i64 0, .int .i64 0],0⟩)
  have hlb:=QV 5 tb;simp+decide only[ev,putD,Slots.put,Slots.get,if_true,if_false,true_and,↓QW,QH,QS,List.length_cons,List.length_nil,List.getD_cons_zero,List.getD_cons_succ,↓qd,qb,List.getD_cons_zero,List.getD_cons_succ,Nat.zero_add,Nat.reduceAdd,Qz];refine qp (v:=Qz (qdR cs).2) (by rfl) (by rfl) (ZR o1 hat) QI (by rfl) (by rfl) (by simp[]) (Nat.zero_le _) (by rfl) ?_;simp only[setAt,AVal.cells,Qz,List.set_cons_zero,List.set_cons_succ,Nat.zero_add,Nat.reduceAdd];rw[Wo o1 hat];have r0:=fun o=>Qy wz (ZR (ZP o1 hat ⟨[.int .i64 (qdR cs).2.e, .int .i64 (qdR cs).2.line, .int .i64 (qdR cs).2.col],0⟩) (AHeap.set_same _ _ _)) o;simp+decide only[qa,putD,Slots.keep,if_true,if_false];apply hK;clear hK K;refine qO ?_;refine QR (?_) ?_
  ·simp+decide only[QE,qw,qj,Slots.get,if_true,if_false,and_true,qw,qj,qg Xt QI,qf,List.getD_cons_zero,List.getD_cons_succ,Nat.zero_add,Nat.reduceAdd,qi,allLive,Bool.and_true,qf,List.getD_cons_zero,List.getD_cons_succ,Nat.zero_add,Nat.reduceAdd,qi,allLive,Bool.and_true,r0]
  simp+decide only[Slots.get,if_true,if_false,Xj,qw,qj,qg Xt QI,qf,List.getD_cons_zero,List.getD_cons_succ,Nat.zero_add,Nat.reduceAdd,qi,allLive,Bool.and_true,qf,List.getD_cons_zero,List.getD_cons_succ,Nat.zero_add,Nat.reduceAdd,qi,allLive,Bool.and_true,r0];refine⟨QG h tb,?_,tb,by rw[hso];rfl,o1.sub zqB,by rw[hso];exact o2,rfl⟩;exact Sub.bufBoth zqB
end Go.Proofs.YtlhhaagmakhilaaGreatDoor
namespace Go.Proofs.YtlhhaagmakhilaaGreatDoor
open Go.AM
open Go.Proofs
open Go.Col
open Go.Tok
open Go.RowKit (Below)
set_option maxRecDepth 100000
theorem qaw{wz:World}{h:AHeap}{lc:AM.Loc}{o:Nat}{c:Cap}{l:List TokC}(ht:IsL wz h 5 (.slice lc o l.length c) (l.map QK)){i:Nat}(hi:i<l.length):
 rd wz h lc (o+i*5)= .int .u8 (l.getD i Zy).kind.toNat/\rd wz h lc (o+i*5+1)= .str (l.getD i Zy).text/\rd wz h lc (o+i*5+2)= .int .i64 (l.getD i Zy).line/\rd wz h lc (o+i*5+3)= .int .i64 (l.getD i Zy).col/\rd wz h lc (o+i*5+4)= .bool (l.getD i Zy).left:=by
 have he:=ht.elem (i:=i) (by rw[List.length_map];exact hi);rw[getD_map Zy hi]at he;simp only[qf,QK,List.cons.injEq,and_true]at he;exact he
theorem Ui{wz:World}{h:AHeap}{v:AVal}{l:List TokC}(ht:IsL wz h 5 v (l.map QK))(hn:0<l.length):∃lc o c,v= .slice lc o l.length c:=by
 obtain⟨lc,o,c,e⟩:=ht.open (fun e=>by rw[List.map_eq_nil_iff]at e;subst e;simp at hn);rw[List.length_map]at e;exact⟨lc,o,c,e⟩
theorem Zp{wz:World}{h:AHeap}{v:AVal}{l:List TokC}(ht:IsL wz h 5 v (l.map QK)):∀H:AHeap,Ye Tryz.prog H 26 v=⟨True, .int .i64 l.length⟩:=by
 intro H;have:=ht.len Tryz.underlying26 H
 rwa [List.length_map]at this
end Go.Proofs.YtlhhaagmakhilaaGreatDoor
namespace Go.Proofs.YtlhhaagmakhilaaGreatDoor
open Go.AM
open Go.Proofs
open Go.Col
open Go.Tok
open Go.RowKit (Below)
set_option maxRecDepth 100000
def sameT(a b:TokC):Bool:=decide (a.kind=b.kind) && decide (a.text=b.text)
def qbE:List TokC->List TokC->Bool
 |[],[]=>true
 |a::l,b::m=>sameT a b && qbE l m
 |_,_=>false
theorem sameE_len:∀{l m:List TokC},l.length≠m.length->qbE l m=false
 |[],[],h=>absurd rfl h
 |[],_::_,_=>rfl
 |_::_,[],_=>rfl
 |a::l,b::m,h=>by
  rw[qbE,sameE_len (l:=l) (m:=m) (fun e=>h (by simp[e])),Bool.and_false]
theorem sameE_step{l m:List TokC}{i:Nat}(h1:i<l.length)(h2:i<m.length):qbE (l.drop i) (m.drop i)=(sameT (l.getD i Zy) (m.getD i Zy) && qbE (l.drop (i+1)) (m.drop (i+1))):=by
 rw[List.drop_eq_getElem_cons h1,List.drop_eq_getElem_cons h2,qbE];simp[List.getD,h1,h2]
theorem c_same1(wz:World)(h:AHeap)(a b:TokC):ACall Tryz.prog wz 41 [.agg (QK a), .agg (QK b)] h (fun v h'=>v= .bool (sameT a b)/\h'=h):=by
 unfold QK;have ek:decide ((a.kind.toNat:Int)=b.kind.toNat)=decide (a.kind=b.kind):=decide_eq_decide.2 ⟨fun q=>UInt8.toNat_inj.1 (by omega),fun q=>by rw[q]⟩;refine qU (n:=17) (rs:=[.tmp 4]) Tryz.func41 rfl rfl rfl rfl (Nat.le_of_ble_eq_true rfl) ?_;simp only[Qe];refine awp_rseq [2,3] (by rfl) fun K hK=>?_;refine WE (by rfl) (by rfl) (by rfl) fun k0q0 hk0q0=>?_;try have hf_0q0:h k0q0=none:=by first|assumption|(simp only[AHeap.set_none]at hk0q0;simp only[hk0q0])
 skip;refine WE (by rfl) (by rfl) (by rfl) fun k0q1 hk0q1=>?_;have ne_0q1_0q0:k0q1≠k0q0:=by simp only[AHeap.set_none]at hk0q1;simp only[hk0q1,ne_eq,not_false_eq_true]
 try have hf_0q1:h k0q1=none:=by first|assumption|(simp only[AHeap.set_none]at hk0q1;simp only[hk0q1])
 skip;simp+decide only[qa,ev,qH,qF,putD,Slots.put,Slots.get,Slots.keep,if_true,if_false,true_and,↓qd,qb,AVal.cells,Nat.zero_add];apply hK;clear hK K;refine awp_rseq [4] (by rfl) fun K hK=>?_;simp+decide only[qa,ev,qH,qF,putD,Slots.put,Slots.get,Slots.keep,if_true,if_false,true_and,↓qC,qm,fa54_0,↓qG,qY,qy ag52,↓qA,ql,qR,cond_false,qo,XR,↓qh,qc,↓XC,agP,Qs,qL,qI,qz,implies_true,UI,↓Zr,Za,WS,qfb,qy ag9,↓Xb,Zc,qbm,Zd,qbo,XZ,qfA,↓QT,Qu,Qh,Xg,Xp,↓qd,qb,QO,ne_eq,not_false_eq_true,ne_0q1_0q0.symm,QP,List.getD_cons_zero,List.getD_cons_succ,Nat.zero_add,qi,qE,ek];apply hK;clear hK K;refine qO ?_;refine Qa h zqC (qZ (Qd)) ?_;simp+decide only[Slots.get,if_true,and_true,Qr];rfl
theorem c_equalFunc(wz:World)(h:AHeap)(v w:AVal)(l m:List TokC)(hv:IsL wz h 5 v (l.map QK))(hw:IsL wz h 5 w (m.map QK))(hl:l.length<=1099511627776):
 ACall Tryz.prog wz 40 [v,w, .func 41 []] h (fun r h'=>r= .bool (qbE l m)/\h'=h):=by
 have hlv:=hv.live;have hlw:=hw.live;have nv:=Zp hv;have nw:=Zp hw;refine qU (n:=32) (rs:=[.tmp 6]) Tryz.func40 rfl rfl rfl rfl (Nat.le_of_ble_eq_true rfl) ?_;simp only[Qe];refine awp_rseq [0,1,2] (by rfl) fun K hK=>?_;simp+decide only[qa,ev,qH,qF,putD,Slots.put,Slots.keep,if_true,if_false,true_and,↓qd,qb,Nat.zero_add,Nat.reduceAdd];apply hK;clear hK K;refine qK ?_;refine awp_rseq [0,1,2,14] (by rfl) fun K hK=>?_;simp+decide only[qa,ev,putD,Slots.put,Slots.get,Slots.keep,if_true,if_false,true_and,↓qh,qc,↓Xo,QD,↓qA,ql,qR,cond_false,qo,qag,nv,nw];apply hK;clear hK K;refine qJ (b:=_) rfl (fun hb1=>?_) (fun hb1=>?_)
 ·try simp only[decide_eq_false_iff_not,Bool.not_eq_true']at hb1
  refine awp_rseq [6] (by rfl) fun K hK=>?_;simp+decide only[qa,ev,qH,qF,putD,Slots.put,Slots.keep,if_true,if_false,true_and,↓qd,qb];apply hK;clear hK K;refine qO ?_;try simp only[Qi]
  refine Qa h zqC (qZ (Qd)) ?_;simp+decide only[Slots.get,if_true,and_true,Qr];rw[sameE_len (by omega)]
 ·try simp only[decide_eq_true_eq,Bool.not_eq_false']at hb1
  have hlen:l.length=m.length:=by omega
  refine qP ?_;change Awp _ _ _ _ _ _ _;refine qK ?_;refine awp_rseq [1,2,15,16,17] (by rfl) fun K hK=>?_;simp+decide only[qa,ev,qH,qF,putD,Slots.put,Slots.get,Slots.keep,if_true,if_false,true_and,↓qh,qc,↓Xo,QD,nv];apply hK;clear hK K;refine Ql ?_;refine Xv [1,2,15,16,17] (fun i:Nat=>[(1,w),(2, .func 41 []),(15,v),(16, .int .i64 l.length),(17, .int .i64 i)]) (fun i:Nat=>h) (fun i:Nat=>i<=l.length/\qbE (l.drop i) (m.drop i)=qbE l m) (fun i:Nat=>l.length-i) 0 (by rfl) (Sub.refl _) ⟨Nat.zero_le _,rfl⟩ ?_;rintro i ⟨hi,hq⟩;refine awp_rseq [1,2,15,16,17,18] (by rfl) fun K hK=>?_;simp+decide only[qa,ev,putD,Slots.put,Slots.get,Slots.keep,if_true,if_false,true_and,↓qA,ql,qR,cond_false,qo,XP];apply hK;clear hK K;refine qK (qJ (b:=_) rfl (fun hb2=>?_) (fun hb2=>?_))
  ·try simp only[decide_eq_true_eq]at hb2
   have hi':i<l.length:=by omega
   obtain⟨lc,o,c,rfl⟩:=Ui hv (by omega);obtain⟨lc',o',c',rfl⟩:=Ui hw (by omega);obtain⟨e0,e1,e2,e3,e4⟩:=qaw hv hi';obtain⟨a,ha⟩:∃a,a=l.getD i Zy:=⟨_,rfl⟩
   obtain⟨b,hb⟩:∃b,b=m.getD i Zy:=⟨_,rfl⟩
   have hst:=sameE_step (l:=l) (m:=m) hi' (by omega);rw[hq]at hst;rw[<-ha]at e0 e1 e2 e3 e4 hst;rw[<-hb]at hst;have e2':rd wz h lc (o+i*5+1+1)= .int .i64 a.line:=e2;have e3':rd wz h lc (o+i*5+1+1+1)= .int .i64 a.col:=e3;have e4':rd wz h lc (o+i*5+1+1+1+1)= .bool a.left:=e4;refine qP ?_;change Awp _ _ _ _ _ _ _;refine qK ?_;refine Ql ?_;refine awp_rseq [1,2,7,8,15,16,17] (by rfl) fun K hK=>?_;simp+decide only[ev,putD,Slots.put,Slots.get,if_true,if_false,true_and,↓qh,qc,↓QB,qY,Qb Tryz.underlying26 Xa,↓qG,qg Zf Xa,qf,qD,qi,qE,allLive,Bool.and_true,e0,e1,e2',e3',e4',Int.toNat_natCast];repeat (with_reducible refine And.intro ?_ ?_;· first|trivial|omega|(intro hg;simp only[Bool.and_eq_true,Bool.or_eq_true,Bool.not_eq_true',Bool.and_eq_false_iff,Bool.or_eq_false_iff,Bool.not_eq_false',decide_eq_true_eq,decide_eq_false_iff_not,XV]at hg;omega))
   refine Qj qam (cs:=[.int .u8 0, .str [], .int .i64 0, .int .i64 0, .bool false]) (by rfl) fun k5q3 hk5q3=>?_;try have hf_5q3:h k5q3=none:=by first|assumption|(simp only[AHeap.set_none]at hk5q3;simp only[hk5q3])
   simp+decide only[ev,putD,Slots.put,Slots.get,if_true,if_false,true_and,↓qd,qb];refine qp (by rfl) (by rfl) zqA Xa (by rfl) (by rfl) zqD (Nat.zero_le _) (by rfl) ?_;simp only[AHeap.set_set,AVal.cells];simp+decide only[qa,ev,putD,Slots.get,Slots.keep,if_true,if_false,setAt,List.set_cons_zero,List.set_cons_succ,Nat.zero_add,Nat.reduceAdd];apply hK;clear hK K;obtain⟨H,hH⟩:∃H,H=h.set k5q3 ⟨[.int .u8 a.kind.toNat, .str a.text, .int .i64 a.line, .int .i64 a.col, .bool a.left],0⟩:=⟨_,rfl⟩
   have hsH:Sub h H:=by rw[hH];exact Sub.set hk5q3
   obtain⟨d0,d1,d2,d3,d4⟩:=qaw (hw.mono hsH) (i:=i) (by omega);rw[<-hb]at d0 d1 d2 d3 d4;have d2':rd wz H lc' (o'+i*5+1+1)= .int .i64 b.line:=d2;have d3':rd wz H lc' (o'+i*5+1+1+1)= .int .i64 b.col:=d3;have d4':rd wz H lc' (o'+i*5+1+1+1+1)= .bool b.left:=d4;rw[hH]at d0 d1 d2' d3' d4';refine awp_rseq [1,2,8,9,15,16,17] (by rfl) fun K hK=>?_;simp+decide only[ev,putD,Slots.put,Slots.get,if_true,if_false,true_and,↓qh,qc,↓QB,qY,Qb Tryz.underlying26 Xa,↓qG,qg Zf Xa,qf,qD,qi,qE,allLive,Bool.and_true,d0,d1,d2',d3',d4',Int.toNat_natCast];repeat (with_reducible refine And.intro ?_ ?_;· first|trivial|omega|(intro hg;simp only[Bool.and_eq_true,Bool.or_eq_true,Bool.not_eq_true',Bool.and_eq_false_iff,Bool.or_eq_false_iff,Bool.not_eq_false',decide_eq_true_eq,decide_eq_false_iff_not,XV]at hg;omega))
   refine Qj qam (cs:=[.int .u8 0, .str [], .int .i64 0, .int .i64 0, .bool false]) (by rfl) fun k6q4 hk6q4=>?_;have ne_6q4_5q3:k6q4≠k5q3:=by simp only[AHeap.set_none]at hk6q4;simp only[hk6q4,ne_eq,not_false_eq_true]
   try have hf_6q4:h k6q4=none:=by first|assumption|(simp only[AHeap.set_none]at hk6q4;simp only[hk6q4])
   refine qp (by rfl) (by rfl) zqA Xa (by rfl) (by rfl) zqD (Nat.zero_le _) (by rfl) ?_;simp only[AHeap.set_set,AVal.cells];simp+decide only[qa,ev,putD,Slots.put,Slots.get,Slots.keep,if_true,if_false,setAt,List.set_cons_zero,List.set_cons_succ,Nat.zero_add,Nat.reduceAdd];apply hK;clear hK K;refine awp_rseq [1,2,15,16,17,30] (by rfl) fun K hK=>?_;simp+decide only[ev,putD,Slots.put,Slots.get,if_true,if_false,true_and,↓qh,qc,↓qG,qY,qg Zf Xa,QO,ne_eq,not_false_eq_true,ne_6q4_5q3.symm,QP,qf,List.getD_cons_zero,List.getD_cons_succ,Nat.zero_add,Nat.reduceAdd,qD,qi,qE,allLive,Bool.and_true];refine qN (V:= .bool (sameT a b)) (by rfl) (by rfl) (c_same1 wz _ a b) ?_;simp+decide only[qa,ev,putD,Slots.put,Slots.get,Slots.keep,if_true,if_false,true_and,↓YA,XU,Yi];apply hK;clear hK K;refine qJ (b:=_) rfl (fun hb3=>?_) (fun hb3=>?_)
   ·try simp only[Bool.not_eq_true']at hb3
    refine awp_rseq [6] (by rfl) fun K hK=>?_;simp+decide only[qa,ev,qH,qF,putD,Slots.put,Slots.keep,if_true,if_false,true_and,↓qd,qb];apply hK;clear hK K;refine qO ?_;try simp only[Qi,Qw]
    refine Qa h zqC (qZ (Qd)) ?_;simp+decide only[Slots.get,if_true,and_true,Qr];rw[hst,hb3,Bool.false_and]
   ·try simp only[Bool.not_eq_false']at hb3
    refine qP ?_;change Awp _ _ _ _ _ _ _;refine XA [1,2,15,16,17] (by rfl) ?_;simp+decide only[qa,ev,qH,qF,putD,Slots.put,Slots.get,Slots.keep,if_true,if_false,true_and,↓qA,ql,qB,cond_false,qo,QY,↓qh,qc];try simp(disch:=omega)only[wrap_i64]
    try simp only[Qg]
    exact⟨i+1,rfl,zqB,⟨hi',by rw[hst,hb3,Bool.true_and]⟩,by omega⟩
  ·try simp only[decide_eq_false_iff_not]at hb2
   refine Xy ?_;change Awp _ _ _ _ _ _ _;refine awp_rseq [6] (by rfl) fun K hK=>?_;simp+decide only[qa,ev,qH,qF,putD,Slots.put,Slots.keep,if_true,if_false,true_and,↓qd,qb];apply hK;clear hK K;refine qO ?_;refine Qa h zqC (qZ (Qd)) ?_;simp+decide only[Slots.get,if_true,and_true,Qr];rw[<-hq,List.drop_eq_nil_of_le (by omega),List.drop_eq_nil_of_le (by omega)];rfl
theorem c_Same(wz:World)(h:AHeap)(v w:AVal)(l m:List TokC)(hv:IsL wz h 5 v (l.map QK))(hw:IsL wz h 5 w (m.map QK))(hl:l.length<=1099511627776):
 ACall Tryz.prog wz 18 [v,w] h (fun r h'=>r= .bool (qbE l m)/\h'=h):=by
 have hlv:=hv.live;have hlw:=hw.live;refine qU (n:=8) (rs:=[.tmp 4]) Tryz.func18 rfl rfl rfl rfl (Nat.le_of_ble_eq_true rfl) ?_;simp only[Qe];refine awp_rseq [0,1] (by rfl) fun K hK=>?_;simp+decide only[qa,ev,qH,qF,putD,Slots.put,Slots.keep,if_true,if_false,true_and,↓qd,qb];apply hK;clear hK K;refine awp_rseq [4] (by rfl) fun K hK=>?_;simp+decide only[ev,putD,Slots.put,Slots.get,if_true,if_false,true_and,↓qh,qc];refine qN (V:= .bool (qbE l m)) (by rfl) (by rfl) (c_equalFunc wz _ v w l m hv hw hl) ?_;simp+decide only[qa,ev,putD,Slots.put,Slots.get,Slots.keep,if_true,if_false,true_and,↓qd,qb];apply hK;clear hK K;refine qO ?_;refine Qa _ (Sub.refl _) (qZ (Qd)) ?_;simp+decide only[Slots.get,if_true,and_true,Qr];all_goals first|rfl|exact⟨rfl,rfl⟩|(simp+decide only[if_true,if_false, *];done)|(trace_state;fail)
end Go.Proofs.YtlhhaagmakhilaaGreatDoor
namespace Go.AM
open Go.RowKit (Below)
theorem XJ(b:Bool):(AVal.bool b).scal=true:=rfl
theorem XY(k:IntKind)(n:Int):(AVal.int k n).scal=true:=rfl
theorem Ze(s:List UInt8):(AVal.str s).scal=true:=rfl
theorem sc_map(k:Nat):(AVal.map k).scal=true:=rfl
section
variable {P:Program}
theorem pu_lookup(t:TypeId)(x i:Operand)(ok:Bool):Zg P (.lookup t x i ok)=true:=rfl
end
section
variable {P:Program} {wz:World} {ops rest:List Oper} {s:Slots} {h:AHeap} {K:Slots->AHeap->Prop} {dst:Option Tmp} {ty:TypeId} {pos:String} {af:Array Edge}
theorem ap_lookup(t:TypeId)(x i:Operand)(ok:Bool):
 QJ P wz ops (⟨dst, .lookup t x i ok,ty,pos,af,none⟩::rest) s h K=((pop P wz h s (.lookup t x i ok)).pre/\QJ P wz ops rest (putD s dst (pop P wz h s (.lookup t x i ok)).val) h K):=WT (pu_lookup t x i ok)
theorem aOps_makeMap{t:TypeId}(hk:∀k,h k=none->QJ P wz ops rest (putD s dst (.map k)) (h.set k (XH 0 [])) K):QJ P wz ops (⟨dst, .makeMap t none,ty,pos,af,none⟩::rest) s h K:=by
 rw[qcb];exact hk
theorem aOps_putNew{t kt et:TypeId}{m i v:Operand}{k c:Nat}{es:List AVal}(ht:P.underlying t=some (.map kt et))(hm:ev s m= .map k)(hb:h k=some (XH c es))(hok:qas P kt (ev s i)=true)(hf:qar (ev s i) es 0=some none)
 (hk:QJ P wz ops rest (putD s dst (.tuple [])) (h.set k (XH (c+1) (es++[.mapE c (ev s i) (ev s v)]))) K):QJ P wz ops (⟨dst, .mapUpdate t m i v,ty,pos,af,none⟩::rest) s h K:=by
 rw[qcb];simp only[eop,qch,ht,hm,Uo hb,hf];exact⟨hok,hk⟩
end
section
variable {P:Program} {h:AHeap}
theorem pLookup_in{t kt et:TypeId}{z:Value}{k c j:Nat}{es:List AVal}{i v:AVal}{ok:Bool}(ht:P.underlying t=some (.map kt et))(hz:WU P et=some z)(hb:h k=some (XH c es))(hok:qas P kt i=true)(hf:qar i es 0=some (some (j,v))):
 qaf P h t (.map k) i ok=⟨True,lookR ok v true⟩:=by
 simp only[qaf,ht,hz,Uo hb,hf,hok]
theorem pLookup_out{t kt et:TypeId}{z:Value}{k c:Nat}{es:List AVal}{i:AVal}{ok:Bool}(ht:P.underlying t=some (.map kt et))(hz:WU P et=some z)(hb:h k=some (XH c es))(hok:qas P kt i=true)(hf:qar i es 0=some none):
 qaf P h t (.map k) i ok=⟨True,lookR ok (qH z) false⟩:=by
 simp only[qaf,ht,hz,Uo hb,hf,hok]
theorem lookR_false(v:AVal)(b:Bool):lookR false v b=v:=rfl
end
end Go.AM
namespace Go.AM
open Go.RowKit (Below)
theorem step_put{P:Program}{fr:Frame}{cs:List Frame}{w w':World}{d:Deferred}{ds:List Deferred}{b:Builtin}{ts:Array TypeId}{t:TypeId}{ks:Array Bool}{v:Value}(hm:fr.mode≠ .run)(hd:fr.defers=d::ds)(ht:d.target= .builtin b ts t ks)
 (hi:(invoke d.target d.args).run P w= .ok (.value v) w'):step P (lone fr cs w)= .next (lone {fr with defers:=ds} cs w'):=by
 obtain⟨tg,a⟩:=d;simp only at ht hi;subst ht;refine step_lone_go ?_;cases hmode:fr.mode with
 |run=>exact absurd hmode hm
 |returning=>simp[stepG,unwind,callDeferred,hmode,hd,hi]
 |panicking chain=>simp[stepG,unwind,callDeferred,hmode,hd,hi]
def RunsB(P:Program):List Deferred->World->World->Prop
 |[],w,w'=>w'=w
 |d::ds,w,w'=>∃b ts t ks v w1,d.target= .builtin b ts t ks/\(invoke d.target d.args).run P w= .ok (.value v) w1/\RunsB P ds w1 w'
theorem qdS{P:Program}:∀(ds:List Deferred) (w w':World) (fr:Frame) (cs:List Frame),fr.mode≠ .run->fr.defers=ds->RunsB P ds w w'->Steps P (lone fr cs w) (lone {fr with defers:=[]} cs w')
 |[],w,w',fr,cs,_,hd,h=>by
  simp only[RunsB]at h;subst h;have e:({fr with defers:=[]}:Frame)=fr:=by cases fr;simp_all
  rw[e];exact Steps.refl P _
 |d::ds,w,w',fr,cs,hm,hd,h=>by
  obtain⟨b,ts,t,ks,v,w1,ht,hi,hr⟩:=h;exact .head (step_put (cs:=cs) hm hd ht hi) (qdS ds w1 w' {fr with defers:=ds} cs hm rfl hr)
def bodyPostB(P:Program)(fn:Func)(R:Ending->World->Prop):Exit->Act->World->Prop
 | .normal,a,w| .ret,a,w=>∃w',RunsB P a.defers w w'/\∃v,(results fn a.tmps).run P w'= .ok v w'/\R (.returned v) w'
 | .outgrown,_,w=>R .outgrown w
 |_,_,_=>False
theorem calls_of_wp_put{P:Program}{f:FuncId}{fn:Func}{c:Code}{args:Array Value}{w:World}{R:Ending->World->Prop}
 (hf:P.funcs[f]?=some fn) (hb:fn.body=some c)
 (h:c.wp P (bodyPostB P fn R) {tmps:=args++Array.replicate (fn.ntmps-args.size) undef,defers:=[]} w):Calls P f args w R:=by
 intro cs;let b:Frame:={(default:Frame)with fn:=f,kind:= .normal}
 have henter:Frame.enter P f args .normal=
  b.at {tmps:=args++Array.replicate (fn.ntmps-args.size) undef,defers:=[]} [.code c]:=by
  simp[Frame.enter,Frame.at,hf,hb,b]
 obtain⟨e,a',w',hq,harr⟩:=h b [] cs;rw[<-henter]at harr;cases e with
 |normal=>
  obtain⟨w'',hr,v,h1,h2⟩:=hq;have hs:=qdS a'.defers w' w'' {b.at a' []with mode:= .returning} cs (by simp) rfl hr;exact⟨.returned v,w'',_,h2,Comes.of_steps (Steps.trans harr (.one step_end)) hs,rfl,rfl,rfl,rfl,fn,hf,h1⟩
 |ret=>
  obtain⟨w'',hr,v,h1,h2⟩:=hq;obtain⟨todo,hs₀⟩:=harr;have hs:=qdS a'.defers w' w'' {b.at a' todo with mode:= .returning} cs (by simp) rfl hr;exact⟨.returned v,w'',_,h2,Comes.of_steps hs₀ hs,rfl,rfl,rfl,rfl,fn,hf,h1⟩
 |panic chain=>exact hq.elim
 |exit id=>exact hq.elim
 |goto l=>exact hq.elim
 |outgrown=>exact⟨.outgrown,w',b,hq,harr.resolve_left (by simp[b]),rfl,trivial⟩
def GD(P:Program)(wz:World)(fn:Func)(R:AVal->AHeap->Prop):Exit->PMap->Act->World->Prop:=fun e Ps a w=>
 e= .ret/\∃w',RunsB P a.defers w w'/\∃v,(results fn a.tmps).run P w'= .ok v w'/\∃χ x h',Ps.le χ/\HRel wz χ h' w'/\VR χ x v/\R x h'
def retD(P:Program)(wz:World)(rs:List ResultVar)(R:AVal->AHeap->Prop)(ts:Array TypeId)(m i:AVal):Exit->Slots->AHeap->Prop
 | .ret,s,h=>qci P h ts m i (fun _ h'=>qcB P wz rs R .ret s h')
 |_,_,_=>False
theorem acall_put{P:Program}{wz:World}{f:FuncId}{args:List AVal}{h:AHeap}{R:AVal->AHeap->Prop}{fn:Func}{c:Code}{rs:List ResultVar}{k:Nat}(hf:P.funcs[f]?=some fn)
 (hname:(fn.name== "runtime.NumGoroutine")=false) (hb:fn.body=some c) (hn:fn.ntmps=k) (hrs:fn.results=rs.toArray) (hargs:args.length<=k)
 (hc:Awp P wz ⟨k,[],GD P wz fn R⟩ c (qcB P wz rs R) (Qe 0 args) h):ACall P wz f args h R:=by
 intro fi vals w hr hv;refine .inl ⟨fn,hf,hname,by rw[hb];rfl,?_⟩;have hl:=XT hv;refine calls_of_wp_put hf hb (wp_mono (hc fi _ w hr ⟨?_,rfl,fun i=>?_⟩) fun e a' w' q=>?_)
 ·simp[hn]
  omega
 ·have:=(qct fi args vals 0 i hv).2 undef (Nat.zero_le i)
  by_cases hi:i<vals.length
  ·have e:(vals.toArray++Array.replicate (fn.ntmps-vals.toArray.size) undef).getD i undef=vals.getD i undef:=by
    simp[Array.getD_eq_getD_getElem?,Array.getElem?_append,hi,List.getD]
   rw[e];simpa using this
  ·have e:(vals.toArray++Array.replicate (fn.ntmps-vals.toArray.size) undef).getD i undef=undef:=by
    simp[Array.getD_eq_getD_getElem?,Array.getElem?_append,hi,Array.getElem?_replicate];split<;>simp
   rw[e];have e2:vals.getD (i-0) undef=undef:=by simp[List.getD,List.getElem?_eq_none (Nat.le_of_not_lt hi)]
   rw[e2]at this;exact this
 ·rcases q with q|⟨_,Ps,hl1,q⟩
  ·obtain⟨Ps,s',h',e1,e2,e3,e4⟩:=q
   cases e<;>simp only[qcB]at e4<;>first
    |exact e4.elim
    |skip
   all_goals
    obtain⟨hp,h'',hsub,hR⟩:=e4;have hrs':rs=fn.results.toList:=by rw[hrs]
    rw[hrs']at hp hR;obtain⟨v,f1,f2⟩:=qfu e2 e3 fn hp;exact⟨w',by rw[e3.defers];rfl,v,f1,v,rfl,Ps,_,h'',e1,e2.forget hsub,f2,hR⟩
  ·obtain⟨rfl,w1,g1,v,g2,χ,x,h',g3,g4,g5,g6⟩:=q
   exact⟨w1,g1,v,g2,v,rfl,χ,x,h',PMap.le_trans hl1 g3,g4,g5,g6⟩
theorem retD_del{P:Program}{wz:World}{rs:List ResultVar}{R:AVal->AHeap->Prop}{ts:Array TypeId}{t kt et:TypeId}{k c j:Nat}{vi x:AVal}{es:List AVal}{s:Slots}{h:AHeap}(h0:ts[0]?=some t)(ht:P.underlying t=some (.map kt et))(hb:h k=some (XH c es))(hok:qas P kt vi=true)
 (hf:qar vi es 0=some (some (j,x))) (hk:qcB P wz rs R .ret s (h.set k (XH c (es.eraseIdx j)))):retD P wz rs R ts (.map k) vi .ret s h:=by
 simp only[retD,qci,h0,ht,Uo hb,hf];exact⟨hok,hk⟩
end Go.AM
namespace Go.AM
open Go.RowKit (Below)
section
variable {P:Program} {wz:World} {n:FrameK}
def qeg(P:Program)(wz:World)(l:List Oper):List Oper->Nat->List Bool->Slots->AHeap->(Slots->AHeap->Prop)->Prop
 |[],_,_,s,h,K=>K s h
 |o::r,0,_,s,h,K=>QJ P wz l (o::r) s h K
 |o::r,m+1,true::bs,s,h,K=>∃V,(∀g,Sub h g->QJ P wz l [o] s g fun s' h'=>s'=putD s o.dst V/\h'=g)/\qeg P wz l r m bs (putD s o.dst V) h K
 |o::r,m+1,false::bs,s,h,K=>QJ P wz l [o] s h fun s' h'=>Sub h h'/\qeg P wz l r m bs s' h' K
 |o::r,m+1,[],s,h,K=>QJ P wz l [o] s h fun s' h'=>Sub h h'/\qeg P wz l r m [] s' h' K
theorem jOps_nil{l:List Oper}{m:Nat}{bs:List Bool}{s:Slots}{h:AHeap}{K:Slots->AHeap->Prop}:qeg P wz l [] m bs s h K=K s h:=rfl
theorem jOps_cons{l:List Oper}{m:Nat}{bs:List Bool}{o:Oper}{r:List Oper}{s:Slots}{h:AHeap}{K:Slots->AHeap->Prop}:qeg P wz l (o::r) (m+1) (false::bs) s h K=QJ P wz l [o] s h fun s' h'=>Sub h h'/\qeg P wz l r m bs s' h' K:=rfl
theorem jOps_zero{l:List Oper}{o:Oper}{bs:List Bool}{r:List Oper}{s:Slots}{h:AHeap}{K:Slots->AHeap->Prop}:qeg P wz l (o::r) 0 bs s h K=QJ P wz l (o::r) s h K:=rfl
theorem jOps_step{l:List Oper}{m:Nat}{bs:List Bool}(hb:bs.getD 0 false=false){o:Oper}{r:List Oper}{s:Slots}{h:AHeap}{K:Slots->AHeap->Prop}(hj:qeg P wz l (o::r) (m+1) bs s h K):QJ P wz l [o] s h fun s' h'=>Sub h h'/\qeg P wz l r m (bs.drop 1) s' h' K:=by
 cases bs with
 |nil=>exact hj
 |cons b bs=>
  simp only[List.getD_cons_zero]at hb;subst hb;exact hj
theorem jOps_take{l:List Oper}{m:Nat}{bs:List Bool}(hb:bs.getD 0 false=true){o:Oper}{r:List Oper}{s:Slots}{h:AHeap}{K:Slots->AHeap->Prop}(hj:qeg P wz l (o::r) (m+1) bs s h K):∃V,(∀g,Sub h g->QJ P wz l [o] s g fun s' h'=>s'=putD s o.dst V/\h'=g)/\qeg P wz l r m (bs.drop 1) (putD s o.dst V) h K:=by
 cases bs with
 |nil=>simp at hb
 |cons b bs=>
  simp only[List.getD_cons_zero]at hb;subst hb;exact hj
def FactC(P:Program)(wz:World)(n:FrameK)(l:List Oper)(g:AHeap)(S:Slots)(o:Oper)(V:AVal):Prop:=
 ∀(Ps:PMap) (w:World) (a:Act) (g':AHeap) (next:Act->World->Prop) (Q:Exit->Act->World->Prop),Sub g g'->HRel wz Ps g' w->LookOk Ps n l o S a->(∀ψ' v w',Ps.le ψ'->HRel wz ψ' g' w'->(∀t,o.dst=some t->VR ψ' V v)->next (a.put o.dst v) w')->
  if Region.wanted o (yielded l.toArray a.tmps)=true then o.wp P a w next Q else next (a.put o.dst undef) w
theorem FactR.toC{l:List Oper}{g:AHeap}{S:Slots}{o:Oper}{V:AVal}(h:FactR P wz n l g S o V):FactC P wz n l g S o V:=
 fun Ps w a g' next Q h1 h2 h3 h4=>h Ps w a g' next Q h1 h2 h3 fun v hv=>h4 Ps v w Ps.le_refl h2 fun _ _=>hv
theorem FactC.sub{l:List Oper}{g g':AHeap}{S:Slots}{o:Oper}{V:AVal}(h:FactC P wz n l g S o V)(hs:Sub g g'):FactC P wz n l g' S o V:=
 fun Ps w a g₂ next Q h1 h2 h3 h4=>h Ps w a g₂ next Q (Sub.trans hs h1) h2 h3 h4
theorem FactC.slots{l:List Oper}{g:AHeap}{S S':Slots}{o:Oper}{V:AVal}(h:FactC P wz n l g S o V)(hs:∀t∈QM l o,S'.get t=S.get t):FactC P wz n l g S' o V:=
 fun Ps w a g₂ next Q h1 h2 h3 h4=>h Ps w a g₂ next Q h1 h2 ⟨h3.1,h3.2.1,fun t ht=>by rw[<-hs t ht];exact h3.2.2 t ht⟩ h4
theorem fact_free{l:List Oper}(hall:Xm n l=true){o:Oper}{S:Slots}{g:AHeap}{V:AVal}(ha:∀g',Sub g g'->QJ P wz l [o] S g' fun s' h'=>s'=putD S o.dst V/\h'=g'):FactC P wz n l g S o V:=
 fun Ps w a g' next Q h1 h2 h3 h4=>one_ok hall (ha g' h1) h2 h3 fun ψ' x h' v w' e1 e2 e3 ⟨e4,e5⟩=>h4 ψ' v w' e1 (e5 ▸ e2) fun t ht=>by
  have:=congrArg (fun s:Slots=>s.get t) e4;simp only[ZF,ht,if_true]at this;rw[<-this];exact e3
def isJ(P:Program)(l:List Oper)(π:List Nat)(fl:List Bool)(m q:Nat):Bool:=decide (q<m) && (fl.getD q false||isF P l (π.getD q 0))
def floatJ(P:Program)(l:List Oper)(π:List Nat)(fl:List Bool)(ws:List (Option Nat))(m:Nat):Bool:=
 Uk l && (π.all fun i=>decide (i<l.length)) && ((List.range l.length).all fun i=>π.contains i) &&
 ((List.range π.length).all fun q=>(List.range π.length).all fun r=>decide (q=r)|| !(π.getD q 0==π.getD r 0)) &&
 ((List.range π.length).all fun q=>match ws.getD q none with
   |none=>(List.range q).all fun c=>isJ P l π fl m c
   |some r=>decide (r<q) && Region.waitsFor .any l.toArray (π.getD q 0) (π.getD r 0) && (List.range q).all fun c=>decide (c<=r)||isJ P l π fl m c) &&
 ((List.range π.length).all fun q=>match l[π.getD q 0]? with
   |none=>true
   |some o=>(List.range π.length).all fun r=>match l[π.getD r 0]? with
    |none=>true
    |some oj=>(match oj.dst with
     |none=>true
     |some t=> !(QM l o).contains t||(decide (q<r) && decide (m<=r))||(decide (r<q) && Region.waitsFor .any l.toArray (π.getD q 0) (π.getD r 0)))) &&
 decide (m<=π.length) && ((List.range π.length).all fun q=>decide (q<m)|| !isJ P l π fl m q) &&
 (decide (m=π.length)||(List.range m).all fun q=>(List.range (m+1)).any fun r=>decide (q<r) && Region.waitsFor .any l.toArray (π.getD r 0) (π.getD q 0))
structure FloatJ(P:Program)(l:List Oper)(π:List Nat)(fl:List Bool)(m:Nat):Prop where
 order:Uk l=true
 inr:∀q,q<π.length->π.getD q 0<l.length
 onto:∀i,i<l.length->∃q,q<π.length/\π.getD q 0=i
 inj:∀q r,q<π.length->r<π.length->π.getD q 0=π.getD r 0->q=r
 wait:∀q c,q<π.length->c<q->isJ P l π fl m c=false->∃r,c<=r/\r<q/\Region.waitsFor .any l.toArray (π.getD q 0) (π.getD r 0)=true
 data:∀q r o oj t,q<π.length->r<π.length->l[π.getD q 0]?=some o->l[π.getD r 0]?=some oj->oj.dst=some t->t∈QM l o->(q<r/\m<=r)\/(r<q/\Region.waitsFor .any l.toArray (π.getD q 0) (π.getD r 0)=true)
 mle:m<=π.length
 tail:∀q,m<=q->q<π.length->isJ P l π fl m q=false
 sink:m<π.length->∀q,q<m->∃r,q<r/\r<=m/\Region.waitsFor .any l.toArray (π.getD r 0) (π.getD q 0)=true
theorem floatJ_spec{l:List Oper}{π:List Nat}{fl:List Bool}{ws:List (Option Nat)}{m:Nat}(h:floatJ P l π fl ws m=true):FloatJ P l π fl m:=by
 unfold floatJ at h;simp only[Bool.and_eq_true]at h;obtain⟨⟨⟨⟨⟨⟨⟨⟨h1,h2⟩,h3⟩,h4⟩,h5⟩,h6⟩,h7⟩,h8⟩,h9⟩:=h;simp only[List.all_eq_true,List.mem_range]at h2 h3 h4 h5 h6 h8;refine⟨h1,fun q hq=>?_,fun i hi=>?_,fun q r hq hr e=>?_,fun q c hq hc hf=>?_,fun q r o oj t hq hr ho hoj hd ht=>?_,by simpa using h7,fun q hm hq=>?_,fun hm q hq=>?_⟩
 ·have:=h2 (π.getD q 0) (by rw[List.getD,List.getElem?_eq_getElem hq];exact List.getElem_mem hq)
  simpa using this
 ·have:=h3 i hi
  rw[List.contains_iff_mem]at this;obtain⟨q,hq,e⟩:=List.getElem_of_mem this;exact⟨q,hq,by rw[List.getD,List.getElem?_eq_getElem hq];exact e⟩
 ·have:=h4 q hq r hr
  rw[Bool.or_eq_true,decide_eq_true_eq]at this;rcases this with e'|e'
  ·exact e'
  ·rw[e]at e';simp at e'
 ·have:=h5 q hq
  split at this
  ·rw[List.all_eq_true]at this
   rw[this c (List.mem_range.2 hc)]at hf;cases hf
  ·rename_i r _
   simp only[Bool.and_eq_true,decide_eq_true_eq,List.all_eq_true,List.mem_range,Bool.or_eq_true]at this;obtain⟨⟨t1,t2⟩,t3⟩:=this;rcases t3 c hc with e|e
   ·exact⟨r,e,t1,t2⟩
   ·rw[e]at hf;cases hf
 ·have:=h6 q hq
  rw[ho]at this;simp only[List.all_eq_true,List.mem_range]at this;have:=this r hr;rw[hoj]at this;simp only[hd,Bool.or_eq_true,Bool.and_eq_true,decide_eq_true_eq,Bool.not_eq_true']at this;rcases this with(e|e)|e
  ·have hm:(QM l o).contains t=true:=by simpa using ht
   rw[hm]at e;cases e
  ·exact .inl e
  ·exact .inr e
 ·have:=h8 q hq
  simp only[Bool.or_eq_true,decide_eq_true_eq,Bool.not_eq_true']at this;rcases this with e|e
  ·omega
  ·exact e
 ·rw[Bool.or_eq_true,decide_eq_true_eq]at h9
  rcases h9 with e|e
  ·omega
  ·rw[List.all_eq_true]at e
   have:=e q (List.mem_range.2 hq);rw[List.any_eq_true]at this;obtain⟨r,hr,hw⟩:=this;rw[List.mem_range]at hr;simp only[Bool.and_eq_true,decide_eq_true_eq]at hw;exact⟨r,hw.1,by omega,hw.2⟩
theorem advanceJ{l:List Oper}(hall:Xm n l=true){π:List Nat}{fl:List Bool}{m:Nat}(F:FloatJ P l π fl m){K:Slots->AHeap->Prop}{g:AHeap}:∀(d p:Nat) (S:Slots),π.length-p=d->p<=π.length->qeg P wz l ((Yb l π).drop p) (m-p) (fl.drop p) S g K->
 ∃p' S',p<=p'/\p'<=π.length/\(p'<π.length->isJ P l π fl m p'=false)/\(∀q,p<=q->q<p'->isJ P l π fl m q=true)/\qeg P wz l ((Yb l π).drop p') (m-p') (fl.drop p') S' g K/\
  (∀q o,p<=q->q<p'->l[π.getD q 0]?=some o->∃V,(∀t,o.dst=some t->S'.get t=V)/\FactC P wz n l g S' o V)/\
  (∀t,(∀q o,p<=q->q<p'->l[π.getD q 0]?=some o->o.dst≠some t)->S'.get t=S.get t):=by
 intro d;induction d with
 |zero=>
  intro p S hd hp ha;exact⟨p,S,Nat.le_refl _,hp,fun h=>by omega,fun q h1 h2=>by omega,ha,fun q o h1 h2=>by omega,fun t _=>rfl⟩
 |succ d ih=>
  intro p S hd hp ha;have hpl:p<π.length:=by omega
  cases hf:isJ P l π fl m p with
  |false=>exact⟨p,S,Nat.le_refl _,hp,fun _=>hf,fun q h1 h2=>by omega,ha,fun q o h1 h2=>by omega,fun t _=>rfl⟩
  |true=>
   have hpm:p<m:=by
    refine Nat.lt_of_not_le fun h=>?_;rw[F.tail p h hpl]at hf;cases hf
   obtain⟨o,ho⟩:∃o,l[π.getD p 0]?=some o:=⟨_,List.getElem?_eq_getElem (F.inr p hpl)⟩
   rw[qaB F.inr hpl ho,show m-p=(m-(p+1))+1 by omega]at ha;have hfl:(fl.drop p).getD 0 false=fl.getD p false:=by simp[List.getD,List.getElem?_drop]
   have hfd:(fl.drop p).drop 1=fl.drop (p+1):=by rw[List.drop_drop]
   obtain⟨V,hv,hfact⟩:∃V,qeg P wz l ((Yb l π).drop (p+1)) (m-(p+1)) (fl.drop (p+1)) (putD S o.dst V) g K/\FactC P wz n l g S o V:=by
    cases hb:fl.getD p false with
    |true=>
     obtain⟨V,h1,h2⟩:=jOps_take (by rw[hfl,hb]) ha;rw[hfd]at h2;exact⟨V,h2,fact_free hall h1⟩
    |false=>
     have hk2:YE P o.op=2:=by
      unfold isJ isF at hf;rw[ho,hb]at hf;simp only[Bool.and_eq_true,Bool.false_or]at hf;simpa using hf.2
     have ha:=jOps_step (by rw[hfl,hb]) ha;rw[hfd]at ha;obtain⟨V,⟨_,hv⟩,hfact⟩:=fact_of hall hk2 ha;exact⟨V,hv,hfact.toC⟩
   obtain⟨p',S',a1,a2,a3,a4,a5,a6,a7⟩:=ih (p+1) (putD S o.dst V) (by omega) (by omega) hv;have notlook:∀q oq t,p<=q->q<p'->l[π.getD q 0]?=some oq->oq.dst=some t->t∉QM l o:=fun q oq t h1 h2 h3 h4 ht=>by
    rcases F.data p q o oq t hpl (by omega) ho h3 h4 ht with⟨c1,c2⟩|⟨c1,_⟩
    ·have:=a4 q (by omega) h2
     rw[F.tail q c2 (by omega)]at this;cases this
    ·omega
   have uniq:∀q oq t,p<q->q<π.length->l[π.getD q 0]?=some oq->oq.dst=some t->o.dst≠some t:=fun q oq t h1 h2 h3 h4 e=>by
    have:=((XN F.order ho).2 _ oq t h3 h4).1 e;have:=F.inj p q hpl h2 this;omega
   refine⟨p',S',by omega,a2,a3,fun q h1 h2=>?_,a5,fun q oq h1 h2 hq=>?_,fun t ht=>?_⟩
   ·rcases Nat.eq_or_lt_of_le h1 with e|e
    ·rw[<-e];exact hf
    ·exact a4 q e h2
   ·rcases Nat.eq_or_lt_of_le h1 with e|e
    ·subst e
     rw[ho]at hq;obtain rfl:=Option.some.inj hq;refine⟨V,fun t ht=>?_,hfact.slots fun t ht=>?_⟩
     ·rw[a7 t fun q oq h3 h4 h5 h6=>uniq q oq t h3 (by omega) h5 h6 ht,ZF,if_pos ht]
     ·rw[a7 t fun q oq h3 h4 h5 h6=>notlook q oq t (by omega) (by omega) h5 h6 ht,ZF,if_neg fun e=>notlook p o t (Nat.le_refl _) (by omega) ho e ht]
    ·exact a6 q oq e h2 hq
   ·rw[a7 t fun q oq h3 h4 h5=>ht q oq (by omega) h4 h5,ZF,if_neg (ht p o (Nat.le_refl _) (by omega) ho)]
def PhaseJ(P:Program)(wz:World)(n:FrameK)(l:List Oper)(π:List Nat)(fl:List Bool)(m:Nat)(K:Slots->AHeap->Prop)(listed:Array Bool)(Ps:PMap)(a:Act)(w:World):Prop:=
 listed.size=l.length/\(∀j oj,l[j]?=some oj->listed.getD j false=true->∀e∈oj.after,Region.binds .any e=true->listed.getD e.on false=true)/\a.tmps.size=n/\a.defers=n.dfr/\
 ∃p S g,p<=π.length/\(p<π.length->isJ P l π fl m p=false)/\(∀q,p<=q->q<π.length->listed.getD (π.getD q 0) false=false)/\(∀q,q<p->isJ P l π fl m q=false->listed.getD (π.getD q 0) false=true)/\
  (m<p->∀q,q<p->listed.getD (π.getD q 0) false=true)/\HRel wz Ps g w/\qeg P wz l ((Yb l π).drop p) (m-p) (fl.drop p) S g K/\
  (∀q o,q<p->l[π.getD q 0]?=some o->listed.getD (π.getD q 0) false=false->∃V,(∀t,o.dst=some t->S.get t=V)/\FactC P wz n l g S o V)/\
  ∀t,(∃q o,q<p/\l[π.getD q 0]?=some o/\o.dst=some t/\listed.getD (π.getD q 0) false=false)\/VR Ps (S.get t) (a.tmps.getD t undef)
theorem YB{l:List Oper}{listed:Array Bool}{i j:Nat}{o:Oper}(ho:l[i]?=some o)(hedges:∀e∈o.after,Region.binds .any e=true->listed.getD e.on false=true)(hw:Region.waitsFor .any l.toArray i j=true):listed.getD j false=true:=by
 obtain⟨oi,g1,e,g2,g3,g4⟩:=Region.waitsFor_spec hw;have g1':l[i]?=some oi:=by simpa using g1
 rw[ho]at g1';obtain rfl:=Option.some.inj g1';rw[<-g4];exact hedges e g2 g3
theorem any_okJ{l:List Oper}(hall:Xm n l=true){π:List Nat}{fl:List Bool}{m:Nat}(F:FloatJ P l π fl m){K:Slots->AHeap->Prop}{fi:PMap}{Q:Exit->Act->World->Prop}
 (hq:∀Ps S g a w,fi.le Ps->HRel wz Ps g w->SRel Ps n S a->K S g->Q .normal a w):∀(fuel:Nat) (listed:Array Bool) (a:Act) (w:World) (Ps:PMap),fi.le Ps->PhaseJ P wz n l π fl m K listed Ps a w->
 (listed.toList.filter (!·)).length<=fuel->wpAny P .any l.toArray Q fuel listed a w:=by
 have hB:=F.order;have fin:∀(listed:Array Bool) (a:Act) (w:World) (Ps:PMap),fi.le Ps->PhaseJ P wz n l π fl m K listed Ps a w->Region.ready .any l.toArray listed=[]->Q .normal a w:=by
  rintro listed a w Ps hle ⟨i1,i2,i3,i4,p,S,g,p1,p2,p3,p4,p5,p6,p7,p8,p9⟩ hrd;have hal:=qbW hB i1 hrd;have hp:p=π.length:=by
   rcases Nat.eq_or_lt_of_le p1 with e|e
   ·exact e
   ·have:=p3 p (Nat.le_refl _) e
    rw[hal _ (F.inr p e)]at this;cases this
  subst hp;rw[show(Yb l π).drop π.length=[] by rw[<-qbh F.inr];simp,jOps_nil]at p7;refine hq Ps S g a w hle p6 ⟨i3,i4,fun t=>?_⟩ p7;rcases p9 t with⟨q,o,c1,c2,c3,c4⟩|c
  ·rw[hal _ (F.inr q c1)]at c4;cases c4
  ·exact c
 intro fuel;induction fuel with
 |zero=>
  intro listed a w Ps hle inv hc;have hrd:Region.ready .any l.toArray listed=[]:=by
   cases hrd:Region.ready .any l.toArray listed with
   |nil=>rfl
   |cons i r=>
    exfalso;have hm:i∈Region.ready .any l.toArray listed:=by rw[hrd];exact List.mem_cons_self
    obtain⟨h1,o,ho,_⟩:=mem_ready.1 hm;have hi:i<listed.size:=by
     have:l[i]?=some o:=by simpa using ho
     rw[inv.1];exact(List.getElem?_eq_some_iff.1 this).1
    have h2:listed.toList[i]?=some false:=by
     simp[Array.getD,hi]at h1;simp[hi,h1]
    have:=List.mem_of_getElem? h2;have hmem:false∈listed.toList.filter (!·):=by simp[List.mem_filter,this]
    have:=List.length_pos_of_mem hmem;omega
  exact⟨hrd,fin listed a w Ps hle inv hrd⟩
 |succ fuel ih=>
  intro listed a w Ps hle inv hc;refine⟨fun hrd=>fin listed a w Ps hle inv hrd,fun i hi=>?_⟩;obtain⟨i1,i2,i3,i4,p,S,g,p1,p2,p3,p4,p5,p6,p7,p8,p9⟩:=inv;obtain⟨h1,o,ho,hedges⟩:=mem_ready.1 hi;have hol:l[i]?=some o:=by simpa using ho
  have hilt:i<l.length:=(List.getElem?_eq_some_iff.1 hol).1;have hisz:i<listed.size:=by rw[i1];exact hilt
  have hif:listed.getD i false=false:=by simp[Array.getD,hisz]at h1|-;exact h1
  have hcount:((listed.setIfInBounds i true).toList.filter (!·)).length<=fuel:=by
   have h2:listed.toList[i]?=some false:=by
    simp[Array.getD,hisz]at h1;simp[hisz,h1]
   have:=qby listed.toList i h2;have e:(listed.setIfInBounds i true).toList=listed.toList.set i true:=by simp
   rw[e];omega
  have hdn:∀d,o.dst=some d->d<n:=fun d hd=>qcr l i d hall (by rw[Yk,hol];exact hd);obtain⟨q,hql,hqi⟩:=F.onto i hilt;have hoq:l[π.getD q 0]?=some o:=by rw[hqi];exact hol
  have looks:LookOk Ps n l o S a:=⟨i3,i4,fun t ht=>by
   rcases p9 t with⟨r,oj,c1,c2,c3,c4⟩|c
   ·exfalso
    rcases F.data q r o oj t hql (by omega) hoq c2 c3 ht with⟨d1,d2⟩|⟨_,this⟩
    ·rw[p5 (by omega) r c1]at c4
     cases c4
    ·rw[hqi]at this
     rw[YB hol hedges this]at c4;cases c4
   ·exact c⟩
  have closed':∀j oj,l[j]?=some oj->(listed.setIfInBounds i true).getD j false=true->∀e∈oj.after,Region.binds .any e=true->(listed.setIfInBounds i true).getD e.on false=true:=fun j oj hj hl e he hb=>by
   by_cases e1:e.on=i
   ·rw[e1];exact set_self hisz
   ·rw[XI e1]
    by_cases e2:j=i
    ·subst e2
     rw[hol]at hj;obtain rfl:=Option.some.inj hj;exact hedges e he hb
    ·rw[XI e2]at hl
     exact i2 j oj hj hl e he hb
  have other:∀r,r<π.length->r≠q->(listed.setIfInBounds i true).getD (π.getD r 0) false=listed.getD (π.getD r 0) false:=fun r hr hne=>XI fun e=>hne (F.inj r q hr hql (by rw[e,hqi]));have nobehind:p<q->False:=fun hpq=>by
   obtain⟨r,r1,r2,r3⟩:=F.wait q p hql hpq (p2 (by omega));rw[hqi]at r3;have:=YB hol hedges r3;rw[p3 r r1 (by omega)]at this;cases this
  have goal:(if Region.wanted o (yielded l.toArray a.tmps)=true then o.wp P a w (wpAny P .any l.toArray Q fuel (listed.setIfInBounds i true)) Q else wpAny P .any l.toArray Q fuel (listed.setIfInBounds i true) (a.put o.dst undef) w):=by
   rcases Nat.lt_or_ge q p with hqp|hqp
   ·
    obtain⟨V,v1,v2⟩:=p8 q o hqp hoq (by rw[hqi];exact hif);refine v2 Ps w a g _ Q (Sub.refl g) p6 looks fun ψ₂ v wx hle₂ hr₂ hv=>?_;refine ih _ _ _ ψ₂ (PMap.le_trans hle hle₂) ⟨by simp[i1],closed',by rw[qbH];exact i3,by rw[put_defers];exact i4,p,S,g,p1,p2,fun r r1 r2=>?_,fun r r1 r2=>?_,fun hm r r1=>?_,hr₂,p7,fun r oj r1 r2 r3=>?_,fun t=>?_⟩ hcount
    ·rw[other r r2 (by omega)];exact p3 r r1 r2
    ·by_cases e:r=q
     ·rw[e,hqi];exact set_self hisz
     ·rw[other r (by omega) e];exact p4 r r1 r2
    ·by_cases e:r=q
     ·rw[e,hqi];exact set_self hisz
     ·rw[other r (by omega) e];exact p5 hm r r1
    ·by_cases e:r=q
     ·rw[e,hqi,set_self hisz]at r3;cases r3
     ·rw[other r (by omega) e]at r3
      exact p8 r oj r1 r2 r3
    ·by_cases hod:o.dst=some t
     ·right
      rw[v1 t hod,WM a hod (by rw[i3];exact hdn t hod)];exact hv t hod
     ·rcases p9 t with⟨r,oj,c1,c2,c3,c4⟩|c
      ·refine .inl ⟨r,oj,c1,c2,c3,?_⟩
       rw[other r (by omega) fun e=>by subst e;rw[hoq]at c2;obtain rfl:=Option.some.inj c2;exact hod c3];exact c4
      ·right
       rw[Wi a hod];exact We hle₂ _ _ c
   ·have hqe:q=p:=by
     rcases Nat.eq_or_lt_of_le hqp with e|e
     ·exact e.symm
     ·exact(nobehind e).elim
    subst hqe;have all_m:m<=q->∀r,r<q->listed.getD (π.getD r 0) false=true:=fun hm r hr=>by
     rcases Nat.eq_or_lt_of_le hm with e|e
     ·subst e
      have key:∀d r,r+d=m->r<m->listed.getD (π.getD r 0) false=true:=by
       intro d;induction d using Nat.strongRecOn with
       |ind d ihd=>
        intro r hd hr;obtain⟨r',s1,s2,s3⟩:=F.sink hql r hr;rcases Nat.eq_or_lt_of_le s2 with e|e
        ·subst e
         rw[hqi]at s3;exact YB hol hedges s3
        ·have hl:=ihd (m-r') (by omega) r' (by omega) e
         obtain⟨oj,hoj⟩:∃oj,l[π.getD r' 0]?=some oj:=⟨_,List.getElem?_eq_getElem (F.inr r' (by omega))⟩
         exact YB hoj (i2 _ oj hoj hl) s3
      exact key (m-r) r (by omega) hr
     ·exact p5 e r hr
    obtain⟨K',ha,hnext⟩:∃K':Slots->AHeap->Prop,QJ P wz l [o] S g K'/\∀s' h',K' s' h'->(q<m->Sub g h')/\qeg P wz l ((Yb l π).drop (q+1)) (m-(q+1)) (fl.drop (q+1)) s' h' K:=by
     rw[qaB F.inr hql hoq]at p7;have hfl:(fl.drop q).getD 0 false=fl.getD q false:=by simp[List.getD,List.getElem?_drop]
     have hfd:(fl.drop q).drop 1=fl.drop (q+1):=by rw[List.drop_drop]
     have hfb:q<m->fl.getD q false=false:=fun c=>by
      have:=p2 hql;unfold isJ at this;rw[decide_eq_true c,Bool.true_and,Bool.or_eq_false_iff]at this;exact this.1
     by_cases c:q<m
     ·rw[show m-q=(m-(q+1))+1 by omega]at p7
      have p7:=jOps_step (by rw[hfl,hfb c]) p7;rw[hfd]at p7;exact⟨_,p7,fun s' h' hx=>⟨fun _=>hx.1,hx.2⟩⟩
     ·rw[show m-q=0 by omega,jOps_zero]at p7
      refine⟨_,aOps_one p7,fun s' h' hx=>⟨fun hc=>absurd hc c,?_⟩⟩;rw[show m-(q+1)=0 by omega];cases hdr:(Yb l π).drop (q+1)with
      |nil=>rw[hdr]at hx;rw[jOps_nil];exact hx
      |cons o' r'=>rw[hdr]at hx;exact hx
    refine one_ok hall ha p6 looks fun ψ' x h' v w' e1 e2 e3 hk=>?_;obtain⟨k1,k2⟩:=hnext _ _ hk;obtain⟨p',S',a1,a2,a3,a4,a5,a6,a7⟩:=advanceJ hall F (π.length-(q+1)) (q+1) (putD S o.dst x) rfl (by omega) k2;have keep:∀r or t,r<q->l[π.getD r 0]?=some or->listed.getD (π.getD r 0) false=false->(or.dst=some t\/t∈QM l or)->S'.get t=S.get t:=fun r or t hr hor hun ht=>by
     have nd:∀u ou,q<=u->u<max p' (q+1)->u<π.length->l[π.getD u 0]?=some ou->ou.dst≠some t:=fun u ou h1 hup h2 h3 h4=>by
      rcases ht with ht|ht
      ·have:=((XN hB hor).2 _ ou t h3 h4).1 ht
       have:=F.inj r u (by omega) h2 this;omega
      ·rcases F.data r u or ou t (by omega) h2 hor h3 h4 ht with⟨c1,c2⟩|⟨c1,_⟩
       ·rcases Nat.eq_or_lt_of_le h1 with e|e
        ·subst e
         rw[all_m c2 r hr]at hun;cases hun
        ·have:=a4 u e (by omega)
         rw[F.tail u c2 h2]at this;cases this
       ·omega
     rw[a7 t fun u ou h1 h2 h3=>nd u ou (by omega) (by omega) (by omega) h3,ZF,if_neg (nd q o (Nat.le_refl _) (by omega) hql hoq)]
    refine ih _ _ _ ψ' (PMap.le_trans hle e1) ⟨by simp[i1],closed',by rw[qbH];exact i3,by rw[put_defers];exact i4,p',S',h',a2,a3,fun r r1 r2=>?_,fun r r1 r2=>?_,fun hm r r1=>?_,e2,a5,fun r oj r1 r2 r3=>?_,fun t=>?_⟩ hcount
    ·rw[other r r2 (by omega)];exact p3 r (by omega) r2
    ·by_cases e:r=q
     ·rw[e,hqi];exact set_self hisz
     ·rw[other r (by omega) e]
      rcases Nat.lt_or_ge r q with c|c
      ·exact p4 r c r2
      ·rw[a4 r (by omega) r1]at r2;cases r2
    ·have hmq:m<=q:=by
      refine Nat.le_of_not_lt fun hc=>?_;have hmp:m<π.length:=by omega
      have:=a4 m (by omega) hm;rw[F.tail m (Nat.le_refl _) hmp]at this;cases this
     by_cases e:r=q
     ·rw[e,hqi];exact set_self hisz
     ·rw[other r (by omega) e]
      rcases Nat.lt_or_ge r q with c|c
      ·exact all_m hmq r c
      ·have:=a4 r (by omega) r1
       rw[F.tail r (by omega) (by omega)]at this;cases this
    ·by_cases e:r=q
     ·rw[e,hqi,set_self hisz]at r3;cases r3
     ·rw[other r (by omega) e]at r3
      rcases Nat.lt_or_ge r q with c|c
      ·obtain⟨V,v1,v2⟩:=p8 r oj c r2 r3
       have hqm:q<m:=by
        refine Nat.lt_of_not_le fun hm=>?_;rw[all_m hm r c]at r3;cases r3
       exact⟨V,fun t ht=>(keep r oj t c r2 r3 (.inl ht)).trans (v1 t ht),(v2.sub (k1 hqm)).slots fun t ht=>keep r oj t c r2 r3 (.inr ht)⟩
      ·exact a6 r oj (by omega) r1 r2
    ·by_cases hod:o.dst=some t
     ·right
      rw[a7 t fun u ou h1 h2 h3 h4=>by
       have:=((XN hB hoq).2 _ ou t h3 h4).1 hod;have:=F.inj q u hql (by omega) this;omega,ZF,if_pos hod,WM a hod (by rw[i3];exact hdn t hod)]
      exact e3
     ·by_cases hw:∃r or,q+1<=r/\r<p'/\l[π.getD r 0]?=some or/\or.dst=some t
      ·obtain⟨r,or,w1,w2,w3,w4⟩:=hw
       exact .inl ⟨r,or,w2,w3,w4,by rw[other r (by omega) (by omega)];exact p3 r (by omega) (by omega)⟩
      ·have hS:S'.get t=S.get t:=by
        rw[a7 t fun u ou h1 h2 h3 h4=>hw ⟨u,ou,h1,h2,h3,h4⟩,ZF,if_neg hod]
       rcases p9 t with⟨r,oj,c1,c2,c3,c4⟩|c
       ·exact .inl ⟨r,oj,by omega,c2,c3,by rw[other r (by omega) (by omega)];exact c4⟩
       ·right
        rw[hS,Wi a hod];exact We e1 _ _ c
  simp only[wpOp,ho];split
  ·rename_i hw
   rw[if_pos hw]at goal;exact .inl goal
  ·rename_i hw
   rw[if_neg hw]at goal;exact goal
theorem awp_draw_J{Q:Exit->Slots->AHeap->Prop}{s:Slots}{h:AHeap}{id:Nat}{l:List Oper}(π:List Nat)(fl:List Bool)(ws:List (Option Nat))(m:Nat)(hm:P.follows .mixedOrders=true)(hB:floatJ P l π fl ws m=true)(hd:Xm n l=true)
 (hc:qeg P wz l (Yb l π) m fl s h fun s' h'=>Q .normal s' h'):Awp P wz n (.region id l.toArray true) Q s h:=by
 refine Awp.of0 ?_;intro fi a w hr hs;have F:=floatJ_spec hB;refine wp_region_any hm ?_;have hf:∀j,(Array.replicate l.toArray.size false).getD j false=false:=fun j=>by simp[Array.getD]
 obtain⟨p',S',a1,a2,a3,a4,a5,a6,a7⟩:=advanceJ hd F π.length 0 s rfl (Nat.zero_le _) (by rw[Nat.sub_zero,List.drop_zero];exact hc);refine any_okJ (fi:=fi) hd F (K:=fun s' h'=>Q .normal s' h') (fun Ps S g a' w' hle h1 h2 h3=>⟨Ps,S,g,hle,h1,h2,h3⟩) _ _ _ _ fi fi.le_refl
  ⟨by simp,fun j oj _ hl=>(by rw[hf]at hl;cases hl),hs.size,hs.defers,p',S',h,a2,a3,fun r _ _=>hf _,fun r r1 r2=>?_,fun hm' r r1=>?_,hr.drew,a5,fun r oj r1 r2 _=>a6 r oj (Nat.zero_le _) r1 r2,fun t=>?_⟩ ?_
 ·rw[a4 r (Nat.zero_le _) r1]at r2;cases r2
 ·have:=a4 m (Nat.zero_le _) hm'
  rw[F.tail m (Nat.le_refl _) (by omega)]at this;cases this
 ·by_cases hw:∃r or,r<p'/\l[π.getD r 0]?=some or/\or.dst=some t
  ·obtain⟨r,or,w2,w3,w4⟩:=hw
   exact .inl ⟨r,or,w2,w3,w4,hf _⟩
  ·right
   rw[a7 t fun u ou _ h2 h3 h4=>hw ⟨u,ou,h2,h3,h4⟩];exact hs.val t
 ·have:=List.length_filter_le (!·) (Array.replicate l.toArray.size false).toList
  simpa using this
end
end Go.AM
namespace Go.AM
section
variable {P:Program} {wz:World} {ops rest:List Oper} {s:Slots} {h:AHeap} {K:Slots->AHeap->Prop} {dst:Option Tmp} {ty:TypeId} {pos:String} {af:Array Edge}
theorem vOps_gno{fo:Operand}{args:List Operand}{ts:Array TypeId}{j:Nat}{want:Bool}(hg:gv s ops j= .bool (!want))(hr:Yf P wz ops rest (putD s dst (.tuple [])) h K):
 Yf P wz ops (⟨dst, .call ⟨.value fo,args.toArray,ts⟩,ty,pos,af,some (j,want)⟩::rest) s h K:=by
 refine qcV (V:= .dead) (f:=0) (cap:=[]) (xs:=[]) (by rw[hg];rfl) (fun e=>?_) (fun e=>?_) ?_
 ·rw[hg]at e;cases want<;>cases e
 ·rw[hg]at e;cases want<;>cases e
 ·rw[hg];cases want<;>exact hr
theorem fOps_gno{hZ:AHeap}{fo:Operand}{args:List Operand}{ts:Array TypeId}{j:Nat}{want:Bool}(hg:gv s ops j= .bool (!want))(hr:ZL P wz ops hZ rest (putD s dst (.tuple [])) h K):
 ZL P wz ops hZ (⟨dst, .call ⟨.value fo,args.toArray,ts⟩,ty,pos,af,some (j,want)⟩::rest) s h K:=by
 refine qfG (V:= .bool true) (f:=0) (cap:=[]) (xs:=[]) (by rw[hg];rfl) (fun e=>?_) trivial (fun e=>?_) ?_
 ·rw[hg]at e;cases want<;>cases e
 ·rw[hg]at e;cases want<;>cases e
 ·rw[hg];cases want<;>exact hr
theorem aOps_gbuild{t:TypeId}{n:Nat}{ps:List (Nat×Operand)}{cs:List AVal}{j:Nat}{want:Bool}{g:AVal}(hg:gv s ops j=g)(hkn:Wn g=true)(hb:Xe g want=true->qaa P t n (evP s ps)=some cs)
 (hk:∀k H,Sub h H->(Xe g want=true->H k=some ⟨cs,0⟩)->QJ P wz ops rest (putD s dst (Qt (Xe g want) (.slice (.own k) 0 n (.exact n)))) H K):
 QJ P wz ops (⟨dst, .buildSlice t n ps.toArray,ty,pos,af,some (j,want)⟩::rest) s h K:=by
 subst hg;have h0:qL ops j=none->False:=fun hj=>by unfold gv at hkn;rw[hj]at hkn;cases hkn
 cases hj:qL ops j with
 |none=>exact(h0 hj).elim
 |some d=>
  have e:gv s ops j=s.get d:=by unfold gv;rw[hj]
  rw[e]at hkn hb hk;refine aOps_ge hj rfl hkn (fun q=>?_) (fun q=>?_)
  ·refine Qm (hb q) fun k hk'=>?_
   have:=hk k (h.set k ⟨cs,0⟩) (Sub.set hk') (fun _=>AHeap.set_same _ _ _);rw[q,Qt]at this;exact this
  ·have:=hk 0 h (Sub.refl _) (fun z=>by rw[q]at z;cases z)
   rw[q,Qt]at this;exact this
end
theorem awp_put_deleteD{P:Program}{wz:World}{k id:Nat}{l pre:List Oper}{m i:Operand}{ts:Array TypeId}{ty:TypeId}{pos:String}{af:Array Edge}{rest:Code}{s:Slots}{h:AHeap}{fn:Func}{rs:List ResultVar}{R:AVal->AHeap->Prop}{Q:Exit->Slots->AHeap->Prop}{vm vi:AVal}(L:List Nat)
 (hl:l=pre++[⟨none, .defer ⟨.builtin .delete,[m,i].toArray,ts⟩,ty,pos,af,none⟩]) (hd:Xm k l=true) (hrs:fn.results=rs.toArray) (hmx:P.follows .mixedOrders=true) (hB:Region.lexTailB .any l.toArray pre.length=true) (hp:(pre.all fun o=>Zg P o.op)=true)
 (hc:∀K:Slots->AHeap->Prop,(∀s h,(∀d,Awp P wz ⟨k,[d],fun _ _ _ _=>False⟩ rest (retD P wz rs R ts vm vi) s h)->K s h)->QJ P wz l pre s h (fun s' h'=>ev s' m=vm/\ev s' i=vi/\K (s'.keep L) h')):
 Awp P wz ⟨k,[],GD P wz fn R⟩ (.seq (.region id l.toArray true) rest) Q s h:=by
 have hdp:Xm k pre=true:=by
  have:∀(p q:List Oper),Xm k (p++q)=true->Xm k p=true:=by
   intro p q hp;induction p with
   |nil=>rfl
   |cons o p ih=>
    simp only[List.cons_append,Xm,Bool.and_eq_true]at hp|-
    exact⟨hp.1,ih hp.2⟩
  exact this pre _ (hl ▸ hd)
 have hc':=hc (fun s h=>∀d,Awp P wz ⟨k,[d],fun _ _ _ _=>False⟩ rest (retD P wz rs R ts vm vi) s h) (fun _ _ hk=>hk);have htake:l.take pre.length=pre:=by rw[hl];simp
 have hdrop:l.drop pre.length=[⟨none, .defer ⟨.builtin .delete,[m,i].toArray,ts⟩,ty,pos,af,none⟩]:=by rw[hl];simp
 intro fi a w hr hs;refine wp_seq (wp_region_still_tail (w:=w) pre.length hmx hB ?_);rw[htake,hdrop];refine still_ok (w:=w.drew) (n:=⟨k,[],GD P wz fn R⟩) l hd hr.drew _ _ pre [] s a hp hdp (by simpa using hc') hs fun s' a' hs' hk=>?_;obtain⟨em,ei,hk⟩:=hk;simp only[wpList];rw[if_pos (by simp[Region.wanted])];have hvm:=hs'.ev m;have hvi:=hs'.ev i;rw[em]at hvm;rw[ei]at hvi;generalize hdd:({target:= .builtin .delete ts ty (([m,i].toArray).map fun| .const _=>true|_=>false),args:=([m,i].toArray).map a'.eval}:Deferred)=d;have hx:(execOp a'.eval ⟨none, .defer ⟨.builtin .delete,[m,i].toArray,ts⟩,ty,pos,af,none⟩).run P w.drew= .ok (.defer d) w.drew:=by
  subst hdd;simp[execOp,resolve];exact⟨by cases m<;>rfl,by cases i<;>rfl⟩
 refine .inl ?_;show Oper.wp P _ a' w.drew _ _
 simp only[Oper.wp,hx,Oper.upon_defer,Act.put,Exit.then];refine wp_mono (Awp.keep L (hk d) fi _ w.drew hr.drew ⟨hs'.size,by rw[hs'.defers],hs'.val⟩) fun e a'' w'' q=>?_;rcases q with⟨χ,s'',h'',e1,e2,e3,e4⟩|⟨_,χ,_,q⟩
 ·cases e<;>simp only[retD]at e4<;>first
   |exact e4.elim
   |skip
  obtain⟨w3,h3,f1,f2,f3⟩:=delete_ok (ty:=ty) e4 e2 (We e1 _ _ hvm) (We e1 _ _ hvi);obtain⟨hp,h4,hsub,hR⟩:=f3;have hrs':rs=fn.results.toList:=by rw[hrs]
  rw[hrs']at hp hR;obtain⟨v,g1,g2⟩:=qfu f2 e3 fn hp;refine .inr ⟨trivial,χ,e1,rfl,w3,?_,v,g1,χ,_,h4,χ.le_refl,f2.forget hsub,g2,hR⟩;rw[e3.defers];subst hdd;exact⟨.delete,ts,ty,_,undef,w3,rfl,by simpa[invoke,builtin]using Zj f1,rfl⟩
 ·exact q.elim
theorem awp_put_deleteE{P:Program}{wz:World}{k id:Nat}{l:List Oper}{m i:Operand}{ts:Array TypeId}{ty:TypeId}{pos:String}{af:Array Edge}{rest:Code}{s:Slots}{h:AHeap}{fn:Func}{rs:List ResultVar}{R:AVal->AHeap->Prop}{Q:Exit->Slots->AHeap->Prop}{vm vi:AVal}(L:List Nat)(m0:Nat)
 (hl:l.drop m0=[⟨none, .defer ⟨.builtin .delete,[m,i].toArray,ts⟩,ty,pos,af,none⟩]) (hd:Xm k l=true) (hrs:fn.results=rs.toArray) (hmx:P.follows .mixedOrders=true) (hB:Region.lexTailB .any l.toArray m0=true) (hp:((l.take m0).all fun o=>Zg P o.op)=true)
 (hc:∀K:Slots->AHeap->Prop,(∀s h,(∀d,Awp P wz ⟨k,[d],fun _ _ _ _=>False⟩ rest (retD P wz rs R ts vm vi) s h)->K s h)->QJ P wz l (l.take m0) s h (fun s' h'=>ev s' m=vm/\ev s' i=vi/\K (s'.keep L) h')):
 Awp P wz ⟨k,[],GD P wz fn R⟩ (.seq (.region id l.toArray true) rest) Q s h:=by
 have hlen:(l.take m0).length=m0:=by
  have:=congrArg List.length hl;rw[List.length_drop,List.length_singleton]at this;rw[List.length_take];omega
 exact awp_put_deleteD L (pre:=l.take m0) (by rw[<-hl,List.take_append_drop]) hd hrs hmx (by rw[hlen];exact hB) hp hc
theorem WI{P:Program}{wz:World}{ops rest:List Oper}{s:Slots}{h hZ:AHeap}{K:Slots->AHeap->Prop}{dst:Option Tmp}{ty:TypeId}{pos:String}{af:Array Edge}{t:TypeId}{n:Nat}{ps:List (Nat×Operand)}{cs:List AVal}(hb:qaa P t n (evP s ps)=some cs)
 (hk:∀k,h k=none->ZL P wz ops hZ rest (putD s dst (.slice (.own k) 0 n (.exact n))) (h.set k ⟨cs,0⟩) K):ZL P wz ops hZ (⟨dst, .buildSlice t n ps.toArray,ty,pos,af,none⟩::rest) s h K:=by
 refine qcK rfl ?_;refine Qm hb fun k hk0=>?_;rw[qa];exact hk k hk0
end Go.AM
namespace Go.Cop
open Go.Col (Str FaultC okF)
open Go.Tok
set_option maxRecDepth 100000
def noT:TokC:=⟨0,[],0,0,false⟩
def alike:List TokC->List TokC->Bool
 |[],[]=>true
 |a::l,b::m=>(decide (a.kind=b.kind) && decide (a.text=b.text)) && alike l m
 |_,_=>false
def COPY:Str:=[67,79,80,89]
def BY:Str:=[66,89]
def Yd:Str:=[82,69,80,76,65,67,73,78,71]
structure RepC where
 old:List TokC
 new:List TokC
structure MemC where
 name:Str
 toks:List TokC
def Ws(l old:List TokC):Bool:=decide (old.length<=l.length) && alike old (l.take old.length)
def repGo(r:List RepC):Nat->List TokC->List TokC
 |0,_=>[]
 |_+1,[]=>[]
 |f+1,t::l=>match r.find? (fun x=>Ws (t::l) x.old)with
  |none=>t::repGo r f l
  |some x=>x.new++repGo r f ((t::l).drop x.old.length)
def qbG(r:List RepC)(l:List TokC):List TokC:=repGo r l.length l
def qcC(l:List TokC)(r:List RepC):List TokC×Int:=
 if r.any (fun x=>decide (x.old=[]))=true then([],1)
 else if 65536<(qbG r l).length then([],3)else(qbG r l,0)
def XB(l:List TokC)(i:Nat)(ks:List UInt8):Bool:=decide (i<l.length) && ks.contains (l.getD i noT).kind
def XL(l:List TokC)(i:Nat)(s:Str):Bool:=XB l i [1] && decide ((l.getD i noT).text=s)
structure Opd where
 ok:Bool
 lo:Nat
 hi:Nat
 at_:Nat
def ZE(l:List TokC)(i:Nat):Nat:=i+((l.drop i).takeWhile (fun t=> !decide (t.kind=7))).length
def Xd(l:List TokC)(i:Nat)(empty:Bool):Opd:=
 if XB l i [1,2,3]=true then⟨true,i,i+1,i+1⟩
 else if XB l i [7]=false then⟨false,0,0,i⟩
 else if ZE l (i+1)=l.length\/(empty=false/\ZE l (i+1)=i+1)then⟨false,0,0,ZE l (i+1)⟩
 else⟨true,i+1,ZE l (i+1),ZE l (i+1)+1⟩
def qbn(l:List TokC)(i j:Nat):List TokC:=(l.drop i).take (j-i)
structure Pair where
 ok:Bool
 rep:RepC
 at_:Nat
def YT(l:List TokC)(i:Nat):Pair:=
 let a:=Xd l i false
 if a.ok=false then⟨false,⟨[],[]⟩,a.at_⟩
 else if XL l a.at_ BY=false then⟨false,⟨[],[]⟩,a.at_⟩
 else
  let b:=Xd l (a.at_+1) true
  ⟨b.ok,⟨qbn l a.lo a.hi,qbn l b.lo b.hi⟩,b.at_⟩
structure Pairs where
 ok:Bool
 reps:List RepC
 at_:Nat
def YS(l:List TokC):Nat->Nat->Bool->List RepC->Pairs
 |0,i,_,acc=>⟨true,acc,i⟩
 |f+1,i,first,acc=>
  if first=true\/(i<l.length/\XB l i [6]=false)then
   (let p:=YT l i
   if p.ok=false then⟨false,[],p.at_⟩else YS l f p.at_ false (acc++[p.rep]))
  else⟨true,acc,i⟩
structure Stm where
 ok:Bool
 name:TokC
 reps:List RepC
 at_:Nat
def noStm(i:Nat):Stm:=⟨false,noT,[],i⟩
def UF(l:List TokC)(name:TokC)(p:Pairs):Stm:=
 if p.ok=false then noStm p.at_
 else if XB l p.at_ [6]=false then noStm p.at_
 else⟨true,name,p.reps,p.at_+1⟩
def Xi(l:List TokC)(i:Nat):Stm:=
 if XB l i [1,3]=false then noStm i
 else UF l (l.getD i noT) (if XL l (i+1) Yd=true then YS l (l.length+2) (i+2) true []else⟨true,[],i+1⟩)
def XE(l:List TokC)(i:Nat):Nat:=i+((l.drop i).takeWhile (fun t=> !(decide (t.kind=1) && decide (t.text=COPY)))).length
def qdo(l:List TokC)(copies at_:Nat):FaultC:=
 if at_<l.length then⟨4,(l.getD at_ noT).line,(l.getD at_ noT).col⟩else⟨4,(l.getD copies noT).line,(l.getD copies noT).col⟩
def addE(names:List Str)(s:Str):List Str:=if names.contains s=true then names else names++[s]
structure Xs where
 names:List Str
 copies:Nat
inductive Xr where
 |bad (f:FaultC)
 |ok (out:List TokC) (st:Xs)
def qcY(lim:Bool)(l:List TokC):Bool:=lim && decide (65536<l.length)
def qai(lim:Bool)(mem:List MemC)(op:List Str)(rec:List TokC->List Str->Xs->Xr)(s:Stm)(st:Xs):Xr:=
 match mem.find? (fun m=>decide (m.name=s.name.text))with
 |none=> .bad ⟨7,s.name.line,s.name.col⟩
 |some m=>
  if op.contains s.name.text=true then .bad ⟨10,s.name.line,s.name.col⟩
  else if 8<=op.length\/(lim=true/\4096<st.copies+1)then .bad ⟨3,s.name.line,s.name.col⟩
  else match rec m.toks (op++[s.name.text]) ⟨addE st.names s.name.text,st.copies+1⟩with
   | .bad f=> .bad f
   | .ok l st'=>if qcY lim l=true then .bad ⟨3,s.name.line,s.name.col⟩else if qcY lim (qbG s.reps l)=true then .bad ⟨3,s.name.line,s.name.col⟩else .ok (qbG s.reps l) st'
def qaj(lim:Bool)(mem:List MemC)(op:List Str)(rec:List TokC->List Str->Xs->Xr)(l:List TokC):Nat->Nat->List TokC->Xs->Xr
 |0,_,out,st=> .ok out st
 |f+1,i,out,st=>
  let c:=XE l i
  if l.length<=c then .ok (out++l.drop i) st
  else
   let s:=Xi l (c+1)
   if s.ok=false then .bad (qdo l c s.at_)
   else match qai lim mem op rec s st with
    | .bad f=> .bad f
    | .ok inner st'=>if qcY lim (out++qbn l i c++inner)=true then .bad ⟨3,s.name.line,s.name.col⟩else qaj lim mem op rec l f s.at_ (out++qbn l i c++inner) st'
def qfp(lim:Bool)(mem:List MemC):Nat->List TokC->List Str->Xs->Xr
 |0,l,op,st=>qaj lim mem op (fun _ _ st=> .ok [] st) l (l.length+1) 0 [] st
 |d+1,l,op,st=>qaj lim mem op (qfp lim mem d) l (l.length+1) 0 [] st
def UR(lim:Bool)(l:List TokC)(mem:List MemC):Xr:=qfp lim mem 8 l [] ⟨[],0⟩
end Go.Cop
namespace Go.Cop
open Go.Col (Str FaultC okF)
open Go.Tok
set_option maxRecDepth 100000
theorem qeT{α:Type}(d:α){l:List α}{i:Nat}(hi:i<l.length):l.drop i=l.getD i d::l.drop (i+1):=by
 rw[List.drop_eq_getElem_cons hi];simp[List.getD,hi]
theorem fitsR_len{l o:List TokC}(h:Ws l o=true):o.length<=l.length:=by
 unfold Ws at h;simp only[Bool.and_eq_true,decide_eq_true_eq]at h;exact h.1
theorem qfv{r:List RepC}(hr:∀x∈r,x.old≠[]):∀(f g:Nat) (l:List TokC),l.length<=f->l.length<=g->repGo r f l=repGo r g l
 |0,g,l,hf,_=>by
  rw[List.eq_nil_of_length_eq_zero (by omega:l.length=0)];cases g<;>rfl
 |f+1,0,l,_,hg=>by
  rw[List.eq_nil_of_length_eq_zero (by omega:l.length=0)];rfl
 |f+1,g+1,[],_,_=>rfl
 |f+1,g+1,t::l,hf,hg=>by
  simp only[List.length_cons]at hf hg;simp only[repGo];cases hq:r.find? (fun x=>Ws (t::l) x.old)with
  |none=>simp only;rw[qfv hr f g l (by omega) (by omega)]
  |some x=>
   simp only;have hx:0<x.old.length:=List.length_pos_iff.2 (hr x (List.mem_of_find?_eq_some hq));have hd:((t::l).drop x.old.length).length<=l.length:=by simp;omega
   rw[qfv hr f g _ (by omega) (by omega)]
theorem repE_nil(r:List RepC):qbG r []=[]:=rfl
theorem repE_step{r:List RepC}(hr:∀x∈r,x.old≠[]){l:List TokC}{i:Nat}(hi:i<l.length):qbG r (l.drop i)=match r.find? (fun x=>Ws (l.drop i) x.old)with
 |none=>l.getD i noT::qbG r (l.drop (i+1))
 |some x=>x.new++qbG r (l.drop (i+x.old.length)):=by
 unfold qbG;have e:=qeT noT hi;rw[show(l.drop i).length=(l.drop (i+1)).length+1 by simp;omega];rw[e];simp only[repGo];rw[<-e];cases hq:r.find? (fun x=>Ws (l.drop i) x.old)with
 |none=>rfl
 |some x=>
  simp only;have hx:0<x.old.length:=List.length_pos_iff.2 (hr x (List.mem_of_find?_eq_some hq));rw[List.drop_drop,qfv hr _ _ (l.drop (i+x.old.length)) (by simp;omega) (Nat.le_refl _)]
theorem find_idx{r:List RepC}{p:RepC->Bool}:(r.findIdx? p=none/\r.find? p=none)\/∃i x,r.findIdx? p=some i/\r.find? p=some x/\i<r.length/\r[i]?=some x:=by
 cases h:r.findIdx? p with
 |none=>
  left;refine⟨rfl,?_⟩;rw[List.findIdx?_eq_none_iff]at h;rw[List.find?_eq_none];intro x hx;simp[h x hx]
 |some i=>
  right;rw[List.findIdx?_eq_some_iff_getElem]at h;obtain⟨h1,h2,h3⟩:=h;refine⟨i,r[i],rfl,?_,h1,by simp[h1]⟩;rw[List.find?_eq_some_iff_getElem];exact⟨h2,i,h1,rfl,fun j hj=>by simpa using h3 j hj⟩
theorem alike_app:∀{l m l' m':List TokC},alike l m=true->alike l' m'=true->alike (l++l') (m++m')=true
 |[],[],_,_,_,h=>h
 |[],_::_,_,_,h,_=>by cases h
 |_::_,[],_,_,h,_=>by cases h
 |a::l,b::m,_,_,h,h'=>by
  simp only[alike,Bool.and_eq_true,List.cons_append]at h|-
  exact⟨h.1,alike_app h.2 h'⟩
theorem repE_same{r:List RepC}(hr:∀x∈r,x.old≠[])(hn:∀x∈r,x.new=x.old):∀(n:Nat) (l:List TokC),l.length<=n->alike (qbG r l) l=true
 |0,l,h=>by rw[List.eq_nil_of_length_eq_zero (by omega:l.length=0)];rfl
 |n+1,l,h=>by
  cases hl:l with
  |nil=>rfl
  |cons t l'=>
   rw[<-hl];have hpos:0<l.length:=by rw[hl];simp
   have hs:=repE_step hr hpos;rw[List.drop_zero]at hs;rw[hs];cases hq:r.find? (fun x=>Ws l x.old)with
   |none=>
    simp only[Nat.zero_add];have e:=qeT noT hpos;rw[List.drop_zero,Nat.zero_add]at e;conv=>lhs;rhs;rw[e]
    simp only[alike,decide_true,Bool.and_self,Bool.true_and];exact repE_same hr hn n _ (by simp;omega)
   |some x=>
    simp only[Nat.zero_add];have hm:=List.mem_of_find?_eq_some hq;have hf:=List.find?_some hq;have hx:0<x.old.length:=List.length_pos_iff.2 (hr x hm);unfold Ws at hf;simp only[Bool.and_eq_true,decide_eq_true_eq]at hf;rw[hn x hm];conv=>lhs;rhs;rw[<-List.take_append_drop x.old.length l]
    exact alike_app hf.2 (repE_same hr hn n _ (by simp;omega))
theorem repE_none(l:List TokC):qbG [] l=l:=by
 have:∀(f:Nat) (l:List TokC),l.length<=f->repGo [] f l=l:=by
  intro f;induction f with
  |zero=>intro l h;rw[List.eq_nil_of_length_eq_zero (by omega:l.length=0)];rfl
  |succ f ih=>
   intro l h;cases l with
   |nil=>rfl
   |cons t l=>simp only[repGo,List.find?_nil];rw[ih l (by simpa using h)]
 exact this _ l (Nat.le_refl _)
theorem UB{l:List TokC}{i:Nat}{ks:List UInt8}(h:XB l i ks=true):i<l.length:=by
 unfold XB at h;simp only[Bool.and_eq_true,decide_eq_true_eq]at h;exact h.1
theorem qco{α:Type}(p:α->Bool):∀l:List α,(l.takeWhile p).length<=l.length
 |[]=>Nat.le_refl _
 |a::l=>by
  rw[List.takeWhile_cons];split
  ·simp;exact qco p l
  ·simp
theorem pseudoEnd_le{l:List TokC}{i:Nat}(h:i<=l.length):i<=ZE l i/\ZE l i<=l.length:=by
 unfold ZE;have:=qco (fun t:TokC=> !decide (t.kind=7)) (l.drop i);rw[List.length_drop]at this;omega
theorem qeU{l:List TokC}{i:Nat}(h:i<=l.length):i<=XE l i/\XE l i<=l.length:=by
 unfold XE;have:=qco (fun t:TokC=> !(decide (t.kind=1) && decide (t.text=COPY))) (l.drop i);rw[List.length_drop]at this;omega
theorem qdk{l:List TokC}{i:Nat}{e:Bool}(h:i<=l.length):i<=(Xd l i e).at_/\(Xd l i e).at_<=l.length/\((Xd l i e).ok=true->i<(Xd l i e).at_/\(Xd l i e).lo<=(Xd l i e).hi/\(Xd l i e).hi<=l.length/\(e=false->(Xd l i e).lo<(Xd l i e).hi)):=by
 unfold Xd;split
 ·rename_i h1
  have:=UB h1;exact⟨by simp only;omega,by simp only;omega,fun _=>⟨by simp only;omega,by simp only;omega,by simp only;omega,fun _=>by simp only;omega⟩⟩
 ·split
  ·exact⟨Nat.le_refl _,h,fun q=>by cases q⟩
  ·rename_i h2
   have h2':XB l i [7]=true:=by simpa using h2
   have hl:=UB h2';obtain⟨p1,p2⟩:=pseudoEnd_le (l:=l) (i:=i+1) (by omega);split
   ·exact⟨by simp only;omega,p2,fun q=>by cases q⟩
   ·rename_i h3
    have hne:ZE l (i+1)≠l.length:=fun q=>h3 (.inl q);refine⟨by simp only;omega,by simp only;omega,fun _=>⟨by simp only;omega,p1,p2,fun he=>?_⟩⟩;simp only;have:ZE l (i+1)≠i+1:=fun q=>h3 (.inr ⟨he,q⟩);omega
theorem pair_at{l:List TokC}{i:Nat}(h:i<=l.length):i<=(YT l i).at_/\(YT l i).at_<=l.length/\((YT l i).ok=true->i<(YT l i).at_/\(YT l i).rep.old≠[]):=by
 obtain⟨a1,a2,a3⟩:=qdk (e:=false) h;unfold YT;simp only;split
 ·exact⟨a1,a2,fun q=>by cases q⟩
 ·rename_i h1
  have h1':(Xd l i false).ok=true:=by simpa using h1
  obtain⟨b1,b2,b3,b4⟩:=a3 h1';split
  ·exact⟨a1,a2,fun q=>by cases q⟩
  ·rename_i h2
   have h2':XL l (Xd l i false).at_ BY=true:=by simpa using h2
   have hl:(Xd l i false).at_<l.length:=by
    unfold XL at h2';simp only[Bool.and_eq_true]at h2';exact UB h2'.1
   obtain⟨c1,c2,c3⟩:=qdk (l:=l) (i:=(Xd l i false).at_+1) (e:=true) (by omega);refine⟨by simp only;omega,c2,fun _=>⟨by simp only;omega,?_⟩⟩;simp only[qbn];intro q;have:=congrArg List.length q;have:=b4 rfl;simp at*
   omega
theorem pairs_at{l:List TokC}:∀(f i:Nat) (first:Bool) (acc:List RepC),i<=l.length->(∀x∈acc,x.old≠[])->i<=(YS l f i first acc).at_/\(YS l f i first acc).at_<=l.length/\∀x∈(YS l f i first acc).reps,x.old≠[]
 |0,i,first,acc,h,ha=>⟨Nat.le_refl _,h,ha⟩
 |f+1,i,first,acc,h,ha=>by
  rw[YS];split
  ·obtain⟨p1,p2,p3⟩:=pair_at h
   simp only;split
   ·exact⟨p1,p2,fun x hx=>by cases hx⟩
   ·rename_i hok
    obtain⟨p4,p5⟩:=p3 (by simpa using hok);obtain⟨q1,q2,q3⟩:=pairs_at f (YT l i).at_ false (acc++[(YT l i).rep]) p2 (fun x hx=>by
     rcases List.mem_append.1 hx with hx|hx
     ·exact ha x hx
     ·rw[List.mem_singleton.1 hx];exact p5)
    exact⟨by omega,q2,q3⟩
  ·exact⟨Nat.le_refl _,h,ha⟩
theorem qeA{l:List TokC}{i:Nat}{s:Str}(h:XL l i s=true):i<l.length:=by
 unfold XL at h;simp only[Bool.and_eq_true]at h;exact UB h.1
theorem qbg{l:List TokC}{i:Nat}(h:i<=l.length):i<=(Xi l i).at_/\(Xi l i).at_<=l.length/\((Xi l i).ok=true->i<(Xi l i).at_)/\∀x∈(Xi l i).reps,x.old≠[]:=by
 unfold Xi;split
 ·exact⟨Nat.le_refl _,h,(fun q=>by cases q),(fun x hx=>by cases hx)⟩
 ·rename_i h1
  have hl:=UB (show XB l i [1,3]=true by simpa using h1);have key:∀p:Pairs,i+1<=p.at_->p.at_<=l.length->(∀x∈p.reps,x.old≠[])->i<=(UF l (l.getD i noT) p).at_/\(UF l (l.getD i noT) p).at_<=l.length/\((UF l (l.getD i noT) p).ok=true->i<(UF l (l.getD i noT) p).at_)/\∀x∈(UF l (l.getD i noT) p).reps,x.old≠[]:=by
   intro p p1 p2 p3;unfold UF;split
   ·exact⟨by simp only[noStm];omega,p2,(fun q=>by cases q),(fun x hx=>by cases hx)⟩
   ·split
    ·exact⟨by simp only[noStm];omega,p2,(fun q=>by cases q),(fun x hx=>by cases hx)⟩
    ·rename_i h3
     have:=UB (show XB l p.at_ [6]=true by simpa using h3);exact⟨by simp only;omega,by simp only;omega,fun _=>by simp only;omega,p3⟩
  split
  ·rename_i h2
   have hw:=qeA h2;obtain⟨q1,q2,q3⟩:=pairs_at (l:=l) (l.length+2) (i+2) true [] (by omega) (fun x hx=>by cases hx);exact key _ (by omega) q2 q3
  ·exact key _ (Nat.le_refl _) (by simp only;omega) (fun x hx=>by cases hx)
end Go.Cop
namespace Go.Cop
open Go.Col (Str FaultC okF)
open Go.Tok
set_option maxRecDepth 100000
theorem faultAt_ne(l:List TokC)(c a:Nat):qdo l c a≠okF:=by
 unfold qdo;split<;>simp[okF]
section
variable {lim:Bool} {mem:List MemC}
end
end Go.Cop
namespace Go.Cop
open Go.Col (Str FaultC okF)
open Go.Tok
set_option maxRecDepth 100000
section
variable {lim:Bool} {mem:List MemC}
def qfo(mem:List MemC)(s:Str):Option MemC:=mem.find? (fun m=>decide (m.name=s))
end
end Go.Cop
namespace Go.Cop
open Go.Col (Str FaultC okF)
open Go.Tok
set_option maxRecDepth 100000
def qfD(t:TokC):Bool:=decide (t.kind=1) && decide (t.text=COPY)
def qal(l:List TokC):Prop:=∀t∈l,qfD t=false
theorem qfj{α:Type}{p:α->Bool}:∀{l:List α},∀x∈l.takeWhile p,p x=true
 |[],x,hx=>by cases hx
 |a::l,x,hx=>by
  rw[List.takeWhile_cons]at hx;split at hx
  ·rcases List.mem_cons.1 hx with rfl|hx
   ·assumption
   ·exact qfj x hx
  ·cases hx
theorem qdI{α:Type}{p:α->Bool}(d:α):∀{l:List α},(l.takeWhile p).length<l.length->p (l.getD (l.takeWhile p).length d)=false
 |[],h=>by simp at h
 |a::l,h=>by
  rw[List.takeWhile_cons]at h|-
  split
  ·rename_i hp
   rw[if_pos hp]at h;simp only[List.length_cons,List.getD_cons_succ];exact qdI d (by simpa using h)
  ·rename_i hp
   simpa using hp
theorem copyAt_word{l:List TokC}{i:Nat}(hi:i<=l.length)(h:XE l i<l.length):XL l (XE l i) COPY=true:=by
 have h2:((l.drop i).takeWhile (fun t=> !(decide (t.kind=1) && decide (t.text=COPY)))).length<(l.drop i).length:=by
  unfold XE at h;rw[List.length_drop];omega
 have:=qdI noT h2;rw[show(l.drop i).getD ((l.drop i).takeWhile (fun t=> !(decide (t.kind=1) && decide (t.text=COPY)))).length noT=l.getD (XE l i) noT by
  simp only[List.getD,List.getElem?_drop];rfl]at this
 simp only[Bool.not_eq_false',Bool.and_eq_true,decide_eq_true_eq]at this;unfold XL XB;simp only[List.contains_cons,List.contains_nil,Bool.or_false,Bool.and_eq_true,decide_eq_true_eq,beq_iff_eq];exact⟨⟨h,this.1⟩,this.2⟩
theorem cut_nocopy(l:List TokC)(i:Nat):qal (qbn l i (XE l i)):=by
 intro t ht;unfold qbn XE at ht;rw[Nat.add_sub_cancel_left]at ht;have e:(l.drop i).take ((l.drop i).takeWhile (fun t=> !(decide (t.kind=1) && decide (t.text=COPY)))).length=(l.drop i).takeWhile (fun t=> !(decide (t.kind=1) && decide (t.text=COPY))):=by
  generalize l.drop i=m;induction m with
  |nil=>rfl
  |cons a m ih=>
   rw[List.takeWhile_cons];split
   ·rw[List.length_cons,List.take_succ_cons,ih]
   ·rfl
 rw[e]at ht;have:=qfj t ht;unfold qfD;rw[Bool.not_eq_true']at this;exact this
theorem drop_nocopy{l:List TokC}{i:Nat}(h:l.length<=XE l i):qal (l.drop i):=by
 have:=cut_nocopy l i;unfold qbn at this
 rwa [List.take_of_length_le (by rw[List.length_drop];omega)]at this
theorem nocopy_at{l:List TokC}(h:qal l):XE l 0=l.length:=by
 unfold XE;rw[List.drop_zero,Nat.zero_add];congr 1;induction l with
 |nil=>rfl
 |cons a l ih=>
  rw[List.takeWhile_cons];have ha:=h a List.mem_cons_self;unfold qfD at ha;rw[if_pos (by rw[ha];rfl),ih fun t ht=>h t (List.mem_cons_of_mem _ ht)]
theorem list_plain{lim:Bool}{mem:List MemC}{op:List Str}{st:Xs}{l:List TokC}(h:qal l)(d:Nat):qfp lim mem d l op st= .ok l st:=by
 have e:=nocopy_at h;cases d<;>rw[qfp,qaj]<;>simp only[e]<;>rw[if_pos (Nat.le_refl _)]<;>simp
def Bare(l:List TokC):Prop:=∀i,XL l i COPY=true->XB l (i+1) [1]=true/\XB l (i+2) [6]=true
theorem UW{l:List TokC}{i:Nat}{k:UInt8}:XB l i [k]=true↔i<l.length/\(l.getD i noT).kind=k:=by
 unfold XB;simp
theorem bare_statement{l:List TokC}(hb:Bare l){c:Nat}(hc:XL l c COPY=true):Xi l (c+1)=⟨true,l.getD (c+1) noT,[],c+3⟩:=by
 obtain⟨h1,h2⟩:=hb c hc;have h1':=UW.1 h1;have h2':=UW.1 h2;unfold Xi;rw[if_neg (by unfold XB;simp only[List.contains_cons,h1'.2,h1'.1];decide)];rw[if_neg (by
  unfold XL;intro q;simp only[Bool.and_eq_true]at q;have:=(UW.1 q.1).2;rw[h2'.2]at this;revert this;decide)]
 unfold UF;rw[if_neg (by simp),if_neg (by simp only;rw[h2];simp)]
def Names(l:List TokC)(s:Str):Prop:=∃i,XL l i COPY=true/\(l.getD (i+1) noT).text=s
section
variable {lim:Bool} {mem:List MemC}
theorem app_nocopy{a b:List TokC}(ha:qal a)(hb:qal b):qal (a++b):=fun t ht=>by
 rcases List.mem_append.1 ht with h|h
 ·exact ha t h
 ·exact hb t h
def BareR:Xr->Prop
 | .bad f=>f.e=7\/f.e=3
 | .ok out _=>qal out
theorem bare_go{ρ:Str->Nat}{op:List Str}{rec:List TokC->List Str->Xs->Xr}{l:List TokC}(hb:Bare l)(hop:∀s,Names l s->qfo mem s≠none->∀x∈op,ρ x<ρ s)
 (hrec:∀n m st,op.length<8->qfo mem n=some m->Names l n->BareR (rec m.toks (op++[n]) st)):∀(f i:Nat) (out:List TokC) (st:Xs),i<=l.length->l.length<f+i->qal out->BareR (qaj lim mem op rec l f i out st)
 |0,i,out,st,h,hf,_=>by omega
 |f+1,i,out,st,h,hf,ho=>by
  rw[qaj];simp only;obtain⟨c1,c2⟩:=qeU h;split
  ·rename_i hc
   exact app_nocopy ho (drop_nocopy hc)
  ·rename_i hc
   have hw:=copyAt_word h (by omega);have hst:=bare_statement hb hw;obtain⟨c,hcc⟩:∃c,c=XE l i:=⟨_,rfl⟩
   rw[<-hcc]at hst hw hc c1|-
   rw[hst];rw[if_neg (by simp)];simp only;have hlen:c+3<=l.length:=by have:=(UW.1 (hb c hw).2).1;omega
   obtain⟨n,hn⟩:∃n,n=(l.getD (c+1) noT).text:=⟨_,rfl⟩
   have hN:Names l n:=⟨c,hw,hn.symm⟩
   have hmr:∀r,qai lim mem op rec ⟨true,l.getD (c+1) noT,[],c+3⟩ st=r->match r with| .bad f=>f.e=7\/f.e=3| .ok inner _=>qal inner:=by
    intro r hr;unfold qai at hr;rw[<-hn]at hr;split at hr
    ·subst hr;exact .inl rfl
    ·rename_i m hm
     have hm':qfo mem n=some m:=hm;split at hr
     ·rename_i hcon
      have hx:=hop n hN (by rw[hm'];simp) n (by simpa using hcon);omega
     ·split at hr
      ·subst hr;exact .inr rfl
      ·rename_i h8
       have hq:=hrec n m ⟨addE st.names n,st.copies+1⟩ (by omega) hm' hN;split at hr
       ·rename_i f' hf'
        subst hr;rw[hf']at hq;exact hq
       ·rename_i l' st' hl'
        rw[hl']at hq;rw[repE_none]at hr;split at hr
        ·subst hr;exact .inr rfl
        ·subst hr;exact hq
   have:=hmr _ rfl;split
   ·rename_i f' hf'
    rw[hf']at this;exact this
   ·rename_i inner st' hi'
    rw[hi']at this;split
    ·exact .inr rfl
    ·exact bare_go hb hop hrec f (c+3) _ st' hlen (by omega) (app_nocopy (app_nocopy ho (by rw[hcc];exact cut_nocopy l i)) this)
theorem bare_list{ρ:Str->Nat}(hm:∀n m,qfo mem n=some m->Bare m.toks/\∀s,Names m.toks s->qfo mem s≠none->ρ n<ρ s):∀(d:Nat) (l:List TokC) (op:List Str) (st:Xs),8<=d+op.length->Bare l->(∀s,Names l s->qfo mem s≠none->∀x∈op,ρ x<ρ s)->BareR (qfp lim mem d l op st)
 |0,l,op,st,hd,hb,hop=>by
  rw[qfp];exact bare_go hb hop (fun n m st h8 _ _=>by omega) _ _ _ _ (Nat.zero_le _) (by omega) (fun t ht=>by cases ht)
 |d+1,l,op,st,hd,hb,hop=>by
  rw[qfp];refine bare_go hb hop (fun n m st h8 hn hN=>?_) _ _ _ _ (Nat.zero_le _) (by omega) (fun t ht=>by cases ht);obtain⟨m1,m2⟩:=hm n m hn;refine bare_list hm d m.toks _ st (by simp;omega) m1 fun s hs hs' x hx=>?_;have h1:=m2 s hs hs';rcases List.mem_append.1 hx with hx|hx
  ·have:=hop n hN (by rw[hn];simp) x hx
   omega
  ·rw[List.mem_singleton.1 hx]
   exact h1
end
end Go.Cop
namespace Go.Cop
open Go.Col (Str FaultC okF)
open Go.Tok
set_option maxRecDepth 100000
theorem qfF(a b:List TokC)(i:Nat):(a++b).getD (a.length+i) noT=b.getD i noT:=by
 simp only[List.getD];rw[List.getElem?_append_right (by omega),Nat.add_sub_cancel_left]
theorem kindAt_shift(a b:List TokC)(i:Nat)(ks:List UInt8):XB (a++b) (a.length+i) ks=XB b i ks:=by
 unfold XB;rw[qfF,List.length_append];congr 1;exact decide_eq_decide.2 (by omega)
theorem wordAt_shift(a b:List TokC)(i:Nat)(s:Str):XL (a++b) (a.length+i) s=XL b i s:=by
 unfold XL;rw[kindAt_shift,qfF]
theorem qfy(l:List TokC):∀(f g i:Nat) (first:Bool) (acc:List RepC),i<=l.length->l.length+1<=f+i->l.length+1<=g+i->YS l f i first acc=YS l g i first acc
 |0,g,i,first,acc,h,hf,hg=>by omega
 |f+1,0,i,first,acc,h,hf,hg=>by omega
 |f+1,g+1,i,first,acc,h,hf,hg=>by
  rw[YS,YS];split
  ·obtain⟨p1,p2,p3⟩:=pair_at h
   simp only;split
   ·rfl
   ·rename_i hok
    obtain⟨p4,_⟩:=p3 (by simpa using hok);exact qfy l f g _ _ _ p2 (by omega) (by omega)
  ·rfl
section
variable {c b:List TokC}
theorem getD_front{i:Nat}(h:i<c.length):(c++b).getD i noT=c.getD i noT:=by
 simp only[List.getD];rw[List.getElem?_append_left h]
theorem kindAt_front{i:Nat}(h:i<c.length)(ks:List UInt8):XB (c++b) i ks=XB c i ks:=by
 unfold XB;rw[getD_front h,List.length_append,decide_eq_true (by omega),decide_eq_true h]
theorem wordAt_front{i:Nat}(h:i<c.length)(s:Str):XL (c++b) i s=XL c i s:=by
 unfold XL;rw[kindAt_front h,getD_front h]
end
end Go.Cop
namespace Go.Cop
open Go.Col (Str FaultC okF)
open Go.Tok
set_option maxRecDepth 100000
def wd(s:Str):TokC:=⟨1,s,0,0,false⟩
def perC:TokC:=⟨6,[46],0,0,false⟩
def psC:TokC:=⟨7,[61,61],0,0,false⟩
def numC:TokC:=⟨2,[53],0,0,false⟩
def quoC(s:Str):TokC:=⟨3,s,0,0,false⟩
def plainC:List TokC:=[wd [65],wd [66],wd [67],wd BY,numC,quoC [65],perC,⟨5,[40],0,0,false⟩]
def pairsC:List (List TokC):=[
 [wd [65],wd BY,wd [66]],
 [wd [66],wd BY,wd [65],wd [65],wd BY,wd [67]],
 [psC,wd [65],wd [66],psC,wd BY,psC,psC],
 [psC,wd [65],psC,wd BY,psC,wd [65],wd [65],psC],
 [numC,wd BY,psC,wd COPY,wd [77,49],perC,psC],
 [psC,perC,psC,wd BY,quoC [88],psC,wd [67],psC,wd BY,wd [67]]]
def nameC(n:Nat):Str:=if n=255 then[77,57]else[77,UInt8.ofNat (48+n%8)]
def Yz(n:Nat):List TokC:=
 if n<160 then[plainC.getD (n%8) noT]
 else wd COPY::wd (nameC n)::((if 200<=n then wd Yd::pairsC.getD (n%6) []else[])++(if n=254 then[]else[perC]))
def qaz(ns:List Nat):List TokC:=ns.flatMap Yz
theorem rawC_cons(n:Nat)(ns:List Nat):qaz (n::ns)=Yz n++qaz ns:=List.flatMap_cons
theorem rawC_app(a b:List Nat):qaz (a++b)=qaz a++qaz b:=List.flatMap_append
def clsT(t:TokC):Bool:=(decide (t.kind=1) && [[65],[66],[67],BY].contains t.text)||(decide (t.kind=2) && decide (t.text=[53]))||(decide (t.kind=3) && decide (t.text=[65]))
def W:Nat->TokC->Nat
 |0,_=>1
 |j+1,t=>if clsT t=true then 3*2^j else 1
end Go.Cop
namespace Go.Cop
open Go.Col (Str FaultC okF)
open Go.Tok
set_option maxRecDepth 100000
theorem chunk_lo{n:Nat}(h:n<160):Yz n=[plainC.getD (n%8) noT]:=by
 unfold Yz;rw[if_pos h]
end Go.Cop
namespace Go.Cop
open Go.Col (Str FaultC okF)
open Go.Tok
set_option maxRecDepth 100000
def strip(t:TokC):TokC:=⟨t.kind,t.text,0,0,false⟩
section
variable (l:List TokC)
theorem qfE(i:Nat):(l.map strip).getD i noT=strip (l.getD i noT):=by
 simp only[List.getD,List.getElem?_map];cases l[i]?<;>rfl
theorem kindAt_strip(i:Nat)(ks:List UInt8):XB (l.map strip) i ks=XB l i ks:=by
 unfold XB;rw[qfE,List.length_map];rfl
theorem wordAt_strip(i:Nat)(s:Str):XL (l.map strip) i s=XL l i s:=by
 unfold XL;rw[qfE,kindAt_strip];rfl
end
def X:Nat->Nat
 |0=>6144
 |1=>768
 |2=>96
 |_=>12
def Y:Nat->Nat
 |0=>73
 |1=>9
 |2=>1
 |_=>0
structure Lib(mem:List MemC):Prop where
 few:∀op:List Str,op.Nodup->(∀x∈op,qfo mem x≠none)->op.length<=3
 raw:∀n m,qfo mem n=some m->∃ns,m.toks.map strip=qaz ns/\ns.length<=8/\∀n∈ns,n<256
theorem raw_plain:∀{ps:List Nat},(∀p∈ps,p<160)->(qaz ps).length=ps.length/\qal (qaz ps)
 |[],_=>⟨rfl,fun t ht=>by cases ht⟩
 |p::ps,h=>by
  obtain⟨h1,h2⟩:=raw_plain (ps:=ps) fun x hx=>h x (List.mem_cons_of_mem _ hx);have e:=chunk_lo (h p List.mem_cons_self);rw[rawC_cons,e];refine⟨by simp[h1],fun t ht=>?_⟩;rcases List.mem_append.1 ht with ht|ht
  ·rw[List.mem_singleton.1 ht]
   have:p%8=0\/p%8=1\/p%8=2\/p%8=3\/p%8=4\/p%8=5\/p%8=6\/p%8=7:=by omega
   rcases this with q|q|q|q|q|q|q|q<;>rw[q]<;>decide
  ·exact h2 t ht
section
variable {mem:List MemC} (hL:Lib mem)
include hL
end
end Go.Cop
namespace Go.Cop
open Go.Col (Str FaultC okF)
open Go.Tok
set_option maxRecDepth 100000
def atT(i:Nat)(t:TokC):TokC:=⟨t.kind,t.text,1+(i / 8:Nat),8+(i%8:Nat),false⟩
def qaA(l:List TokC):List TokC:=l.mapIdx atT
def qdl(x:List UInt8):List Nat:=(x.take 60).map UInt8.toNat
def lOf(x:List UInt8):List TokC:=qaA (qaz (qdl x))
theorem nats_lt(x:List UInt8):∀n∈qdl x,n<256:=by
 intro n hn;obtain⟨b,_,rfl⟩:=List.mem_map.1 hn;exact b.toNat_lt
theorem nats_len(x:List UInt8):(qdl x).length<=x.length/\(qdl x).length<=60:=by
 unfold qdl;rw[List.length_map,List.length_take];omega
theorem place_strip(l:List TokC):(qaA l).map strip=l.map strip:=by
 unfold qaA;apply List.ext_getElem?;intro i;rw[List.getElem?_map,List.getElem?_mapIdx,List.getElem?_map];cases l[i]?<;>rfl
theorem chunk_facts:∀k:Fin 256,(Yz k.val).map strip=Yz k.val/\(Yz k.val).length<=14:=by decide+kernel
theorem qcD:∀{ns:List Nat},(∀n∈ns,n<256)->(qaz ns).map strip=qaz ns/\(qaz ns).length<=14*ns.length
 |[],_=>⟨rfl,Nat.le_refl _⟩
 |n::ns,h=>by
  obtain⟨h1,h2⟩:=qcD (ns:=ns) fun x hx=>h x (List.mem_cons_of_mem _ hx);obtain⟨g1,g2⟩:=chunk_facts ⟨n,h n List.mem_cons_self⟩;rw[rawC_cons,List.map_append,h1,List.length_append,List.length_cons];simp only at g1 g2;rw[g1];exact⟨rfl,by omega⟩
theorem lOf_strip(x:List UInt8):(lOf x).map strip=qaz (qdl x):=by
 unfold lOf;rw[place_strip,(qcD (nats_lt x)).1]
theorem qeM(x:List UInt8):(lOf x).length<=14*x.length/\(lOf x).length<=840:=by
 have h:=congrArg List.length (lOf_strip x);rw[List.length_map]at h;have h1:=(qcD (nats_lt x)).2;obtain⟨h2,h3⟩:=nats_len x;omega
def Yp(i:Nat):Str:=[77,UInt8.ofNat (48+i)]
def qdm(m:List (List UInt8)):List MemC:=(m.take 8).mapIdx fun i x=>⟨Yp i,lOf x⟩
theorem find_mapIdx{α:Type}(f:Nat->α->MemC)(hf:∀i x,(f i x).name=Yp i){l:List α}(hl:l.length<=100){n:Str}{m:MemC}(h:qfo (l.mapIdx f) n=some m):∃i x,l[i]?=some x/\i<l.length/\n=Yp i/\m=f i x:=by
 unfold qfo at h;have h1:=List.mem_of_find?_eq_some h;have h2:=List.find?_some h;obtain⟨i,hi,rfl⟩:=List.mem_mapIdx.1 h1;refine⟨i,l[i],by simp[hi],hi,?_,rfl⟩;simp only[decide_eq_true_eq]at h2;rw[<-h2,hf]
def qcv(i:Nat)(l:List TokC):List TokC:=l.mapIdx fun k t=>if 1<=k/\(l.getD (k-1) noT).text=COPY/\t.kind=1/\t.text.length=2/\(t.text.getD 1 0-48).toNat<=i then⟨t.kind,Yp (i+1),t.line,t.col,t.left⟩else t
def acyE(m:List (List UInt8)):List MemC:=(m.take 8).mapIdx fun i x=>⟨Yp i,qcv i (lOf x)⟩
def PB(lo:Nat)(l:List TokC):Prop:=∀i,XL l i COPY=true->∃d,lo<=d/\d<=8/\(l.getD (i+1) noT).kind=1/\(l.getD (i+1) noT).text=Yp d/\XB l (i+2) [6]=true
theorem PB_strip{lo:Nat}{l:List TokC}(h:PB lo (l.map strip)):PB lo l:=by
 intro i hi;obtain⟨d,h1,h2,h3,h4,h5⟩:=h i (by rw[wordAt_strip];exact hi);rw[qfE]at h3 h4;rw[kindAt_strip]at h5;exact⟨d,h1,h2,h3,h4,h5⟩
theorem shift_cut(a b:List TokC){i:Nat}(h:a.length<=i)(s:Str):XL (a++b) i s=XL b (i-a.length) s:=by
 have:=wordAt_shift a b (i-a.length) s
 rwa [show a.length+(i-a.length)=i by omega]at this
theorem PB_raw:∀{ns:List Nat},(∀n∈ns,n<200)->PB 0 (qaz ns)
 |[],_,i,hi=>by have:=qeA hi;simp[qaz]at this
 |n::ns,h,i,hi=>by
  have ih:=PB_raw (ns:=ns) fun x hx=>h x (List.mem_cons_of_mem _ hx);have hn:=h n List.mem_cons_self;rw[rawC_cons]at hi|-
  by_cases hlen:(Yz n).length<=i
  ·rw[shift_cut _ _ hlen]at hi
   obtain⟨d,h1,h2,h3,h4,h5⟩:=ih _ hi;have e1:=qfF (Yz n) (qaz ns) (i-(Yz n).length+1);have e2:=kindAt_shift (Yz n) (qaz ns) (i-(Yz n).length+2) [6];rw[show(Yz n).length+(i-(Yz n).length+1)=i+1 by omega]at e1;rw[show(Yz n).length+(i-(Yz n).length+2)=i+2 by omega]at e2;rw[<-e1]at h3 h4;rw[<-e2]at h5;exact⟨d,h1,h2,h3,h4,h5⟩
  ·have hlt:i<(Yz n).length:=by omega
   rw[wordAt_front hlt]at hi;by_cases h160:n<160
   ·exfalso
    have e:=chunk_lo h160;rw[e]at hlt hi;have hi0:i=0:=by simpa using hlt
    subst hi0;have:n%8=0\/n%8=1\/n%8=2\/n%8=3\/n%8=4\/n%8=5\/n%8=6\/n%8=7:=by omega
    rcases this with q|q|q|q|q|q|q|q<;>rw[q]at hi<;>revert hi<;>decide
   ·have e:Yz n=[wd COPY,wd (Yp (n%8)),perC]:=by
     unfold Yz nameC Yp;rw[if_neg h160,if_neg (by omega),if_neg (by omega),if_neg (by omega)];rfl
    rw[e]at hlt hi|-
    have hi3:i<3:=hlt;rcases(by omega:i=0\/i=1\/i=2)with rfl|rfl|rfl
    ·refine⟨n%8,Nat.zero_le _,by omega,rfl,rfl,?_⟩
     rw[kindAt_front (show 0+2<3 by decide)];rfl
    ·exfalso
     unfold XL at hi;simp only[Bool.and_eq_true,decide_eq_true_eq]at hi;have h2:(2:Nat)=4:=congrArg List.length hi.2;omega
    ·exfalso
     have h2:false=true:=hi;cases h2
theorem PB_lOf{x:List UInt8}(h:∀b∈x,b.toNat<200):PB 0 (lOf x):=by
 refine PB_strip ?_;rw[lOf_strip];refine PB_raw fun n hn=>?_;obtain⟨b,hb,rfl⟩:=List.mem_map.1 hn;exact h b (List.mem_of_mem_take hb)
theorem acy_get(i:Nat)(l:List TokC)(k:Nat):(qcv i l).getD k noT=if k<l.length/\1<=k/\(l.getD (k-1) noT).text=COPY/\(l.getD k noT).kind=1/\(l.getD k noT).text.length=2/\((l.getD k noT).text.getD 1 0-48).toNat<=i then⟨(l.getD k noT).kind,Yp (i+1),(l.getD k noT).line,(l.getD k noT).col,(l.getD k noT).left⟩else l.getD k noT:=by
 by_cases hk:k<l.length
 ·have e:(qcv i l).getD k noT=(if 1<=k/\(l.getD (k-1) noT).text=COPY/\(l.getD k noT).kind=1/\(l.getD k noT).text.length=2/\((l.getD k noT).text.getD 1 0-48).toNat<=i then⟨(l.getD k noT).kind,Yp (i+1),(l.getD k noT).line,(l.getD k noT).col,(l.getD k noT).left⟩else l.getD k noT):=by
   have e1:l.getD k noT=l[k]:=by simp[List.getD,hk]
   rw[e1];unfold qcv;rw[List.getD,List.getElem?_mapIdx,List.getElem?_eq_getElem hk];rfl
  rw[e];by_cases q:1<=k/\(l.getD (k-1) noT).text=COPY/\(l.getD k noT).kind=1/\(l.getD k noT).text.length=2/\((l.getD k noT).text.getD 1 0-48).toNat<=i
  ·rw[if_pos q,if_pos ⟨hk,q⟩]
  ·rw[if_neg q,if_neg (fun z=>q z.2)]
 ·rw[if_neg (fun z=>hk z.1)]
  unfold qcv;rw[List.getD,List.getD,List.getElem?_mapIdx,List.getElem?_eq_none (by omega)];rfl
theorem qcn(i:Nat)(l:List TokC):(qcv i l).length=l.length:=by simp[qcv]
theorem acy_kind(i:Nat)(l:List TokC)(k:Nat):((qcv i l).getD k noT).kind=(l.getD k noT).kind:=by
 rw[acy_get];split<;>rfl
theorem acy_kindAt(i:Nat)(l:List TokC)(k:Nat)(ks:List UInt8):XB (qcv i l) k ks=XB l k ks:=by
 unfold XB;rw[acy_kind,qcn]
theorem acy_word(i:Nat)(l:List TokC)(k:Nat):XL (qcv i l) k COPY=XL l k COPY:=by
 unfold XL;rw[acy_kindAt,acy_get];congr 1;split
 ·rename_i h
  refine decide_eq_decide.2 ⟨fun q=>?_,fun q=>?_⟩
  ·have z:(2:Nat)=4:=congrArg List.length q
   omega
  ·rw[q]at h
   exact absurd h.2.2.2.2.1 (by decide)
 ·rfl
theorem nameM_digit{d:Nat}(h:d<=8):((Yp d).getD 1 0-48).toNat=d:=by
 rcases(by omega:d=0\/d=1\/d=2\/d=3\/d=4\/d=5\/d=6\/d=7\/d=8)with q|q|q|q|q|q|q|q|q<;>subst q<;>decide
theorem PB_acy{i:Nat}{l:List TokC}(hi:i<=7)(h:PB 0 l):PB (i+1) (qcv i l):=by
 intro k hk;rw[acy_word]at hk;obtain⟨d,_,h2,h3,h4,h5⟩:=h k hk;have hlt:k+2<l.length:=(UW.1 h5).1;have hcopy:(l.getD k noT).text=COPY:=by
  unfold XL at hk;simp only[Bool.and_eq_true,decide_eq_true_eq]at hk;exact hk.2
 rw[acy_kind,acy_kindAt,acy_get];by_cases hd:d<=i
 ·refine⟨i+1,Nat.le_refl _,by omega,h3,?_,h5⟩
  rw[if_pos ⟨by omega,by omega,by rw[Nat.add_sub_cancel];exact hcopy,h3,by rw[h4];rfl,by rw[h4,nameM_digit h2];exact hd⟩]
 ·refine⟨d,by omega,h2,h3,?_,h5⟩
  rw[if_neg (fun q=>hd (by have:=q.2.2.2.2.2;rwa [h4,nameM_digit h2]at this))];exact h4
theorem PB_bare{lo:Nat}{l:List TokC}(h:PB lo l):Bare l:=by
 intro i hi;obtain⟨d,_,_,h3,_,h5⟩:=h i hi;have:=(UW.1 h5).1;exact⟨UW.2 ⟨by omega,h3⟩,h5⟩
theorem PB_names{lo:Nat}{l:List TokC}(h:PB lo l){s:Str}(hs:Names l s):∃d,lo<=d/\d<=8/\s=Yp d:=by
 obtain⟨i,hi,rfl⟩:=hs;obtain⟨d,h1,h2,_,h4,_⟩:=h i hi;exact⟨d,h1,h2,h4⟩
theorem none_law{lim:Bool}{x:List UInt8}{m:List (List UInt8)}(hx:∀b∈x,b.toNat<200)(hm:∀y∈m,∀b∈y,b.toNat<200):BareR (UR lim (lOf x) (acyE m)):=by
 unfold UR;refine bare_list (ρ:=fun s=>(s.getD 1 0).toNat) (fun n mm hn=>?_) 8 _ _ _ (by simp) (PB_bare (PB_lOf hx)) (fun s _ _ y hy=>by cases hy);obtain⟨i,y,hy,hi,rfl,rfl⟩:=find_mapIdx (fun i x=>(⟨Yp i,qcv i (lOf x)⟩:MemC)) (fun i x=>rfl) (l:=m.take 8) (by rw[List.length_take];omega) hn;have hym:y∈m:=List.mem_of_mem_take (List.mem_of_getElem? hy);have hi7:i<=7:=by rw[List.length_take]at hi;omega
 have hp:=PB_acy hi7 (PB_lOf (hm y hym));refine⟨PB_bare hp,fun s hs _=>?_⟩;obtain⟨d,d1,d2,rfl⟩:=PB_names hp hs;have e:∀j,j<=8->((Yp j).getD 1 0).toNat=48+j:=fun j hj=>by
  unfold Yp;simp only[List.getD_cons_succ,List.getD_cons_zero,UInt8.toNat_ofNat'];omega
 rw[e i (by omega),e d d2];omega
end Go.Cop
namespace Go.Cop
open Go.Col (Str FaultC okF sp)
open Go.Tok
set_option maxRecDepth 100000
section
variable {c n p:TokC} (hc:qfD c=true) (hst:Xi [c,n,p] 1=⟨true,n,[],3⟩)
include hc hst
end
end Go.Cop
namespace Go.Cop
open Go.Col (Str FaultC okF sp)
open Go.Tok
set_option maxRecDepth 100000
def qbC(s:Str):List TokC:=(qeF (sp 11++s) false).1
def qcM:List MemC:=[⟨[65],qbC [48,53,32,88,32,80,73,67,32,57,40,51,41,46]⟩,⟨[66],qbC [48,49,32,82,46,32,67,79,80,89,32,65,32,82,69,80,76,65,67,73,78,71,32,88,32,66,89,32,89,46]⟩]
end Go.Cop
namespace Go.Cop
open Go.Col Go.Tok
end Go.Cop
namespace Go.Proofs.YtlhhaagmakhilaaGreatDoor
open Go.AM
open Go.Proofs
open Go.Col
open Go.Tok
open Go.Cop
open Go.RowKit (Below)
set_option maxRecDepth 100000
theorem noT_bad:noT=Zy:=rfl
def Uf(k:UInt8):List AVal:=[.int .u8 k.toNat]
theorem kin_len{wz:World}{h:AHeap}{v:AVal}{ks:List UInt8}(hv:IsL wz h 1 v (ks.map Uf)):∀H:AHeap,Ye Tryz.prog H 159 v=⟨True, .int .i64 ks.length⟩:=by
 have:=hv.len Tryz.underlying159
 rwa [List.length_map]at this
theorem kin_open{wz:World}{h:AHeap}{v:AVal}{ks:List UInt8}(hv:IsL wz h 1 v (ks.map Uf))(hn:0<ks.length):∃lc o c,v= .slice lc o ks.length c:=by
 obtain⟨lc,o,c,e⟩:=hv.open (fun e=>by rw[List.map_eq_nil_iff]at e;subst e;simp at hn);rw[List.length_map]at e;exact⟨lc,o,c,e⟩
theorem kin_at{wz:World}{h:AHeap}{ks:List UInt8}{lc:AM.Loc}{o:Nat}{c:Cap}(hv:IsL wz h 1 (.slice lc o ks.length c) (ks.map Uf)){i:Nat}(hi:i<ks.length):rd wz h lc (o+i*1)= .int .u8 (ks.getD i 0).toNat:=by
 have he:=hv.at0 (i:=i) (by rw[List.length_map];exact hi) (by decide);rw[getD_map (ys:=ks) 0 hi]at he;exact he
theorem c_indexK(wz:World)(h:AHeap)(v:AVal)(ks:List UInt8)(x:UInt8)(hv:IsL wz h 1 v (ks.map Uf))(hl:ks.length<=1000):
 ACall Tryz.prog wz 114 [v, .int .u8 x.toNat] h (fun r h'=>(∃n:Int,r= .int .i64 n/\decide (0<=n)=ks.contains x)/\h'=h):=by
 have hlv:=hv.live;have nv:=kin_len hv;refine qU (n:=19) (rs:=[.tmp 4]) Tryz.func114 rfl rfl rfl rfl (Nat.le_of_ble_eq_true rfl) ?_;simp only[Qe];refine awp_rseq [0,1] (by rfl) fun K hK=>?_;simp+decide only[qa,ev,qH,qF,putD,Slots.put,Slots.keep,if_true,if_false,true_and,↓qd,qb,Nat.zero_add];apply hK;clear hK K;refine qK ?_;refine awp_rseq [0,1,7,8] (by rfl) fun K hK=>?_;simp+decide only[qa,ev,qH,qF,putD,Slots.put,Slots.get,Slots.keep,if_true,if_false,true_and,↓qh,qc,↓Xo,QD,nv];apply hK;clear hK K;refine Ql ?_;refine Xv [0,1,7,8] (fun i:Nat=>[(0,v),(1, .int .u8 x.toNat),(7, .int .i64 ks.length),(8, .int .i64 i)]) (fun i:Nat=>h) (fun i:Nat=>i<=ks.length/\(ks.take i).contains x=false) (fun i:Nat=>ks.length-i) 0 (by rfl) (Sub.refl _) ⟨Nat.zero_le _,by simp⟩ ?_;rintro i ⟨hi,hq⟩;refine awp_rseq [0,1,7,8,9] (by rfl) fun K hK=>?_;simp+decide only[qa,ev,putD,Slots.put,Slots.get,Slots.keep,if_true,if_false,true_and,↓qA,ql,qR,cond_false,qo,XP];apply hK;clear hK K;refine qK (qJ (b:=_) rfl (fun hb1=>?_) (fun hb1=>?_))
 ·try simp only[decide_eq_true_eq]at hb1
  have hi':i<ks.length:=by omega
  obtain⟨lc,o,c,rfl⟩:=kin_open hv (by omega);have e0:=kin_at hv hi';rw[Nat.mul_one]at e0;refine qP ?_;change Awp _ _ _ _ _ _ _;refine qK ?_;refine Ql ?_;refine awp_rseq [0,1,5,7,8] (by rfl) fun K hK=>?_;simp+decide only[qa,ev,putD,Slots.put,Slots.get,Slots.keep,if_true,if_false,true_and,↓qh,qc,↓qd,qb];apply hK;clear hK K;refine awp_rseq [0,1,5,7,8,16] (by rfl) fun K hK=>?_;simp+decide only[qa,ev,putD,Slots.put,Slots.get,Slots.keep,if_true,if_false,true_and,↓qh,qc,↓QB,qY,Qb Tryz.underlying159 sz52,↓qG,qy ag52,↓qA,ql,qR,cond_false,qo,XR,qi,e0,Int.toNat_natCast,Nat.mul_one];repeat (with_reducible refine And.intro ?_ ?_;· first|trivial|omega|(intro hg;simp only[Bool.and_eq_true,Bool.or_eq_true,Bool.not_eq_true',Bool.and_eq_false_iff,Bool.or_eq_false_iff,Bool.not_eq_false',decide_eq_true_eq,decide_eq_false_iff_not,XV]at hg;omega))
  apply hK;clear hK K;refine qJ (b:=_) rfl (fun hb2=>?_) (fun hb2=>?_)
  ·try simp only[decide_eq_true_eq]at hb2
   refine awp_rseq [4] (by rfl) fun K hK=>?_;simp+decide only[qa,ev,putD,Slots.put,Slots.get,Slots.keep,if_true,if_false,true_and,↓qh,qc,↓qd,qb];apply hK;clear hK K;refine qO ?_;try simp only[Qi,Qw]
   refine Qa h zqC (qZ (Qd)) ?_;simp+decide only[Slots.get,if_true,and_true,Qr];refine⟨i,rfl,?_⟩;have hx:x=ks.getD i 0:=UInt8.toNat_inj.1 (by omega);have hm:ks.contains x=true:=by
    rw[List.contains_iff_mem,hx,List.getD,List.getElem?_eq_getElem hi'];exact List.getElem_mem hi'
   rw[hm,decide_eq_true_eq];omega
  ·try simp only[decide_eq_false_iff_not]at hb2
   refine qP ?_;change Awp _ _ _ _ _ _ _;refine XA [0,1,7,8] (by rfl) ?_;simp+decide only[qa,ev,qH,qF,putD,Slots.put,Slots.get,Slots.keep,if_true,if_false,true_and,↓qA,ql,qB,cond_false,qo,QY,↓qh,qc];try simp(disch:=omega)only[wrap_i64]
   try simp only[Qg]
   refine⟨i+1,rfl,Sub.refl _,⟨hi',?_⟩,by omega⟩;rw[List.take_add_one,List.getElem?_eq_getElem hi'];have hx:ks[i]≠x:=fun e=>hb2 (by rw[List.getD,List.getElem?_eq_getElem hi',<-e];rfl);simp only[Option.toList_some,List.contains_eq_mem,List.mem_append,List.mem_singleton,decide_eq_false_iff_not,not_or]at hq|-
   exact⟨hq,fun e=>hx e.symm⟩
 ·try simp only[decide_eq_false_iff_not]at hb1
  refine Xy ?_;change Awp _ _ _ _ _ _ _;refine awp_rseq [4] (by rfl) fun K hK=>?_;simp+decide only[qa,ev,qH,qF,putD,Slots.put,Slots.keep,if_true,if_false,true_and,↓qd,qb];apply hK;clear hK K;refine qO ?_;refine Qa h zqC (qZ (Qd)) ?_;simp+decide only[Slots.get,if_true,and_true,Qr];refine⟨-1,rfl,?_⟩;rw[List.take_of_length_le (by omega)]at hq;rw[hq];rfl
theorem c_containsK(wz:World)(h:AHeap)(v:AVal)(ks:List UInt8)(x:UInt8)(hv:IsL wz h 1 v (ks.map Uf))(hl:ks.length<=1000):
 ACall Tryz.prog wz 84 [v, .int .u8 x.toNat] h (fun r h'=>r= .bool (ks.contains x)/\h'=h):=by
 have hlv:=hv.live;refine qU (n:=9) (rs:=[.tmp 4]) Tryz.func84 rfl rfl rfl rfl (Nat.le_of_ble_eq_true rfl) ?_;simp only[Qe];refine awp_rseq [0,1] (by rfl) fun K hK=>?_;simp+decide only[qa,ev,qH,qF,putD,Slots.put,Slots.keep,if_true,if_false,true_and,↓qd,qb,Nat.zero_add];apply hK;clear hK K;refine awp_rseq [4] (by rfl) fun K hK=>?_;simp+decide only[ev,putD,Slots.put,Slots.get,if_true,if_false,true_and,↓qh,qc];refine QN (by rfl) (by rfl) (c_indexK wz _ v ks x hv hl) fun x1q2 h1q2 hx1q2=>?_;obtain⟨⟨n,rfl,hn⟩,he⟩:=hx1q2;subst h1q2;simp+decide only[qa,ev,qH,qF,putD,Slots.put,Slots.get,Slots.keep,if_true,if_false,true_and,↓qA,ql,qB,cond_false,qo,qaC,↓qd,qb];apply hK;clear hK K;refine qO ?_;refine Qa h zqC (qZ (Qd)) ?_;simp+decide only[Slots.get,if_true,and_true,Qr];rw[<-hn]
def parB(v:AVal)(i:Nat):Blk:=⟨[v, .int .i64 i],0⟩
theorem c_isIn(wz:World)(h:AHeap)(kp:Nat)(v:AVal)(l:List TokC)(i:Nat)(kv:AVal)(ks:List UInt8)(hk:h kp=some (parB v i))(hv:IsL wz h 5 v (l.map QK))(hkv:IsL wz h 1 kv (ks.map Uf))(hks:ks.length<=1000)(hi:i<l.length):
 ACall Tryz.prog wz 66 [.ptr (.own kp) 0,kv] h (fun r h'=>r= .bool (XB l i ks)/\h'=h):=by
 have rx:=fun o=>Qy wz hk o;unfold parB at rx;have hlv:=hv.live;have hlk:=hkv.live;have nv:=Zp hv;obtain⟨lc,o,c,rfl⟩:=Ui hv (by omega);obtain⟨e0,-,-,-,-⟩:=qaw hv hi;have hki:XB l i ks=ks.contains (l.getD i noT).kind:=by unfold XB;rw[decide_eq_true hi,Bool.true_and]
 rw[hki,noT_bad];refine qU (n:=30) (rs:=[.tmp 4]) Tryz.func66 rfl rfl rfl rfl (Nat.le_of_ble_eq_true rfl) ?_;simp only[Qe];refine awp_rseq [0,1] (by rfl) fun K hK=>?_;simp+decide only[qa,ev,qH,qF,putD,Slots.put,Slots.keep,if_true,if_false,true_and,↓qd,qb,Nat.zero_add];apply hK;clear hK K;refine WR [4] mixed (by kernel_rfl) (by rfl) fun K hK=>?_;simp+decide only[ev,putD,Slots.put,Slots.get,if_true,if_false,true_and,↓qcU,qc,↓qcd,qM,Qn,↓Uy,qm,YL,↓qeB,XF,qy ag3,UY,qy UJ,↓vp_len,QD,ZI Tryz.underlying26,↓vp_binOp,ql,qR,cond_false,qo,XP,↓vg_move,vgP,qcy,qL,qI,qz,implies_true,↓qdG,qaY,qaZ,↓qac,Zl,Zm,↓vg_load,UL,cv_load,cp_load,↓vg_indexAddr,Qb Tryz.underlying26 Xa,cv_iaddrl,cv_iaddrr,cp_iaddrl,cp_iaddrr,fa54_0,qy ag52,List.getD_cons_zero,List.getD_cons_succ,Nat.zero_add,qi,rx,hlv,e0,Int.toNat_natCast,Nat.add_zero];repeat (with_reducible refine And.intro ?_ ?_;· first|trivial|omega|(intro hg;simp only[Bool.and_eq_true,Bool.or_eq_true,Bool.not_eq_true',Bool.and_eq_false_iff,Bool.or_eq_false_iff,Bool.not_eq_false',decide_eq_true_eq,decide_eq_false_iff_not,XV]at hg;omega))
 refine qcV (V:= .bool (ks.contains (l.getD i Zy).kind)) (f:=_) (cap:=_) (xs:=_) (by first|rfl|(simp+decide only[gv,qL,Slots.get,if_true,if_false,QZ,qI])) (fun hg=>⟨rfl,?_⟩) (fun hg=>c_containsK wz _ kv ks _ hkv hks) ?_
 ·try simp+decide only[gv,qL,Slots.get,if_true,if_false,qz]at hg
  simp+decide only[evs,ev,Slots.get,if_true,if_false,hg,Qv,List.append_nil,List.map_cons,List.map_nil]
 simp+decide only[qbB,ev,qH,qF,putD,Slots.put,Slots.get,Slots.keep,if_true,if_false,true_and,gv,qL,qz,↓vp_pick,Qu,Qh,Xg,Xp,↓qcw,qb];apply hK;clear hK K;refine qO ?_;refine Qa h zqC (qZ (Qd)) ?_;simp+decide only[Slots.get,if_true,and_true,Qr];rw[decide_eq_true (by omega),Bool.true_and]
theorem c_isOut(wz:World)(h:AHeap)(kp:Nat)(v:AVal)(l:List TokC)(i:Nat)(kv:AVal)(ks:List UInt8)(hk:h kp=some (parB v i))(hv:IsL wz h 5 v (l.map QK))(hlk:kv.live=true)(hi:¬i<l.length):
 ACall Tryz.prog wz 66 [.ptr (.own kp) 0,kv] h (fun r h'=>r= .bool (XB l i ks)/\h'=h):=by
 have rx:=fun o=>Qy wz hk o;unfold parB at rx;have hlv:=hv.live;have nv:=Zp hv;have hki:XB l i ks=false:=by unfold XB;rw[decide_eq_false hi,Bool.false_and]
 rw[hki];have hge:¬((i:Int)<l.length):=by omega
 refine qU (n:=30) (rs:=[.tmp 4]) Tryz.func66 rfl rfl rfl rfl (Nat.le_of_ble_eq_true rfl) ?_;simp only[Qe];refine awp_rseq [0,1] (by rfl) fun K hK=>?_;simp+decide only[qa,ev,qH,qF,putD,Slots.put,Slots.keep,if_true,if_false,true_and,↓qd,qb,Nat.zero_add];apply hK;clear hK K;refine WR [4] mixed (by kernel_rfl) (by rfl) fun K hK=>?_;simp+decide only[ev,putD,Slots.put,Slots.get,if_true,if_false,true_and,↓qcU,qc,↓qcd,qM,Qn,↓Uy,qm,YL,↓qeB,XF,qy ag3,UY,qy UJ,↓vp_len,QD,↓vp_binOp,ql,qR,cond_false,qo,XP,↓vg_move,vgP,qcy,qL,qI,qz,implies_true,decide_false,ZC,false_implies,↓qdG,↓qac,↓vg_load,UL,↓vg_indexAddr,List.getD_cons_zero,List.getD_cons_succ,Nat.zero_add,qi,rx,hlv,nv,hge];refine vOps_gno (by rfl) ?_;simp+decide only[qbB,ev,qH,qF,putD,Slots.put,Slots.get,Slots.keep,if_true,if_false,true_and,↓vp_pick,Qu,Qh,↓qcw,qb];apply hK;clear hK K;refine qO ?_;refine Qa h zqC (qZ (Qd)) ?_;simp+decide only[Slots.get,if_true,and_true,Qr];all_goals first|rfl|exact⟨rfl,rfl⟩|(simp+decide only[if_true,if_false, *];done)|(trace_state;fail)
theorem c_is(wz:World)(h:AHeap)(kp:Nat)(v:AVal)(l:List TokC)(i:Nat)(kv:AVal)(ks:List UInt8)(hk:h kp=some (parB v i))(hv:IsL wz h 5 v (l.map QK))(hkv:IsL wz h 1 kv (ks.map Uf))(hks:ks.length<=1000):
 ACall Tryz.prog wz 66 [.ptr (.own kp) 0,kv] h (fun r h'=>r= .bool (XB l i ks)/\h'=h):=by
 by_cases hi:i<l.length
 ·exact c_isIn wz h kp v l i kv ks hk hv hkv hks hi
 ·exact c_isOut wz h kp v l i kv ks hk hv hkv.live hi
end Go.Proofs.YtlhhaagmakhilaaGreatDoor
namespace Go.Proofs.YtlhhaagmakhilaaGreatDoor
open Go.AM
open Go.Proofs
open Go.Col
open Go.Tok
open Go.Cop
open Go.RowKit (Below)
set_option maxRecDepth 100000
theorem set_id{h:AHeap}{k:Nat}{b:Blk}(hk:h k=some b):h.set k b=h:=by
 funext j;by_cases e:j=k
 ·subst e;rw[AHeap.set_same,hk]
 ·rw[AHeap.set_ne _ _ e]
theorem qbj{wz:World}{H:AHeap}{k:Nat}{ks:List UInt8}(hk:H k=some ⟨byteCells ks,0⟩):IsL wz H 1 (.slice (.own k) 0 ks.length (.exact ks.length)) (ks.map Uf):=by
 have hw:∀x∈ks.map Uf,x.length=1:=fun x hx=>by obtain⟨y,_,rfl⟩:=List.mem_map.1 hx;rfl
 have hc:byteCells ks=(ks.map Uf).flatten:=by
  clear hk hw;induction ks with
  |nil=>rfl
  |cons k ks ih=>rw[List.map_cons,List.flatten_cons,<-ih];rfl
 have:=IsL.own (wz:=wz) (es:=1) (xs:=ks.map Uf) hk hw hc (by rw[ZW];intro x hx;obtain⟨y,_,rfl⟩:=List.mem_map.1 hx;rfl) (.exact ks.length) (by simp)
 rwa [List.length_map]at this
theorem c_wordPIn(wz:World)(h:AHeap)(kp:Nat)(v:AVal)(l:List TokC)(i:Nat)(s:Str)(eb_p:h kp=some ⟨[v, .int .i64 i],0⟩)(hv:IsL wz h 5 v (l.map QK))(hl:l.length<=1099511627776)(hi:i<l.length):
 ACall Tryz.prog wz 51 [.ptr (.own kp) 0, .str s] h (fun r h'=>r= .bool (XL l i s)/\h'=h.set kp ⟨[v, .int .i64 ((if XL l i s=true then i+1 else i:Nat):Int)],0⟩):=by
 have hs_h:Sub h h:=Sub.refl h;have hlv:=hv.live;have nv:=Zp hv;obtain⟨lc,o,c,rfl⟩:=Ui hv (by omega);have hki:XL l i s=(XB l i [1] && decide ((l.getD i Zy).text=s)):=rfl;obtain⟨kb,hkb⟩:∃kb,kb=XB l i [1]:=⟨_,rfl⟩
 rw[<-hkb]at hki;rw[hki];refine qU (n:=31) (rs:=[.tmp 4]) Tryz.func51 rfl rfl rfl rfl (Nat.le_of_ble_eq_true rfl) ?_;simp only[Qe];refine awp_rseq [0,1] (by rfl) fun K hK=>?_;simp+decide only[qa,ev,qH,qF,putD,Slots.put,Slots.keep,if_true,if_false,true_and,↓qd,qb,Nat.zero_add];apply hK;clear hK K;refine qK ?_;refine qdw [0,1,2,3,4,5,6,7,8,9,10,11,12,13,14,15,16,17,18] [none,none,some 1,some 2,some 3,some 4,some 5,some 6,some 7,some 4,some 9,some 10,some 11,some 8,some 13,some 14,some 4,some 15,some 4] 19 [0,23] mixed (by kernel_rfl) (by rfl) fun K hK=>?_;simp only[Yb,List.filterMap_cons,List.filterMap_nil,List.getElem?_cons_zero,List.getElem?_cons_succ];simp+decide only[qa,ev,putD,Slots.put,Slots.get,if_true,if_false,true_and,qbv,qbS,Uc,↓qh,qc];refine Qm (cs:=byteCells [1]) (by kernel_rfl) fun k1q1 hk1q1=>?_;have hn_1q1:h k1q1=none:=by first|assumption|(simp only[AHeap.set_none]at hk1q1;simp only[hk1q1])
 have hf_1q1:h k1q1=none:=Sub.none hs_h hn_1q1;have ne_1q1_p:k1q1≠kp:=AHeap.ne_some hn_1q1 eb_p;rw[qa];refine And.intro (by first|exact Sub.refl _|assumption|exact Sub.set (by assumption)) ?_;simp+decide only[putD,Slots.put,if_false];refine qN (V:= .bool kb) (by rfl) (by rfl) (by rw[hkb];exact c_is wz _ kp _ l i _ [1] zqA (hv.mono zqB) (qbj (k:=k1q1) (ks:=[1]) zqA) (by decide)) ?_;rw[qa];refine And.intro (by first|exact Sub.refl _|assumption|exact Sub.set (by assumption)) ?_;simp+decide only[qa,ev,qH,qF,putD,Slots.put,Slots.get,Slots.keep,if_true,if_false,true_and,Uc,↓YA,XU,Yi,qc,↓Xf,agP,Qs,qL,qI,Qf,implies_true,Bool.not_not,↓ZY,qM,Qn,qaY,qaZ,↓XC,qm,UY,Zl,Zm,↓Zr,Za,WS,agL_ld5,qy UJ,YL,qy ag3,↓Yg,agL_il5,agL_ir5,Qb Tryz.underlying26 Xa,UI,qy ag9,↓Xb,ql,qR,cond_false,Zc,qbm,Zd,qbo,XZ,qfz,↓QT,Qu,Qh,qfl,ZK,QO,ne_eq,not_false_eq_true,ne_1q1_p.symm,Qy wz eb_p,List.getD_cons_zero,List.getD_cons_succ,Nat.zero_add,qi,qE,hlv,Int.toNat_natCast,Nat.add_zero,(qaw (hv.mono (Sub.set hn_1q1)) hi).2.1];repeat (with_reducible refine And.intro ?_ ?_;· first|trivial|omega|(intro hg;simp only[Bool.and_eq_true,Bool.or_eq_true,Bool.not_eq_true',Bool.and_eq_false_iff,Bool.or_eq_false_iff,Bool.not_eq_false',decide_eq_true_eq,decide_eq_false_iff_not,XV]at hg;omega))
 apply hK;clear hK K;refine qJ (b:=_) rfl (fun hb1=>?_) (fun hb1=>?_)
 ·try simp only[decide_eq_false_iff_not,Bool.not_eq_true',Bool.or_eq_true]at hb1
  refine awp_rseq [4] (by rfl) fun K hK=>?_;simp+decide only[qa,ev,qH,qF,putD,Slots.put,Slots.keep,if_true,if_false,true_and,↓qd,qb];apply hK;clear hK K;refine qO ?_;try simp only[Qi]
  refine QR (qZ (Qd)) ?_;simp+decide only[Slots.get,if_true,Qr];have hf:(kb && decide ((l.getD i Zy).text=s))=false:=by
   rcases hb1 with q|q
   ·rw[q];rfl
   ·rw[decide_eq_false q,Bool.and_false]
  exact⟨h,Sub.set hn_1q1,by rw[hf],by rw[hf];exact(set_id eb_p).symm⟩
 ·try simp only[decide_eq_true_eq,Bool.not_eq_false',Bool.or_eq_false_iff]at hb1
  refine qP ?_;change Awp _ _ _ _ _ _ _;refine awp_rseq [] (by rfl) fun K hK=>?_;simp+decide only[ev,qH,qF,putD,Slots.put,Slots.get,if_true,if_false,true_and,↓qh,qc,↓Qk,qM,Qn,↓qC,qm,YL,↓qG,qY,qy ag3,↓qA,ql,qB,cond_false,qo,QY,QO,ne_eq,not_false_eq_true,ne_1q1_p.symm,Qy wz eb_p,List.getD_cons_zero,List.getD_cons_succ,Nat.zero_add,qi];try simp(disch:=omega)only[wrap_i64]
  refine qp (by rfl) (by rfl) zqA sz3 (by rfl) (by rfl) zqD (Nat.zero_le _) (by rfl) ?_;simp only[AVal.cells];simp+decide only[qa,ev,putD,Slots.get,Slots.keep,if_true,if_false,setAt,List.set_cons_zero,List.set_cons_succ];apply hK;clear hK K;refine awp_rseq [4] (by rfl) fun K hK=>?_;simp+decide only[qa,ev,qH,qF,putD,Slots.put,Slots.keep,if_true,true_and,↓qd,qb];apply hK;clear hK K;refine qO ?_;refine QR (qZ (Qd)) ?_;simp+decide only[Slots.get,if_true,Qr];have hf:(kb && decide ((l.getD i Zy).text=s))=true:=by
   simp only[Bool.and_eq_true,decide_eq_true_eq];simpa using hb1
  exact⟨h.set kp ⟨[.slice lc o l.length c, .int .i64 ((i+1:Nat):Int)],0⟩,Sub.set_both (Sub.set hn_1q1) _ _,by rw[hf],by rw[hf];rfl⟩
theorem c_wordPOut(wz:World)(h:AHeap)(kp:Nat)(v:AVal)(l:List TokC)(i:Nat)(s:Str)(eb_p:h kp=some ⟨[v, .int .i64 i],0⟩)(hv:IsL wz h 5 v (l.map QK))(hi:¬i<l.length):
 ACall Tryz.prog wz 51 [.ptr (.own kp) 0, .str s] h (fun r h'=>r= .bool (XL l i s)/\h'=h.set kp ⟨[v, .int .i64 ((if XL l i s=true then i+1 else i:Nat):Int)],0⟩):=by
 have hs_h:Sub h h:=Sub.refl h;have hlv:=hv.live;have nv:=Zp hv;have hk0:XB l i [1]=false:=by unfold XB;rw[decide_eq_false hi,Bool.false_and]
 have hki:XL l i s=false:=by unfold XL;rw[hk0,Bool.false_and]
 rw[hki];refine qU (n:=31) (rs:=[.tmp 4]) Tryz.func51 rfl rfl rfl rfl (Nat.le_of_ble_eq_true rfl) ?_;simp only[Qe];refine awp_rseq [0,1] (by rfl) fun K hK=>?_;simp+decide only[qa,ev,qH,qF,putD,Slots.put,Slots.keep,if_true,if_false,true_and,↓qd,qb,Nat.zero_add];apply hK;clear hK K;refine qK ?_;refine qdw [0,1,2,3,4,5,6,7,8,9,10,11,12,13,14,15,16,17,18] [none,none,some 1,some 2,some 3,some 4,some 5,some 6,some 7,some 4,some 9,some 10,some 11,some 8,some 13,some 14,some 4,some 15,some 4] 19 [0,23] mixed (by kernel_rfl) (by rfl) fun K hK=>?_;simp only[Yb,List.filterMap_cons,List.filterMap_nil,List.getElem?_cons_zero,List.getElem?_cons_succ];simp+decide only[qa,ev,putD,Slots.put,Slots.get,if_true,if_false,true_and,qbv,qbS,Uc,↓qh,qc];refine Qm (cs:=byteCells [1]) (by kernel_rfl) fun k1q1 hk1q1=>?_;have hn_1q1:h k1q1=none:=by first|assumption|(simp only[AHeap.set_none]at hk1q1;simp only[hk1q1])
 have hf_1q1:h k1q1=none:=Sub.none hs_h hn_1q1;have ne_1q1_p:k1q1≠kp:=AHeap.ne_some hn_1q1 eb_p;rw[qa];refine And.intro (by first|exact Sub.refl _|assumption|exact Sub.set (by assumption)) ?_;simp+decide only[putD,Slots.put,if_false];refine qN (V:= .bool false) (by rfl) (by rfl) (by rw[<-hk0];exact c_is wz _ kp _ l i _ [1] zqA (hv.mono zqB) (qbj (k:=k1q1) (ks:=[1]) zqA) (by decide)) ?_;rw[qa];refine And.intro (by first|exact Sub.refl _|assumption|exact Sub.set (by assumption)) ?_;simp+decide only[qa,ev,qH,qF,putD,Slots.put,Slots.get,Slots.keep,if_true,if_false,true_and,Uc,↓YA,XU,Yi,qc,↓Xf,agP,Qs,qL,qI,Qf,implies_true,Bool.not_false,Bool.not_true,ZC,false_implies,qbI,qfc,↓ZY,qM,↓XC,qm,↓Zr,Za,↓Yg,↓Xb,ql,qR,cond_false,↓QT,Qu,Qh];apply hK;clear hK K;refine qJ (b:=_) rfl (fun hb1=>?_) (fun hb1=>?_)
 ·try simp only at hb1
  refine awp_rseq [4] (by rfl) fun K hK=>?_;simp+decide only[qa,ev,qH,qF,putD,Slots.put,Slots.keep,if_true,if_false,true_and,↓qd,qb];apply hK;clear hK K;refine qO ?_;try simp only[Qi]
  refine Qa h zqC (qZ (Qd)) ?_;simp+decide only[Slots.get,if_true,if_false,true_and,Qr];exact(set_id eb_p).symm
 ·exact absurd hb1 (by decide)
theorem c_wordP(wz:World)(h:AHeap)(kp:Nat)(v:AVal)(l:List TokC)(i:Nat)(s:Str)(eb_p:h kp=some ⟨[v, .int .i64 i],0⟩)(hv:IsL wz h 5 v (l.map QK))(hl:l.length<=1099511627776):
 ACall Tryz.prog wz 51 [.ptr (.own kp) 0, .str s] h (fun r h'=>r= .bool (XL l i s)/\h'=h.set kp ⟨[v, .int .i64 ((if XL l i s=true then i+1 else i:Nat):Int)],0⟩):=by
 by_cases hi:i<l.length
 ·exact c_wordPIn wz h kp v l i s eb_p hv hl hi
 ·exact c_wordPOut wz h kp v l i s eb_p hv hi
end Go.Proofs.YtlhhaagmakhilaaGreatDoor
namespace Go.Proofs.YtlhhaagmakhilaaGreatDoor
open Go.AM
open Go.Proofs
open Go.Col
open Go.Tok
open Go.Cop
open Go.RowKit (Below)
set_option maxRecDepth 100000
def qfm(v:AVal)(o:Opd):AVal:=if o.ok=true then subL 5 v o.lo o.hi else .nilSlice
theorem pseudo_step{l:List TokC}{i:Nat}(hi:i<l.length):(ZE l i=if (l.getD i noT).kind=7 then i else ZE l (i+1)):=by
 unfold ZE;rw[qeT noT hi,List.takeWhile_cons];split
 ·rename_i h
  rw[if_neg (by simpa using h),List.length_cons];omega
 ·rename_i h
  rw[if_pos (by simpa using h)];rfl
theorem pseudo_end{l:List TokC}{i:Nat}(hi:l.length<=i):ZE l i=i:=by
 unfold ZE;rw[List.drop_eq_nil_of_le hi];rfl
theorem kind_seven{l:List TokC}{i:Nat}(hi:i<l.length):XB l i [7]=decide ((l.getD i noT).kind=7):=by
 unfold XB;rw[decide_eq_true hi,Bool.true_and];simp
set_option maxHeartbeats 1000000 in
theorem c_operandB(wz:World)(B:AHeap)(kp:Nat)(v:AVal)(l:List TokC)(i:Nat)(e:Bool)(hb:B kp=none)(hv:IsL wz B 5 v (l.map QK))(hl:l.length<=1099511627776)(hi:i<=l.length):
 ACall Tryz.prog wz 85 [.ptr (.own kp) 0, .bool e] (B.set kp ⟨[v, .int .i64 i],0⟩) (fun r h'=>r= .tuple [qfm v (Xd l i e), .bool (Xd l i e).ok]/\h'=B.set kp ⟨[v, .int .i64 (Xd l i e).at_],0⟩):=by
 have hlv:=hv.live;have nv:=Zp hv;obtain⟨H0,hH0⟩:∃H0,H0=B.set kp ⟨[v, .int .i64 i],0⟩:=⟨_,rfl⟩
 have hs_H0:Sub B H0:=by rw[hH0];exact Sub.set hb
 have eb_p:H0 kp=some ⟨[v, .int .i64 i],0⟩:=by rw[hH0];exact AHeap.set_same _ _ _
 rw[<-hH0];obtain⟨k1,hk1⟩:∃k,k=XB l i [1,2,3]:=⟨_,rfl⟩
 obtain⟨k2,hk2⟩:∃k,k=XB l i [7]:=⟨_,rfl⟩
 obtain⟨O,ho⟩:∃O,O=Xd l i e:=⟨_,rfl⟩
 rw[<-ho];unfold Xd at ho;rw[<-hk1,<-hk2]at ho;refine qU (n:=107) (rs:=[.tmp 4, .tmp 5]) Tryz.func85 rfl rfl rfl rfl (Nat.le_of_ble_eq_true rfl) ?_;simp only[Qe];refine awp_rseq [0,1] (by rfl) fun K hK=>?_;simp+decide only[qa,ev,qH,qF,putD,Slots.put,Slots.keep,if_true,if_false,true_and,↓qd,qb,Nat.zero_add];apply hK;clear hK K;refine awp_rseq [0,1,6] (by rfl) fun K hK=>?_;simp+decide only[qa,ev,putD,Slots.put,Slots.get,Slots.keep,if_true,if_false,true_and,↓qh,qc,↓Qk,qM,Qn,↓qC,qm,YL,↓qG,qY,qy ag3,↓qd,qb,Qy wz eb_p,List.getD_cons_zero,List.getD_cons_succ,Nat.zero_add,qi];apply hK;clear hK K;refine qK ?_;refine awp_rseq [0,1,6,13] (by rfl) fun K hK=>?_;simp+decide only[ev,putD,Slots.put,Slots.get,if_true,if_false,true_and,↓qh,qc];refine Qm (cs:=byteCells [1,2,3]) (by kernel_rfl) fun k2q1 hk2q1=>?_;have hn_2q1:H0 k2q1=none:=by first|assumption|(simp only[AHeap.set_none]at hk2q1;simp only[hk2q1])
 have hf_2q1:B k2q1=none:=Sub.none hs_H0 hn_2q1;have ne_2q1_p:k2q1≠kp:=AHeap.ne_some hn_2q1 eb_p;refine qN (V:= .bool k1) (by rfl) (by rfl) (by rw[hk1];exact c_is wz _ kp _ l i _ [1,2,3] zqA (hv.mono zqB) (qbj (k:=k2q1) (ks:=[1,2,3]) zqA) (by decide)) ?_;simp+decide only[qa,putD,Slots.put,Slots.keep,if_true,if_false];apply hK;clear hK K;refine qJ (b:=_) rfl (fun hb1=>?_) (fun hb1=>?_)
 ·skip
  have hlt:i<l.length:=UB (hk1.symm.trans hb1);have hsl:=hv.slice Tryz.underlying26 Xa (some (.int .i64 i)) (some (.int .i64 ((i:Int)+1))) (l:=i) (r:=(i:Int)+1) rfl rfl (by omega) (by omega) (by rw[List.length_map];omega);refine awp_rseq [0,6] (by rfl) fun K hK=>?_;simp+decide only[ev,qH,qF,putD,Slots.put,Slots.get,if_true,if_false,true_and,↓qh,qc,↓Qk,qM,Qn,↓qC,qm,YL,↓qG,qY,qy ag3,↓qA,ql,qB,cond_false,qo,QY,QO,ne_eq,not_false_eq_true,ne_2q1_p.symm,Qy wz eb_p,List.getD_cons_zero,List.getD_cons_succ,Nat.zero_add,qi];try simp(disch:=omega)only[wrap_i64]
  refine qp (by rfl) (by rfl) zqA sz3 (by rfl) (by rfl) zqD (Nat.zero_le _) (by rfl) ?_;simp only[AVal.cells];simp+decide only[qa,ev,putD,Slots.get,Slots.keep,if_true,if_false,setAt,List.set_cons_zero,List.set_cons_succ];apply hK;clear hK K;refine Zn [4,5] mixed (by kernel_rfl) (by rfl) (by rfl) fun K hK=>?_;simp+decide only[qa,ev,qH,qF,putD,Slots.put,Slots.get,Slots.keep,if_true,if_false,true_and,↓qh,qc,↓Qk,qM,Qn,↓qC,qm,UY,↓qG,qY,qy UJ,YL,qy ag3,↓Ua,Zu,evO,↓qd,qb,QP,List.getD_cons_zero,List.getD_cons_succ,Nat.zero_add,qi,hlv,hsl];apply hK;clear hK K;refine qO ?_;try simp only[Qi]
  refine QR (qZ (qZ (Qd))) ?_;simp+decide only[Slots.get,if_true,if_false,Wy];rw[if_pos hb1]at ho;refine⟨B.set kp ⟨[v, .int .i64 ((i:Int)+1)],0⟩,?_,?_,?_⟩
  ·exact Sub.set_both zqB _ _
  ·rw[ho];rfl
  ·rw[ho];rfl
 ·skip
  refine qP ?_;change Awp _ _ _ _ _ _ _;refine qK ?_;refine awp_rseq [0,1,6,34] (by rfl) fun K hK=>?_;simp+decide only[ev,putD,Slots.put,Slots.get,if_true,if_false,true_and,↓qh,qc];refine Qm (cs:=byteCells [7]) (by kernel_rfl) fun k5q1 hk5q1=>?_;have ne_5q1_2q1:k5q1≠k2q1:=by simp only[AHeap.set_none]at hk5q1;simp only[hk5q1,ne_eq,not_false_eq_true]
  have hn_5q1:H0 k5q1=none:=by first|assumption|(simp only[AHeap.set_none]at hk5q1;simp only[hk5q1])
  have hf_5q1:B k5q1=none:=Sub.none hs_H0 hn_5q1;have ne_5q1_p:k5q1≠kp:=AHeap.ne_some hn_5q1 eb_p;refine qN (V:= .bool k2) (by rfl) (by rfl) (by rw[hk2];exact c_is wz _ kp _ l i _ [7] zqA (hv.mono zqB) (qbj (k:=k5q1) (ks:=[7]) zqA) (by decide)) ?_;simp+decide only[qa,ev,putD,Slots.put,Slots.get,Slots.keep,if_true,if_false,true_and,↓YA,XU,Yi];apply hK;clear hK K;refine qJ (b:=_) rfl (fun hb2=>?_) (fun hb2=>?_)
  ·try simp only[Bool.not_eq_true']at hb2
   refine awp_rseq [4,5] (by rfl) fun K hK=>?_;simp+decide only[qa,ev,qH,qF,putD,Slots.put,Slots.keep,if_true,if_false,true_and,↓qd,qb];apply hK;clear hK K;refine qO ?_;try simp only[Qi]
   refine QR (qZ (qZ (Qd))) ?_;simp+decide only[Slots.get,if_true,if_false,Wy];rw[if_neg (by rw[hb1];decide),if_pos (by simpa using hb2)]at ho;refine⟨H0,zqB,?_,?_⟩
   ·rw[ho];rfl
   ·rw[ho];exact hH0
  ·try simp only[Bool.not_eq_false']at hb2
   have hlt:i<l.length:=UB (ks:=[7]) (by rw[<-hk2];simpa using hb2);rw[if_neg (by rw[hb1];decide),if_neg (by simpa using hb2)]at ho;refine qP ?_;change Awp _ _ _ _ _ _ _;refine awp_rseq [0,1,6] (by rfl) fun K hK=>?_;simp+decide only[ev,qH,qF,putD,Slots.put,Slots.get,if_true,if_false,true_and,↓qh,qc,↓Qk,qM,Qn,↓qC,qm,YL,↓qG,qY,qy ag3,↓qA,ql,qB,cond_false,qo,QY,QO,ne_eq,not_false_eq_true,ne_2q1_p.symm,ne_5q1_p.symm,Qy wz eb_p,List.getD_cons_zero,List.getD_cons_succ,Nat.zero_add,qi];try simp(disch:=omega)only[wrap_i64]
   refine qp (by rfl) (by rfl) zqA sz3 (by rfl) (by rfl) zqD (Nat.zero_le _) (by rfl) ?_;simp only[AVal.cells];simp+decide only[qa,ev,putD,Slots.get,Slots.keep,if_true,if_false,setAt,List.set_cons_zero,List.set_cons_succ];apply hK;clear hK K;refine qK ?_;refine Ql ?_;refine Xv [0,1,6] (fun j:Nat=>[(0, .ptr (.own kp) 0),(1, .bool e),(6, .int .i64 i)]) (fun j:Nat=>B.set kp ⟨[v, .int .i64 j],0⟩) (fun j:Nat=>i+1<=j/\j<=l.length/\ZE l j=ZE l (i+1)) (fun j:Nat=>l.length-j) (i+1) (by rfl) (Sub.set_both zqB _ _) ⟨Nat.le_refl _,hlt,rfl⟩ ?_;rintro j ⟨hj1,hj2,hj3⟩;obtain⟨H1,hH1⟩:∃H1,H1=B.set kp ⟨[v, .int .i64 j],0⟩:=⟨_,rfl⟩
   have hs_H1:Sub B H1:=by rw[hH1];exact Sub.set hb
   have eb_p:H1 kp=some ⟨[v, .int .i64 j],0⟩:=by rw[hH1];exact AHeap.set_same _ _ _
   rw[<-hH1];refine qK ?_;refine qdw [0,1,2,3,4,5,6,7,8,9,10,11,12,13,14,15] [none,none,none,none,none,none,none,none,none,none,none,none,none,some 12,some 13,some 14] 16 [0,1,6,57] mixed (by kernel_rfl) (by rfl) fun K hK=>?_;simp only[Yb,List.filterMap_cons,List.filterMap_nil,List.getElem?_cons_zero,List.getElem?_cons_succ];simp+decide only[qa,ev,putD,Slots.put,Slots.get,if_true,if_false,true_and,qbv,qbS,Uc,↓qh,qc,↓Qk,qM,Qn,↓qC,qm,YL,↓qG,qY,qy ag3,UY,qy UJ,↓Xo,QD,↓qA,ql,qR,cond_false,qo,XP,↓Xf,agP,Qs,qL,qI,qz,implies_true,Qy wz eb_p,List.getD_cons_zero,List.getD_cons_succ,Nat.zero_add,qi,hlv,nv];refine aOps_gbuild (cs:=byteCells [7]) (g:= .bool (decide ((j:Int)<l.length))) (by rfl) (by rfl) (fun _=>by kernel_rfl) fun k8q12 h8q12 hs8 hb8=>?_;have hs_h8q12:Sub B h8q12:=Sub.trans zqC hs8;have hr_h8q12:Sub H1 h8q12:=Sub.trans zqC hs8;have eb_p:=hs8 kp _ zqA;rw[qa];refine And.intro (by first|exact Sub.refl _|assumption|exact Sub.set (by assumption)) ?_;simp+decide only[putD,Slots.put,if_false,qz];first
   |(refine Yv (by rfl) ?_;refine qN (V:= .bool (XB l j [7])) (by rfl) (by rfl) (by
    have hq0:(decide ((j:Int)<l.length)==true)=true:=hg;have hq:decide ((j:Int)<l.length)=true:=by simpa using hq0
    exact c_is wz _ kp _ l j _ [7] zqA (hv.mono zqB) (qbj (k:=k8q12) (ks:=[7]) (hb8 hq0)) (by decide)) ?_)
   |(refine UT (by rfl) (by rfl) ?_)
   |(refine Zb (V:= .bool (XB l j [7])) (f:=_) (cap:=_) (xs:=_) (by first|rfl|(simp+decide only[gv,qL,Slots.get,if_true,if_false,QZ,qI])) (fun hg=>⟨rfl,?_⟩) (fun hg=>by
    have hq0:(decide ((j:Int)<l.length)==true)=true:=hg;have hq:decide ((j:Int)<l.length)=true:=by simpa using hq0
    exact c_is wz _ kp _ l j _ [7] zqA (hv.mono zqB) (qbj (k:=k8q12) (ks:=[7]) (hb8 hq0)) (by decide)) ?_;· (simp+decide only[gv,qL,Slots.get,if_true,if_false,qz]at hg;simp+decide only[evs,ev,Slots.get,if_true,if_false,hg,Qv,List.append_nil,List.map_cons,List.map_nil]<;>try rfl))
   rw[qa];refine And.intro (by first|exact Sub.refl _|assumption|exact Sub.set (by assumption)) ?_;simp+decide only[qa,ev,qH,qF,putD,Slots.put,Slots.get,Slots.keep,if_true,if_false,true_and,Uc,gv,qL,qz,↓qcm,XU,agP,Qs,qI,implies_true,Yi,cv_un,cp_un,↓QT,Qu,Qh,Xg,Xp];apply hK;clear hK K;refine qJ (b:=_) rfl (fun hb3=>?_) (fun hb3=>?_)
   ·try simp only[decide_eq_true_eq,Bool.not_eq_true',Bool.and_eq_true]at hb3
    have hj4:j<l.length:=by omega
    have hst:=pseudo_step hj4;have hk8:=kind_seven hj4;rw[hb3.2]at hk8;rw[if_neg (by simpa using hk8.symm)]at hst;refine qP ?_;change Awp _ _ _ _ _ _ _;refine Ql ?_;refine XA [0,1,6] (by rfl) ?_;simp+decide only[ev,qH,qF,putD,Slots.put,Slots.get,if_true,if_false,true_and,↓qh,qc,↓Qk,qM,Qn,↓qC,qm,YL,↓qG,qY,qy ag3,↓qA,ql,qB,cond_false,qo,QY,Qy wz eb_p,List.getD_cons_zero,List.getD_cons_succ,Nat.zero_add,qi];try simp(disch:=omega)only[wrap_i64]
    refine qp (by rfl) (by rfl) zqA sz3 (by rfl) (by rfl) zqD (Nat.zero_le _) (by rfl) ?_;simp only[AVal.cells];simp+decide only[qa,ev,putD,Slots.get,Slots.keep,if_true,if_false,setAt,List.set_cons_zero,List.set_cons_succ];try simp only[Qg,YO]
    exact⟨j+1,rfl,Sub.set_both zqB _ _,⟨by omega,hj4,by rw[<-hst];exact hj3⟩,by omega⟩
   ·try simp only[decide_eq_false_iff_not,Bool.not_eq_false',Bool.and_eq_false_iff]at hb3
    have hje:ZE l (i+1)=j:=by
     rw[<-hj3];rcases Nat.lt_or_ge j l.length with hj4|hj4
     ·have hk8:=kind_seven hj4
      rcases hb3 with q|q
      ·omega
      ·rw[q]at hk8
       rw[pseudo_step hj4,if_pos (by simpa using hk8.symm)]
     ·exact pseudo_end hj4
    rw[hje]at ho;refine Xy ?_;change Awp _ _ _ _ _ _ _;refine qK ?_;refine Zn [0,6,87] mixed (by kernel_rfl) (by rfl) (by rfl) fun K hK=>?_;simp+decide only[qa,ev,qH,qF,putD,Slots.put,Slots.get,Slots.keep,if_true,if_false,true_and,↓qh,qc,↓Qk,qM,Qn,↓qC,qm,YL,↓qG,qY,qy ag3,UY,qy UJ,↓Xo,QD,↓qA,ql,qR,cond_false,qo,XR,↓Xf,agP,Qs,qL,qI,QZ,YF,qz,Qf,cv_cv,implies_true,↓qcm,XU,Yi,cv_un,cp_un,↓ZY,qaY,qaZ,↓XC,Zl,Zm,↓Zr,Za,WS,agL_ld3,↓Xb,qB,Zc,qbm,Zd,qbo,QY,↓ag_pick,Qu,Qh,Zh,cp_nest1,Xp,ZK,cv_pick,cp_pick,↓QT,Qy wz eb_p,List.getD_cons_zero,List.getD_cons_succ,Nat.zero_add,qi,hlv,nv];try simp(disch:=omega)only[wrap_i64]
    apply hK;clear hK K;refine qJ (b:=_) rfl (fun hb4=>?_) (fun hb4=>?_)
    ·try simp only[decide_eq_true_eq,Bool.not_eq_true',Bool.and_eq_true,Bool.or_eq_true]at hb4
     refine awp_rseq [4,5] (by rfl) fun K hK=>?_;simp+decide only[qa,ev,qH,qF,putD,Slots.put,Slots.keep,if_true,if_false,true_and,↓qd,qb];apply hK;clear hK K;refine qO ?_;try simp only[Qi]
     refine QR (qZ (qZ (Qd))) ?_;simp+decide only[Slots.get,if_true,if_false,Wy];rw[if_pos (by
      rcases hb4 with q|⟨q1,q2⟩
      ·left;omega
      ·exact .inr ⟨q1,by omega⟩)]at ho
     refine⟨H1,zqB,?_,?_⟩
     ·rw[ho];rfl
     ·rw[ho];exact hH1
    ·try simp only[decide_eq_false_iff_not,Bool.not_eq_false',Bool.and_eq_false_iff,Bool.or_eq_false_iff]at hb4
     rw[if_neg (by
      rintro(q|⟨q1,q2⟩)
      ·omega
      ·obtain⟨-,z⟩:=hb4
       rcases z with z|z
       ·rw[q1]at z;cases z
       ·omega)]at ho
     have hsl:=hv.slice Tryz.underlying26 Xa (some (.int .i64 ((i:Int)+1))) (some (.int .i64 (j:Int))) (l:=(i:Int)+1) (r:=(j:Int)) rfl rfl (by omega) (by omega) (by rw[List.length_map];omega);refine qP ?_;change Awp _ _ _ _ _ _ _;refine awp_rseq [0,6] (by rfl) fun K hK=>?_;simp+decide only[ev,qH,qF,putD,Slots.put,Slots.get,if_true,if_false,true_and,↓qh,qc,↓Qk,qM,Qn,↓qC,qm,YL,↓qG,qY,qy ag3,↓qA,ql,qB,cond_false,qo,QY,Qy wz eb_p,List.getD_cons_zero,List.getD_cons_succ,Nat.zero_add,qi];try simp(disch:=omega)only[wrap_i64]
     refine qp (by rfl) (by rfl) zqA sz3 (by rfl) (by rfl) zqD (Nat.zero_le _) (by rfl) ?_;simp only[AVal.cells];simp+decide only[qa,ev,putD,Slots.get,Slots.keep,if_true,if_false,setAt,List.set_cons_zero,List.set_cons_succ];apply hK;clear hK K;refine Zn [4,5] mixed (by kernel_rfl) (by rfl) (by rfl) fun K hK=>?_;simp+decide only[ev,qH,qF,putD,Slots.put,Slots.get,if_true,if_false,true_and,↓qh,qc,↓Qk,qM,Qn,↓qC,qm,UY,↓qG,qY,qy UJ,↓qA,ql,qB,cond_false,qo,QY,YL,qy ag3,UH,QP,List.getD_cons_zero,List.getD_cons_succ,Nat.zero_add,qi,hlv,Int.add_sub_cancel];try simp(disch:=omega)only[wrap_i64]
     try simp+decide only[qa,ev,qH,qF,putD,Slots.put,Slots.get,Slots.keep,if_true,if_false,true_and,↓Ua,Zu,evO,↓qd,qb,hsl]
     apply hK;clear hK K;refine qO ?_;refine QR (qZ (qZ (Qd))) ?_;simp+decide only[Slots.get,if_true,if_false,Wy];refine⟨B.set kp ⟨[v, .int .i64 ((j:Int)+1)],0⟩,?_,?_,?_⟩
     ·exact Sub.set_both zqB _ _
     ·rw[ho];rfl
     ·rw[ho];rfl
end Go.Proofs.YtlhhaagmakhilaaGreatDoor
namespace Go.Proofs.YtlhhaagmakhilaaGreatDoor
open Go.AM
open Go.Proofs
open Go.Col
open Go.Tok
open Go.Cop
open Go.RowKit (Below)
set_option maxRecDepth 100000
theorem del_set_same{H:AHeap}{k:Nat}(b:Blk):(H.del k).set k b=H.set k b:=by
 funext j;by_cases e:j=k<;>simp[AHeap.set,AHeap.del,e]
theorem ZV{H:AHeap}(k:Nat):H.del k k=none:=by simp[AHeap.del]
theorem qce{B H:AHeap}{k:Nat}(hs:Sub B H)(hb:B k=none):Sub B (H.del k):=fun j b hj=>by
 have hne:j≠k:=fun e=>by subst e;rw[hb]at hj;cases hj
 simp only[AHeap.del,hne,if_false];exact hs j b hj
theorem Zz{B H:AHeap}{k:Nat}(hs:Sub B H)(hb:B k=none)(b:Blk):Sub B (H.set k b):=fun j c hj=>by
 have hne:j≠k:=fun e=>by subst e;rw[hb]at hj;cases hj
 rw[AHeap.set_ne _ _ hne];exact hs j c hj
theorem qfK(wz:World)(H B:AHeap)(kp:Nat)(v:AVal)(l:List TokC)(i:Nat)(e:Bool)(hk:H kp=some ⟨[v, .int .i64 i],0⟩)(hs:Sub B H)(hb:B kp=none)(hv:IsL wz B 5 v (l.map QK))(hl:l.length<=1099511627776)(hi:i<=l.length):
 ACall Tryz.prog wz 85 [.ptr (.own kp) 0, .bool e] H (fun r h'=>r= .tuple [qfm v (Xd l i e), .bool (Xd l i e).ok]/\h'=H.set kp ⟨[v, .int .i64 (Xd l i e).at_],0⟩):=by
 have:=c_operandB wz (H.del kp) kp v l i e (ZV kp) (hv.mono (qce hs hb)) hl hi;simp only[del_set_same]at this
 rwa [set_id hk]at this
theorem qec{wz:World}{h:AHeap}{v:AVal}{l:List TokC}(hv:IsL wz h 5 v (l.map QK)){o:Opd}(h1:o.lo<=o.hi)(h2:o.hi<=l.length)(ok:o.ok=true):IsL wz h 5 (qfm v o) ((qbn l o.lo o.hi).map QK):=by
 have:=hv.sub (i:=o.lo) (j:=o.hi) h1 (by rw[List.length_map];exact h2);unfold qfm qbn;rw[if_pos ok,List.map_take,List.map_drop];exact this
theorem qfB{wz:World}{h:AHeap}{v:AVal}{l:List TokC}(hv:IsL wz h 5 v (l.map QK))(o:Opd):(qfm v o).scal=true:=by
 unfold qfm;split
 ·generalize l.map QK=xs at hv
  cases hv with
  |nil=>rfl
  |mk lc of n c xs hn hw hc hl hcap=>cases c<;>rfl
 ·rfl
theorem isL_Sc{wz:World}{h:AHeap}{es:Nat}{v:AVal}{xs:List (List AVal)}(hv:IsL wz h es v xs):Sc v:=by
 cases hv with
 |nil=>trivial
 |mk lc o n c xs hn hw hc hl hcap=>trivial
theorem operV_Sc{wz:World}{h:AHeap}{v:AVal}{l:List TokC}(hv:IsL wz h 5 v (l.map QK))(o:Opd):Sc (qfm v o)=True:=by
 refine eq_true ?_;unfold qfm;split
 ·generalize l.map QK=xs at hv
  cases hv with
  |nil=>trivial
  |mk lc of n c xs hn hw hc hl hcap=>cases c<;>trivial
 ·trivial
abbrev RepQ:=RepC×AVal×AVal
def qao(q:RepQ):List AVal:=[q.2.1,q.2.2]
structure RepOk(wz:World)(h:AHeap)(q:RepQ):Prop where
 old:IsL wz h 5 q.2.1 (q.1.old.map QK)
 new:IsL wz h 5 q.2.2 (q.1.new.map QK)
theorem RepOk.mono{wz:World}{h h':AHeap}{q:RepQ}(hq:RepOk wz h q)(hs:Sub h h'):RepOk wz h' q:=⟨hq.old.mono hs,hq.new.mono hs⟩
def PairR(wz:World)(B:AHeap)(p:Pair)(r:AVal):Prop:=∃ov nv,r= .tuple [.agg [ov,nv], .bool p.ok]/\ov.scal=true/\nv.scal=true/\(p.ok=true->RepOk wz B (p.rep,ov,nv))
theorem c_pairBad(wz:World)(H B:AHeap)(kp:Nat)(v:AVal)(l:List TokC)(i:Nat)(eb_p:H kp=some ⟨[v, .int .i64 i],0⟩)(hs_H:Sub B H)(hb:B kp=none)(hv:IsL wz B 5 v (l.map QK))(hl:l.length<=1099511627776)(hi:i<=l.length)(hok:(Xd l i false).ok=false):
 ACall Tryz.prog wz 67 [.ptr (.own kp) 0] H (fun r h'=>PairR wz B (YT l i) r/\h'=H.set kp ⟨[v, .int .i64 (YT l i).at_],0⟩):=by
 have hp:YT l i=⟨false,⟨[],[]⟩,(Xd l i false).at_⟩:=by unfold YT;simp only[hok,if_true]
 rw[hp];have hlv:=hv.live;have hss:=qfB hv (Xd l i false);have hsl:=Yj hss;obtain⟨ov,hov⟩:∃ov,ov=qfm v (Xd l i false):=⟨_,rfl⟩
 rw[<-hov]at hss hsl;refine qU (n:=29) (rs:=[.cell 2 46, .tmp 3]) Tryz.func67 rfl rfl rfl rfl (Nat.le_of_ble_eq_true rfl) ?_;simp only[Qe];refine awp_rseq [0,2] (by rfl) fun K hK=>?_;refine Qj ze46 (cs:=[.nilSlice, .nilSlice]) (by rfl) fun k0q0 hk0q0=>?_;have hn_0q0:H k0q0=none:=by first|assumption|(simp only[AHeap.set_none]at hk0q0;simp only[hk0q0])
 have hf_0q0:B k0q0=none:=Sub.none hs_H hn_0q0;have ne_0q0_p:k0q0≠kp:=AHeap.ne_some hn_0q0 eb_p;simp+decide only[qa,ev,qH,qF,putD,Slots.put,Slots.keep,if_true,if_false,true_and,↓qd,qb];apply hK;clear hK K;refine awp_rseq [0,2,4,5] (by rfl) fun K hK=>?_;simp+decide only[ev,putD,Slots.put,Slots.get,if_true,if_false,true_and,↓qh,qc];refine QN (by rfl) (by rfl) (qfK wz _ B kp v l i false zqA zqB hb hv hl hi) fun x1q1 h1q1 hx1q1=>?_;rw[<-hov,hok]at hx1q1;obtain⟨rfl,rfl⟩:=hx1q1;simp+decide only[qa,ev,putD,Slots.put,Slots.get,Slots.keep,if_true,if_false,true_and,↓qh,qc,↓QW,QH,QS,List.length_cons,List.length_nil,List.getD_cons_zero,List.getD_cons_succ,↓qd,qb,List.getD_cons_zero,List.getD_cons_succ,Nat.zero_add,Nat.reduceAdd];apply hK;clear hK K;refine qK ?_;refine awp_rseq [0,2,4,18] (by rfl) fun K hK=>?_;simp+decide only[ev,putD,Slots.put,Slots.get,if_true,if_false,true_and,↓qh,qc,↓YA,XU,Yi,↓Xf,agP,Qs,qL,qI,Qf,implies_true,Bool.not_false,Bool.not_true,ZC];refine UT (by rfl) (by rfl) ?_;simp+decide only[qa,ev,qH,qF,putD,Slots.put,Slots.get,Slots.keep,if_true,if_false,true_and,qL,Qf,↓qcm,XU,agP,Qs,qI,Bool.not_true,ZC,false_implies,qbI,↓QT,Qu,Qh];apply hK;clear hK K;refine qJ (b:=_) rfl (fun hb1=>?_) (fun hb1=>?_)
 ·try simp only at hb1
  refine awp_rseq [2,3] (by rfl) fun K hK=>?_;simp+decide only[ev,qH,qF,putD,Slots.put,Slots.get,if_false,true_and,↓Qp,↓qW,bld46_,evP,List.map_nil];refine qp (by rfl) (by rfl) zqA qfg (by rfl) (by rfl) zqD (Nat.zero_le _) (by first|rfl|(simp+decide only[ev,putD,Slots.put,Slots.get,if_true,if_false,AVal.cells,QC,Bool.and_true,Bool.true_and,hss])) ?_;simp only[AVal.cells];simp+decide only[qa,ev,qH,qF,putD,Slots.put,Slots.get,Slots.keep,if_true,if_false,true_and,↓qd,qb,setAt,List.set_cons_zero,List.set_cons_succ,Nat.zero_add];apply hK;clear hK K;refine qO ?_;try simp only[Qi]
  refine QR (?_) ?_
  ·simp+decide only[QE,qw,qj,Slots.get,if_true,if_false,and_true,qw,qj,qg ag46 qfg,Qc,qf,List.getD_cons_zero,List.getD_cons_succ,Nat.zero_add,QU,allLive,Bool.and_true,qf,List.getD_cons_zero,List.getD_cons_succ,Nat.zero_add,QU,allLive,Bool.and_true]
  simp+decide only[Slots.get,if_true,if_false,Xj,qw,qj,qg ag46 qfg,Qc,qf,List.getD_cons_zero,List.getD_cons_succ,Nat.zero_add,QU,allLive,Bool.and_true,qf,List.getD_cons_zero,List.getD_cons_succ,Nat.zero_add,QU,allLive,Bool.and_true];refine⟨H.set kp ⟨[v, .int .i64 (Xd l i false).at_],0⟩,Sub.trans_set (Sub.set_both (Sub.set hn_0q0) _ _) ((AHeap.set_ne _ _ ne_0q0_p).trans hn_0q0),⟨.nilSlice, .nilSlice,rfl,rfl,rfl,fun q=>by cases q⟩,rfl⟩
 ·exact absurd hb1 (by decide)
theorem c_wordH(wz:World)(H B:AHeap)(kp:Nat)(v:AVal)(l:List TokC)(i:Nat)(s:Str)(hk:H kp=some ⟨[v, .int .i64 i],0⟩)(hs:Sub B H)(hv:IsL wz B 5 v (l.map QK))(hl:l.length<=1099511627776):
 ACall Tryz.prog wz 51 [.ptr (.own kp) 0, .str s] H (fun r h'=>r= .bool (XL l i s)/\h'=H.set kp ⟨[v, .int .i64 ((if XL l i s=true then i+1 else i:Nat):Int)],0⟩):=c_wordP wz H kp v l i s hk (hv.mono hs) hl
theorem c_pairGood(wz:World)(H B:AHeap)(kp:Nat)(v:AVal)(l:List TokC)(i:Nat)(eb_p:H kp=some ⟨[v, .int .i64 i],0⟩)(hs_H:Sub B H)(hb:B kp=none)(hv:IsL wz B 5 v (l.map QK))(hl:l.length<=1099511627776)(hi:i<=l.length)(hok:(Xd l i false).ok=true):
 ACall Tryz.prog wz 67 [.ptr (.own kp) 0] H (fun r h'=>PairR wz B (YT l i) r/\h'=H.set kp ⟨[v, .int .i64 (YT l i).at_],0⟩):=by
 obtain⟨o1,o2,o3⟩:=qdk (e:=false) hi;obtain⟨o3,o4,o5⟩:=o3 hok;have hp:YT l i=if XL l (Xd l i false).at_ BY=false then⟨false,⟨[],[]⟩,(Xd l i false).at_⟩else⟨(Xd l ((Xd l i false).at_+1) true).ok,⟨qbn l (Xd l i false).lo (Xd l i false).hi,qbn l (Xd l ((Xd l i false).at_+1) true).lo (Xd l ((Xd l i false).at_+1) true).hi⟩,(Xd l ((Xd l i false).at_+1) true).at_⟩:=by
  conv=>lhs;unfold YT
  simp only[hok];rfl
 have hlv:=hv.live;have hsc:=fun o=>qfB hv o;have hsl:=fun o=>Yj (hsc o);have hSc:=fun o=>operV_Sc hv o;obtain⟨a,ha⟩:∃a,a=Xd l i false:=⟨_,rfl⟩
 rw[<-ha]at hok hp o1 o2 o3 o4 o5;obtain⟨W,hW⟩:∃W,W=XL l a.at_ BY:=⟨_,rfl⟩
 refine qU (n:=29) (rs:=[.cell 2 46, .tmp 3]) Tryz.func67 rfl rfl rfl rfl (Nat.le_of_ble_eq_true rfl) ?_;simp only[Qe];refine awp_rseq [0,2] (by rfl) fun K hK=>?_;refine Qj ze46 (cs:=[.nilSlice, .nilSlice]) (by rfl) fun k0q0 hk0q0=>?_;have hn_0q0:H k0q0=none:=by first|assumption|(simp only[AHeap.set_none]at hk0q0;simp only[hk0q0])
 have hf_0q0:B k0q0=none:=Sub.none hs_H hn_0q0;have ne_0q0_p:k0q0≠kp:=AHeap.ne_some hn_0q0 eb_p;simp+decide only[qa,ev,qH,qF,putD,Slots.put,Slots.keep,if_true,if_false,true_and,↓qd,qb];apply hK;clear hK K;refine awp_rseq [0,2,4,5] (by rfl) fun K hK=>?_;simp+decide only[ev,putD,Slots.put,Slots.get,if_true,if_false,true_and,↓qh,qc];refine QN (by rfl) (by rfl) (qfK wz _ B kp v l i false zqA zqB hb hv hl hi) fun x1q1 h1q1 hx1q1=>?_;rw[<-ha,hok]at hx1q1;obtain⟨rfl,rfl⟩:=hx1q1;simp+decide only[qa,ev,putD,Slots.put,Slots.get,Slots.keep,if_true,if_false,true_and,↓qh,qc,↓QW,QH,QS,List.length_cons,List.length_nil,List.getD_cons_zero,List.getD_cons_succ,↓qd,qb,List.getD_cons_zero,List.getD_cons_succ,Nat.zero_add,Nat.reduceAdd];apply hK;clear hK K;refine qK ?_;refine awp_rseq [0,2,4,18] (by rfl) fun K hK=>?_;simp+decide only[ev,putD,Slots.put,Slots.get,if_true,if_false,true_and,↓qh,qc,↓YA,XU,Yi,↓Xf,agP,Qs,qL,qI,Qf,implies_true,Bool.not_false,Bool.not_true,Qv];refine Yv (by rfl) ?_;refine QN (by rfl) (by rfl) (c_wordH wz _ B kp v l a.at_ BY (AHeap.set_same _ _ _) zqB hv hl) fun x2q4 h2q4 hx2q4=>?_;obtain⟨rfl,rfl⟩:=hx2q4;rw[<-hW];simp+decide only[qa,ev,qH,qF,putD,Slots.put,Slots.get,Slots.keep,if_true,if_false,true_and,qL,Qf,↓qcm,XU,agP,Qs,qI,implies_true,Bool.not_false,Qv,Bool.false_or,Yi,↓QT,Qu,Qh,ZK];apply hK;clear hK K;refine qJ (b:=_) rfl (fun hb1=>?_) (fun hb1=>?_)
 ·try simp only[Bool.not_eq_true']at hb1
  refine awp_rseq [2,3] (by rfl) fun K hK=>?_;simp+decide only[ev,qH,qF,putD,Slots.put,Slots.get,if_false,true_and,↓Qp,↓qW,bld46_,evP,List.map_nil];refine qp (by rfl) (by rfl) zqA qfg (by rfl) (by rfl) zqD (Nat.zero_le _) (by first|rfl|(simp+decide only[ev,putD,Slots.put,Slots.get,if_true,if_false,AVal.cells,QC,Bool.and_true,Bool.true_and,hsc])) ?_;simp only[AHeap.set_set,AVal.cells];simp+decide only[qa,ev,qH,qF,putD,Slots.put,Slots.get,Slots.keep,if_true,if_false,true_and,↓qd,qb,setAt,List.set_cons_zero,List.set_cons_succ,Nat.zero_add];apply hK;clear hK K;refine qO ?_;try simp only[Qi]
  refine QR (?_) ?_
  ·simp+decide only[QE,qw,qj,Slots.get,if_true,if_false,and_true,qw,qj,qg ag46 qfg,Qc,qf,List.getD_cons_zero,List.getD_cons_succ,Nat.zero_add,QU,allLive,Bool.and_true,qf,List.getD_cons_zero,List.getD_cons_succ,Nat.zero_add,QU,allLive,Bool.and_true]
  simp+decide only[Slots.get,if_true,if_false,Xj,qw,qj,qg ag46 qfg,Qc,qf,List.getD_cons_zero,List.getD_cons_succ,Nat.zero_add,QU,allLive,Bool.and_true,qf,List.getD_cons_zero,List.getD_cons_succ,Nat.zero_add,QU,allLive,Bool.and_true];rw[if_pos (by rw[<-hW];exact hb1)]at hp;rw[hp];simp only[hb1,Bool.false_eq_true,if_false];exact⟨H.set kp ⟨[v, .int .i64 a.at_],0⟩,Sub.trans_set (Sub.set_both (Sub.set hn_0q0) _ _) ((AHeap.set_ne _ _ ne_0q0_p).trans hn_0q0),⟨.nilSlice, .nilSlice,rfl,rfl,rfl,fun q=>by cases q⟩,rfl⟩
 ·try simp only[Bool.not_eq_false']at hb1
  rw[if_neg (by rw[<-hW,hb1];decide)]at hp;have hwl:a.at_<l.length:=qeA (hW.symm.trans hb1);rw[hb1,if_pos rfl];obtain⟨p1,p2,p3⟩:=qdk (l:=l) (i:=a.at_+1) (e:=true) (by omega);obtain⟨b,hbo⟩:∃b,b=Xd l (a.at_+1) true:=⟨_,rfl⟩
  rw[<-hbo]at hp p1 p2 p3;refine qP ?_;change Awp _ _ _ _ _ _ _;refine awp_rseq [2,4,5,6] (by rfl) fun K hK=>?_;simp+decide only[ev,putD,Slots.put,Slots.get,if_true,if_false,true_and,↓qh,qc];refine QN (by rfl) (by rfl) (qfK wz _ B kp v l (a.at_+1) true zqA zqB hb hv hl (by omega)) fun x4q1 h4q1 hx4q1=>?_;rw[<-hbo]at hx4q1;obtain⟨rfl,rfl⟩:=hx4q1;simp+decide only[qa,ev,putD,Slots.put,Slots.get,Slots.keep,if_true,if_false,true_and,↓qh,qc,↓QW,QH,QS,List.length_cons,List.length_nil,List.getD_cons_zero,List.getD_cons_succ,↓qd,qb,List.getD_cons_zero,List.getD_cons_succ,Nat.zero_add,Nat.reduceAdd];apply hK;clear hK K;refine awp_rseq [2,3] (by rfl) fun K hK=>?_;simp+decide only[ev,qH,qF,putD,Slots.put,Slots.get,if_true,if_false,true_and,↓qh,qc,↓Qp,↓qW,bld46_0_1,evP,List.map_cons,List.map_nil,hSc];refine qp (by rfl) (by rfl) zqA qfg (by rfl) (by rfl) zqD (Nat.zero_le _) (by first|rfl|(simp+decide only[ev,Slots.get,if_true,if_false,AVal.cells,QC,Bool.and_true,hsc])) ?_;simp only[AHeap.set_set,AVal.cells];simp+decide only[qa,ev,putD,Slots.put,Slots.get,Slots.keep,if_true,if_false,true_and,↓qd,qb,setAt,List.set_cons_zero,List.set_cons_succ,Nat.zero_add];apply hK;clear hK K;refine qO ?_;refine QR (?_) ?_
  ·simp+decide only[QE,qw,qj,Slots.get,if_true,if_false,and_true,qw,qj,qg ag46 qfg,Qc,qf,List.getD_cons_zero,List.getD_cons_succ,Nat.zero_add,allLive,Bool.and_true,qf,List.getD_cons_zero,List.getD_cons_succ,Nat.zero_add,allLive,Bool.and_true,hsl]
  simp+decide only[Slots.get,if_true,if_false,Xj,qw,qj,qg ag46 qfg,Qc,qf,List.getD_cons_zero,List.getD_cons_succ,Nat.zero_add,allLive,Bool.and_true,qf,List.getD_cons_zero,List.getD_cons_succ,Nat.zero_add,allLive,Bool.and_true,hsl];rw[hp];exact⟨H.set kp ⟨[v, .int .i64 b.at_],0⟩,Sub.trans_set (Sub.set_both (Sub.set hn_0q0) _ _) ((AHeap.set_ne _ _ ne_0q0_p).trans hn_0q0),⟨_,_,rfl,hsc _,hsc _,fun q=>⟨qec hv o4 o5.1 hok,qec hv (p3 q).2.1 (p3 q).2.2.1 q⟩⟩,rfl⟩
theorem c_pair(wz:World)(H B:AHeap)(kp:Nat)(v:AVal)(l:List TokC)(i:Nat)(eb_p:H kp=some ⟨[v, .int .i64 i],0⟩)(hs_H:Sub B H)(hb:B kp=none)(hv:IsL wz B 5 v (l.map QK))(hl:l.length<=1099511627776)(hi:i<=l.length):
 ACall Tryz.prog wz 67 [.ptr (.own kp) 0] H (fun r h'=>PairR wz B (YT l i) r/\h'=H.set kp ⟨[v, .int .i64 (YT l i).at_],0⟩):=by
 cases hok:(Xd l i false).ok with
 |false=>exact c_pairBad wz H B kp v l i eb_p hs_H hb hv hl hi hok
 |true=>exact c_pairGood wz H B kp v l i eb_p hs_H hb hv hl hi hok
end Go.Proofs.YtlhhaagmakhilaaGreatDoor
namespace Go.Proofs.YtlhhaagmakhilaaGreatDoor
open Go.AM
open Go.Proofs
open Go.Col
open Go.Tok
open Go.Cop
open Go.RowKit (Below)
set_option maxRecDepth 100000
def pairsR(l:List TokC)(i:Nat)(first:Bool)(acc:List RepC):Pairs:=YS l (l.length+2-i) i first acc
theorem pairsR_step{l:List TokC}{i:Nat}(hi:i<=l.length)(first:Bool)(acc:List RepC):pairsR l i first acc=if first=true\/(i<l.length/\XB l i [6]=false)then(if (YT l i).ok=false then⟨false,[],(YT l i).at_⟩else pairsR l (YT l i).at_ false (acc++[(YT l i).rep]))else⟨true,acc,i⟩:=by
 unfold pairsR;rw[show l.length+2-i=(l.length+1-i)+1 by omega,YS];split
 ·simp only
  split
  ·rfl
  ·rename_i h1 h2
   obtain⟨p1,p2,p3⟩:=pair_at hi;have h3:(YT l i).ok=true:=by simpa using h2
   have:=(p3 h3).1;exact qfy l _ _ _ _ _ p2 (by omega) (by omega)
 ·rfl
def IsReps(wz:World)(h:AHeap)(v:AVal)(rs:List RepC):Prop:=∃qs:List RepQ,rs=qs.map (·.1)/\IsL wz h 2 v (qs.map qao)/\∀q∈qs,RepOk wz h q
theorem IsReps.mono{wz:World}{h h':AHeap}{v:AVal}{rs:List RepC}(hv:IsReps wz h v rs)(hs:Sub h h'):IsReps wz h' v rs:=by
 obtain⟨qs,h1,h2,h3⟩:=hv;exact⟨qs,h1,h2.mono hs,fun q hq=>(h3 q hq).mono hs⟩
theorem IsReps.none{wz:World}{h:AHeap}:IsReps wz h .nilSlice []:=⟨[],rfl, .nil,fun q hq=>by cases hq⟩
theorem repQC_wide{qs:List RepQ}:∀x∈qs.map qao,x.length=2:=fun x hx=>by obtain⟨y,_,rfl⟩:=List.mem_map.1 hx;rfl
theorem qaH(es:Nat)(b:Option Buf):(QA es b).cells=[QA es b]:=by cases b<;>rfl
def stmC(t:TokC)(rv:AVal):List AVal:=[.int .u8 t.kind.toNat, .str t.text, .int .i64 t.line, .int .i64 t.col, .bool t.left,rv]
structure NewE(B H E:AHeap):Prop where
 sub:Sub B E
 off:∀j,H j≠none->B j=none->E j=none
theorem NewE.refl(B H:AHeap):NewE B H B:=⟨Sub.refl _,fun _ _ h=>h⟩
theorem newE_buf{B H G:AHeap}{es kp:Nat}{pb:Option Buf}{c:Blk}(hok:bufOk G es pb)(hg:Sub (H.del kp) G)(hp:G kp=some c):NewE B H (QG B pb)\/¬bufOk B es pb:=by
 by_cases hb:bufOk B es pb
 ·refine .inl ⟨Sub.buf hb,fun j h1 h2=>?_⟩
  cases pb with
  |none=>exact h2
  |some b=>
   have hne:j≠b.blk:=fun e=>by
    have h0:G b.blk=none:=hok.1;subst e;by_cases e2:b.blk=kp
    ·rw[e2,hp]at h0;cases h0
    ·cases hj:H b.blk with
     |none=>exact h1 hj
     |some d=>
      have:=hg b.blk d (by simp only[AHeap.del,e2,if_false];exact hj);rw[h0]at this;cases this
   exact(AHeap.set_ne _ _ hne).trans h2
 ·exact .inr hb
def StmR(wz:World)(H B:AHeap)(kp:Nat)(v:AVal)(s:Stm)(r:AVal)(h':AHeap):Prop:=
 Sub (H.del kp) h'/\h' kp=some ⟨[v, .int .i64 s.at_],0⟩/\∃rv E,r= .tuple [.agg (stmC s.name rv), .bool s.ok]/\NewE B H E/\Sub E h'/\IsReps wz E rv s.reps
structure StG where
 at_:Nat
 G:AHeap
 pb:Option Buf
 qs:List RepQ
structure StOk(wz:World)(H B:AHeap)(kp k0 k3:Nat)(v:AVal)(l:List TokC)(t:TokC)(s:StG):Prop where
 at_:s.at_<=l.length
 sub:Sub (H.del kp) s.G
 par:s.G kp=some ⟨[v, .int .i64 s.at_],0⟩
 res:s.G k0=some ⟨[.int .u8 0, .str [], .int .i64 0, .int .i64 0, .bool false, .nilSlice],0⟩
 stm:s.G k3=some ⟨[.int .u8 t.kind.toNat, .str t.text, .int .i64 t.line, .int .i64 t.col, .bool t.left,QA 2 s.pb],0⟩
 ok:bufOk s.G 2 s.pb
 eq:Yu s.pb=(s.qs.map qao).flatten
 reps:∀q∈s.qs,RepOk wz B q
 few:s.qs.length<=s.at_
set_option maxHeartbeats 2000000 in
theorem c_statement(wz:World)(H B:AHeap)(kp:Nat)(v:AVal)(l:List TokC)(i:Nat)(eb_p:H kp=some ⟨[v, .int .i64 i],0⟩)(hs_H:Sub B H)(hb:B kp=none)(hv:IsL wz B 5 v (l.map QK))(hl:l.length<=1000000)(hi:i<=l.length):
 ACall Tryz.prog wz 52 [.ptr (.own kp) 0] H (fun r h'=>StmR wz H B kp v (Xi l i) r h'):=by
 have hlv:=hv.live;have nv:=Zp hv;obtain⟨k1,hk1⟩:∃k,k=XB l i [1,3]:=⟨_,rfl⟩
 obtain⟨W,hW⟩:∃W,W=XL l (i+1) Yd:=⟨_,rfl⟩
 obtain⟨O,ho⟩:∃O,O=Xi l i:=⟨_,rfl⟩
 rw[<-ho];unfold Xi at ho;rw[<-hk1,<-hW]at ho;have hdel:Sub (H.del kp) H:=fun j b hj=>by
  by_cases e:j=kp
  ·subst e;rw[ZV]at hj;cases hj
  ·simpa[AHeap.del,e]using hj
 have hsB:Sub B (H.del kp):=qce hs_H hb;have hso:(AVal.bool true).scal=true:=rfl;have hsn:(AVal.bool true).scal=true:=rfl;have hlo:(AVal.bool true).live=true:=rfl;have hln:(AVal.bool true).live=true:=rfl;have hSo:Sc .nilSlice=True:=eq_true trivial;have hSn:Sc .nilSlice=True:=eq_true trivial;have hbl:=QV 2 none;refine qU (n:=79) (rs:=[.cell 2 91, .tmp 3]) Tryz.func52 rfl rfl rfl rfl (Nat.le_of_ble_eq_true rfl) ?_;simp only[Qe];refine awp_rseq [0,2] (by rfl) fun K hK=>?_;refine Qj ze91 (cs:=[.int .u8 0, .str [], .int .i64 0, .int .i64 0, .bool false, .nilSlice]) (by rfl) fun k0q0 hk0q0=>?_;have hn_0q0:H k0q0=none:=by first|assumption|(simp only[AHeap.set_none]at hk0q0;simp only[hk0q0])
 have hf_0q0:B k0q0=none:=Sub.none hs_H hn_0q0;have ne_0q0_p:k0q0≠kp:=AHeap.ne_some hn_0q0 eb_p;simp+decide only[qa,ev,qH,qF,putD,Slots.put,Slots.keep,if_true,if_false,true_and,↓qd,qb];apply hK;clear hK K;refine qK ?_;refine awp_rseq [0,2,11] (by rfl) fun K hK=>?_;simp+decide only[ev,putD,Slots.put,Slots.get,if_true,if_false,true_and,↓qh,qc];refine Qm (cs:=byteCells [1,3]) (by kernel_rfl) fun k1q1 hk1q1=>?_;have ne_1q1_0q0:k1q1≠k0q0:=by simp only[AHeap.set_none]at hk1q1;simp only[hk1q1,ne_eq,not_false_eq_true]
 have hn_1q1:H k1q1=none:=by first|assumption|(simp only[AHeap.set_none]at hk1q1;simp only[hk1q1])
 have hf_1q1:B k1q1=none:=Sub.none hs_H hn_1q1;have ne_1q1_p:k1q1≠kp:=AHeap.ne_some hn_1q1 eb_p;refine qN (V:= .bool k1) (by rfl) (by rfl) (by rw[hk1];exact c_is wz _ kp _ l i _ [1,3] zqA (hv.mono zqB) (qbj (k:=k1q1) (ks:=[1,3]) zqA) (by decide)) ?_;simp+decide only[qa,ev,putD,Slots.put,Slots.get,Slots.keep,if_true,if_false,true_and,↓YA,XU,Yi];apply hK;clear hK K;refine qJ (b:=_) rfl (fun hb1=>?_) (fun hb1=>?_)
 ·try simp only[Bool.not_eq_true']at hb1
  refine awp_rseq [2,3] (by rfl) fun K hK=>?_;simp+decide only[ev,qH,qF,putD,Slots.put,Slots.get,if_false,true_and,↓Qp,↓qW,bld91_,evP,List.map_nil];refine qp (by rfl) (by rfl) zqA qab (by rfl) (by rfl) zqD (Nat.zero_le _) (by first|rfl|(simp+decide only[ev,putD,Slots.put,Slots.get,if_true,if_false,AVal.cells,QC,Bool.and_true,Bool.true_and,hso,hsn,YP,XY,Ze,XJ])) ?_;simp only[AVal.cells];simp+decide only[qa,ev,qH,qF,putD,Slots.put,Slots.get,Slots.keep,if_true,if_false,true_and,↓qd,qb,setAt,List.set_cons_zero,List.set_cons_succ,Nat.zero_add,Nat.reduceAdd];apply hK;clear hK K;refine qO ?_;try simp only[Qi]
  refine QR (?_) ?_
  ·simp+decide only[QE,qw,qj,Slots.get,if_true,if_false,and_true,qw,qj,qg qdz qab,Qc,qf,List.getD_cons_zero,List.getD_cons_succ,Nat.zero_add,Nat.reduceAdd,qD,qi,qE,QU,allLive,Bool.and_true,qf,List.getD_cons_zero,List.getD_cons_succ,Nat.zero_add,Nat.reduceAdd,qD,qi,qE,QU,allLive,Bool.and_true]
  simp+decide only[Slots.get,if_true,if_false,Xj,qw,qj,qg qdz qab,Qc,qf,List.getD_cons_zero,List.getD_cons_succ,Nat.zero_add,Nat.reduceAdd,qD,qi,qE,QU,allLive,Bool.and_true,qf,List.getD_cons_zero,List.getD_cons_succ,Nat.zero_add,Nat.reduceAdd,qD,qi,qE,QU,allLive,Bool.and_true];rw[if_pos hb1]at ho;rw[ho];exact⟨H,zqB,hdel,eb_p, .nilSlice,B,rfl,NewE.refl _ _,hs_H,IsReps.none⟩
 ·try simp only[Bool.not_eq_false']at hb1
  rw[if_neg (by rw[hb1];decide)]at ho;have hlt:i<l.length:=UB (hk1.symm.trans hb1);obtain⟨lc,o,c,rfl⟩:=Ui hv (by omega);obtain⟨t,ht⟩:∃t,t=l.getD i Zy:=⟨_,rfl⟩
  rw[show l.getD i noT=t from ht.symm]at ho;have hd0:(H.del kp) k0q0=none:=by simp[AHeap.del,ne_0q0_p,hn_0q0]
  refine qP ?_;change Awp _ _ _ _ _ _ _;obtain⟨H3,hH3⟩:∃H3,H3=H.set k0q0 ⟨[.int .u8 0, .str [], .int .i64 0, .int .i64 0, .bool false, .nilSlice],0⟩:=⟨_,rfl⟩
  refine Awp.forget (h':=H3) (by rw[hH3];exact zqB) ?_;have hs_H3:Sub B H3:=by rw[hH3];exact zqB
  have hd3:Sub (H.del kp) H3:=by rw[hH3];exact hdel.trans (Sub.set hn_0q0)
  have eb_p:H3 kp=some ⟨[.slice lc o l.length c, .int .i64 i],0⟩:=by rw[hH3];exact zqA
  have eb_0q0:H3 k0q0=some ⟨[.int .u8 0, .str [], .int .i64 0, .int .i64 0, .bool false, .nilSlice],0⟩:=by rw[hH3];exact AHeap.set_same _ _ _
  obtain⟨e0,e1,e2,e3,e4⟩:=qaw (hv.mono hs_H3) hlt;rw[<-ht]at e0 e1 e2 e3 e4;have e2':rd wz H3 lc (o+i*5+1+1)= .int .i64 t.line:=e2;have e3':rd wz H3 lc (o+i*5+1+1+1)= .int .i64 t.col:=e3;have e4':rd wz H3 lc (o+i*5+1+1+1+1)= .bool t.left:=e4;refine YM 12 [] [0,2,4] mixed (by kernel_rfl) (by rfl) fun K hK=>?_;simp only[List.take_succ_cons,List.take_zero,List.drop_succ_cons,List.drop_zero];simp+decide only[ev,qH,qF,putD,Slots.put,Slots.get,if_true,if_false,true_and,↓XK,qc,↓WH,qM,Qn,↓ZG,qm,UY,↓Zv,XF,qy UJ,YL,qy ag3,↓qdn,Qb Tryz.underlying26 Xa,UL,qg Zf Xa,↓Us,↓qW,bld91_0,evP,List.map_cons,List.map_nil,Qy wz eb_p,qf,List.getD_cons_zero,List.getD_cons_succ,Nat.zero_add,qD,qi,qE,allLive,Bool.and_true,hlv,e0,e1,e2',e3',e4',Int.toNat_natCast];repeat (with_reducible refine And.intro ?_ ?_;· first|trivial|omega|(intro hg;simp only[Bool.and_eq_true,Bool.or_eq_true,Bool.not_eq_true',Bool.and_eq_false_iff,Bool.or_eq_false_iff,Bool.not_eq_false',decide_eq_true_eq,decide_eq_false_iff_not,XV]at hg;omega))
  refine qcK (by rfl) ?_;refine Qj ze91 (cs:=[.int .u8 0, .str [], .int .i64 0, .int .i64 0, .bool false, .nilSlice]) (by rfl) fun k3q11 hk3q11=>?_;have hn_3q11:H3 k3q11=none:=by first|assumption|(simp only[AHeap.set_none]at hk3q11;simp only[hk3q11])
  have hf_3q11:B k3q11=none:=Sub.none hs_H3 hn_3q11;have ne_3q11_p:k3q11≠kp:=AHeap.ne_some hn_3q11 eb_p;have ne_3q11_0q0:k3q11≠k0q0:=AHeap.ne_some hn_3q11 eb_0q0;rw[qa];try simp only[Yr]
  refine qp (by rfl) (by rfl) zqA qab (by rfl) (by rfl) zqD (Nat.zero_le _) (by first|rfl|(simp+decide only[ev,putD,Slots.put,Slots.get,if_true,if_false,AVal.cells,QC,Bool.and_true,Bool.true_and,hso,hsn,YP,XY,Ze,XJ])) ?_;simp only[AHeap.set_set,AVal.cells];simp+decide only[qa,ev,putD,Slots.put,Slots.get,Slots.keep,if_true,if_false,setAt,List.set_cons_zero,List.set_cons_succ,Nat.zero_add,Nat.reduceAdd];apply hK;clear hK K;refine awp_rseq [0,2,4] (by rfl) fun K hK=>?_;simp+decide only[ev,qH,qF,putD,Slots.put,Slots.get,if_true,if_false,true_and,↓qh,qc,↓Qk,qM,Qn,↓qC,qm,YL,↓qG,qY,qy ag3,↓qA,ql,qB,cond_false,qo,QY,QO,ne_eq,not_false_eq_true,ne_3q11_p.symm,Qy wz eb_p,List.getD_cons_zero,List.getD_cons_succ,Nat.zero_add,qi];try simp(disch:=omega)only[wrap_i64]
  refine qp (by rfl) (by rfl) zqA sz3 (by rfl) (by rfl) zqD (Nat.zero_le _) (by first|rfl|(simp+decide only[ev,putD,Slots.put,Slots.get,if_true,if_false,AVal.cells,QC,Bool.and_true,Bool.true_and,hso,hsn,YP,XY,Ze,XJ])) ?_;simp only[AVal.cells];simp+decide only[qa,ev,putD,Slots.get,Slots.keep,if_true,if_false,setAt,List.set_cons_zero,List.set_cons_succ];apply hK;clear hK K;refine qK ?_;refine awp_rseq [0,2,4,32] (by rfl) fun K hK=>?_;simp+decide only[ev,putD,Slots.put,Slots.get,if_true,if_false,true_and,↓qh,qc];refine QN (by rfl) (by rfl) (c_wordH wz _ B kp _ l (i+1) Yd zqA zqB hv (by omega)) fun x5q1 h5q1 hx5q1=>?_;rw[<-hW]at hx5q1;obtain⟨rfl,rfl⟩:=hx5q1;have hn3H:H k3q11=none:=by
   have:=hn_3q11;rw[hH3,AHeap.set_ne _ _ ne_3q11_0q0]at this;exact this
  obtain⟨P,hP⟩:∃P:Pairs,P=(if W=true then YS l (l.length+2) (i+2) true []else⟨true,[],i+1⟩):=⟨_,rfl⟩
  rw[<-hP]at ho;simp+decide only[qa,putD,Slots.put,Slots.keep,if_true,if_false];apply hK;clear hK K;refine Ue [0,2,4] (fun s:StG=>[(0, .ptr (.own kp) 0),(2, .ptr (.own k0q0) 0),(4, .ptr (.own k3q11) 0)]) (fun s:StG=>QG s.G s.pb) (fun s:StG=>StOk wz H B kp k0q0 k3q11 (.slice lc o l.length c) l t s/\P=⟨true,s.qs.map (·.1),s.at_⟩) ?_ ?_
  ·refine qJ (b:=_) rfl (fun hb2=>?_) (fun hb2=>?_)
   ·skip
    rw[if_pos hb2]at hP;have hlt2:i+1<l.length:=qeA (hW.symm.trans hb2);have hPr:P=pairsR l (i+2) true []:=hP.trans (qfy l _ _ _ _ _ (by omega) (by omega) (by omega));rw[hb2,if_pos rfl];obtain⟨G0,hG0⟩:∃G0,G0=(H3.set k3q11 ⟨[.int .u8 t.kind.toNat, .str t.text, .int .i64 t.line, .int .i64 t.col, .bool t.left, .nilSlice],0⟩).set kp ⟨[.slice lc o l.length c, .int .i64 ((i+2:Nat):Int)],0⟩:=⟨_,rfl⟩
    refine Awp.forget (h':=G0) (by rw[hG0];first|exact Sub.refl _|(rw[AHeap.set_set];exact Sub.refl _)) ?_;have hs_G0:Sub B G0:=by rw[hG0];exact zqB
    have eb_p:G0 kp=some ⟨[.slice lc o l.length c, .int .i64 ((i+2:Nat):Int)],0⟩:=by rw[hG0];exact AHeap.set_same _ _ _
    have eb_0q0:G0 k0q0=some ⟨[.int .u8 0, .str [], .int .i64 0, .int .i64 0, .bool false, .nilSlice],0⟩:=by rw[hG0];exact zqA
    have eb_3q11:G0 k3q11=some ⟨[.int .u8 t.kind.toNat, .str t.text, .int .i64 t.line, .int .i64 t.col, .bool t.left, .nilSlice],0⟩:=by rw[hG0];exact zqA
    have hdG0:Sub (H.del kp) G0:=by rw[hG0];exact Zz (hd3.trans (Sub.set hn_3q11)) (ZV kp) _
    clear hG0;refine awp_rseq [0,2,4,5] (by rfl) fun K hK=>?_;simp+decide only[qa,ev,qH,qF,putD,Slots.put,Slots.keep,if_true,if_false,true_and,↓qd,qb];apply hK;clear hK K;refine Ql ?_;refine Xv [0,2,4,5] (fun g:Bool×StG=>[(0, .ptr (.own kp) 0),(2, .ptr (.own k0q0) 0),(4, .ptr (.own k3q11) 0),(5, .bool g.1)]) (fun g:Bool×StG=>QG g.2.G g.2.pb) (fun g:Bool×StG=>StOk wz H B kp k0q0 k3q11 (.slice lc o l.length c) l t g.2/\P=pairsR l g.2.at_ g.1 (g.2.qs.map (·.1))) (fun g:Bool×StG=>l.length-g.2.at_) ⟨true,⟨i+2,G0,none,[]⟩⟩ (by rfl) (Sub.refl _) ⟨⟨by simp only;omega,hdG0,eb_p,eb_0q0,eb_3q11,trivial,rfl,(fun q hq=>by cases hq),Nat.zero_le _⟩,hPr⟩ ?_;rintro⟨first,⟨at_,G,pb,qs⟩⟩ ⟨⟨g1,g2,g3,g4,g5,g6,g7,g8,g9⟩,hPr⟩;simp only at g1 g2 g3 g4 g5 g6 g7 g8 g9 hPr|-
    obtain⟨H7,hH7⟩:∃H7,H7=QG G pb:=⟨_,rfl⟩
    have hs_H7:Sub B H7:=by rw[hH7];exact(hsB.trans g2).trans (Sub.buf g6)
    have eb_p:H7 kp=some ⟨[.slice lc o l.length c, .int .i64 at_],0⟩:=by rw[hH7];exact ZR g6 g3
    have eb_0q0:H7 k0q0=some ⟨[.int .u8 0, .str [], .int .i64 0, .int .i64 0, .bool false, .nilSlice],0⟩:=by rw[hH7];exact ZR g6 g4
    have eb_3q11:H7 k3q11=some ⟨[.int .u8 t.kind.toNat, .str t.text, .int .i64 t.line, .int .i64 t.col, .bool t.left,QA 2 pb],0⟩:=by rw[hH7];exact ZR g6 g5
    have hbl:=QV 2 pb;rw[<-hH7];refine qK ?_;refine qdw [0,1,2,3,4,5,6,7,8,9,10,11,12,13,14,15,16,17,18] [none,none,none,none,none,none,none,none,none,none,none,none,none,none,none,some 14,some 15,some 16,some 17] 19 [0,2,4,51] mixed (by kernel_rfl) (by rfl) fun K hK=>?_;simp only[Yb,List.filterMap_cons,List.filterMap_nil,List.getElem?_cons_zero,List.getElem?_cons_succ];simp+decide only[qa,ev,putD,Slots.put,Slots.get,if_true,if_false,true_and,qbv,qbS,Uc,↓qh,qc,↓Xf,agP,Qs,qL,qI,QZ,YF,qz,Qf,cv_cv,implies_true,↓ZY,qM,Qn,qaY,qaZ,↓XC,qm,YL,Zl,Zm,↓Zr,Za,WS,qdy,qy ag3,UY,qy UJ,↓qbZ,QD,ZI Tryz.underlying26,qfH,qfI,↓Xb,ql,qR,cond_false,Zc,qbm,Zd,qbo,qo,XP,Qy wz eb_p,List.getD_cons_zero,List.getD_cons_succ,Nat.zero_add,qi,hlv];refine aOps_gbuild (cs:=byteCells [6]) (g:=Qt (!first) (.bool (decide ((at_:Int)<l.length)))) (by rfl) (QZ _ _) (fun _=>by kernel_rfl) fun k7q14 h7q14 hs7 hb7=>?_;have hs_h7q14:Sub B h7q14:=Sub.trans zqC hs7;have hr_h7q14:Sub H7 h7q14:=Sub.trans zqC hs7;have eb_p:=hs7 kp _ zqA;have eb_0q0:=hs7 k0q0 _ zqA;have eb_3q11:=hs7 k3q11 _ zqA;rw[qa];refine And.intro (by first|exact Sub.refl _|assumption|exact Sub.set (by assumption)) ?_;simp+decide only[putD,Slots.put,if_false,qz,YF]
    (refine Zb (V:= .bool (XB l at_ [6])) (f:=_) (cap:=_) (xs:=_) (by first|rfl|(simp+decide only[gv,qL,Slots.get,if_true,if_false,QZ])) (fun hg=>⟨rfl,?_⟩) (fun hg=>c_is wz _ kp _ l at_ _ [6] zqA (hv.mono zqB) (qbj (k:=k7q14) (ks:=[6]) (hb7 hg)) (by decide)) ?_;· (simp+decide only[gv,qL,Slots.get,if_true,if_false,qz,YF]at hg;simp+decide only[evs,ev,Slots.get,if_true,if_false,hg,Qv,List.append_nil,List.map_cons,List.map_nil]<;>try rfl))
    rw[qa];refine And.intro (by first|exact Sub.refl _|assumption|exact Sub.set (by assumption)) ?_;simp+decide only[qa,ev,qH,qF,putD,Slots.put,Slots.get,Slots.keep,if_true,if_false,true_and,Uc,gv,qL,qz,Qf,YF,↓qcm,XU,agP,Qs,qI,QZ,implies_true,Yi,cv_un,cp_un,↓ag_pick,Qu,Qh,Zh,cp_nest1,Xp,ZK,cv_pick,cp_pick,↓QT];apply hK;clear hK K;refine qJ (b:=_) rfl (fun hb3=>?_) (fun hb3=>?_)
    ·try simp only[decide_eq_true_eq,Bool.not_eq_true',Bool.and_eq_true,Bool.or_eq_true]at hb3
     have hst:=pairsR_step g1 first (qs.map (·.1))
     have hc3:first=true\/(at_<l.length/\XB l at_ [6]=false):=by
      rcases hb3 with q|q
      ·exact .inl q
      ·exact .inr ⟨by omega,q.2⟩
     rw[if_pos hc3]at hst;obtain⟨p1,p2,p3⟩:=pair_at (l:=l) (i:=at_) g1;obtain⟨p,hp⟩:∃p,p=YT l at_:=⟨_,rfl⟩
     rw[<-hp]at hst p1 p2 p3;refine qP ?_;change Awp _ _ _ _ _ _ _;refine qK ?_;refine Ql ?_;refine awp_rseq [0,2,4,6,7] (by rfl) fun K hK=>?_;simp+decide only[ev,putD,Slots.put,Slots.get,if_true,if_false,true_and,↓qh,qc];refine QN (by rfl) (by rfl) (c_pair wz _ B kp _ l at_ zqA zqB hb hv (by omega) g1) fun x9q1 h9q1 hx9q1=>?_;rw[<-hp]at hx9q1;obtain⟨⟨ov,nw,rfl,hso,hsn,hrep⟩,rfl⟩:=hx9q1;have hlo:=Yj hso;have hln:=Yj hsn;simp+decide only[ev,putD,Slots.put,Slots.get,if_true,if_false,true_and,↓qh,qc,↓QW,QH,QS,List.length_cons,List.length_nil,List.getD_cons_zero,List.getD_cons_succ,List.getD_cons_zero,List.getD_cons_succ,Nat.zero_add,Nat.reduceAdd];refine Qj ze46 (cs:=[.nilSlice, .nilSlice]) (by rfl) fun k9q5 hk9q5=>?_;have hn_9q5:h7q14 k9q5=none:=by first|assumption|(simp only[AHeap.set_none]at hk9q5;simp only[hk9q5])
     have hf_9q5:B k9q5=none:=Sub.none hs_h7q14 hn_9q5;have ne_9q5_p:k9q5≠kp:=AHeap.ne_some hn_9q5 eb_p;have ne_9q5_0q0:k9q5≠k0q0:=AHeap.ne_some hn_9q5 eb_0q0;have ne_9q5_3q11:k9q5≠k3q11:=AHeap.ne_some hn_9q5 eb_3q11;refine qp (by rfl) (by rfl) zqA qfg (by rfl) (by rfl) zqD (Nat.zero_le _) (by first|rfl|(simp+decide only[ev,putD,Slots.put,Slots.get,if_true,if_false,AVal.cells,QC,Bool.and_true,hso,hsn])) ?_;simp only[AHeap.set_set,AVal.cells];simp+decide only[qa,ev,putD,Slots.put,Slots.get,Slots.keep,if_true,if_false,true_and,↓qd,qb,setAt,List.set_cons_zero,List.set_cons_succ,Nat.zero_add];apply hK;clear hK K;refine qK ?_;refine awp_rseq [0,2,4,6,58] (by rfl) fun K hK=>?_;simp+decide only[qa,ev,putD,Slots.put,Slots.get,Slots.keep,if_true,if_false,true_and,↓qh,qc,↓YA,XU,Yi];apply hK;clear hK K;refine qJ (b:=_) rfl (fun hb4=>?_) (fun hb4=>?_)
     ·try simp only[Bool.not_eq_true']at hb4
      rw[if_pos (by simpa using hb4)]at hst;rw[hPr,hst]at ho;refine awp_rseq [2,3] (by rfl) fun K hK=>?_;simp+decide only[ev,qH,qF,putD,Slots.put,Slots.get,if_false,true_and,↓Qp,↓qW,bld91_,evP,List.map_nil];refine qp (by rfl) (by rfl) zqA qab (by rfl) (by rfl) zqD (Nat.zero_le _) (by first|rfl|(simp+decide only[ev,putD,Slots.put,Slots.get,if_true,if_false,AVal.cells,QC,Bool.and_true,Bool.true_and,hso,hsn,YP,XY,Ze,XJ])) ?_;simp only[AVal.cells];simp+decide only[qa,ev,qH,qF,putD,Slots.put,Slots.get,Slots.keep,if_true,if_false,true_and,↓qd,qb,setAt,List.set_cons_zero,List.set_cons_succ,Nat.zero_add,Nat.reduceAdd];apply hK;clear hK K;refine qO ?_;try simp only[Qi,Qw]
      refine QR (?_) ?_
      ·simp+decide only[QE,qw,qj,Slots.get,if_true,if_false,and_true,qw,qj,qg qdz qab,Qc,qf,List.getD_cons_zero,List.getD_cons_succ,Nat.zero_add,Nat.reduceAdd,qD,qi,qE,QU,allLive,Bool.and_true,qf,List.getD_cons_zero,List.getD_cons_succ,Nat.zero_add,Nat.reduceAdd,qD,qi,qE,QU,allLive,Bool.and_true]
      simp+decide only[Slots.get,if_true,if_false,Xj,qw,qj,qg qdz qab,Qc,qf,List.getD_cons_zero,List.getD_cons_succ,Nat.zero_add,Nat.reduceAdd,qD,qi,qE,QU,allLive,Bool.and_true,qf,List.getD_cons_zero,List.getD_cons_succ,Nat.zero_add,Nat.reduceAdd,qD,qi,qE,QU,allLive,Bool.and_true];have hsG:Sub G h7q14:=(show Sub G H7 by rw[hH7];exact Sub.buf g6).trans hs7;have ho':O=noStm p.at_:=by rw[ho];rfl
      rw[ho'];refine⟨(G.set kp ⟨[.slice lc o l.length c, .int .i64 p.at_],0⟩).set k0q0 ⟨[.int .u8 0, .str [], .int .i64 0, .int .i64 0, .bool false, .nilSlice],0⟩,?_,?_⟩
      ·exact Sub.set_both (Sub.trans_set (Sub.set_both hsG _ _) ((AHeap.set_ne _ _ ne_9q5_p).trans (Sub.none hsG hn_9q5))) _ _
      ·exact⟨Zz (Zz g2 (ZV kp) _) hd0 _,(AHeap.set_ne _ _ ne_0q0_p.symm).trans (AHeap.set_same _ _ _), .nilSlice,B,rfl,NewE.refl _ _,hsB.trans (Zz (Zz g2 (ZV kp) _) hd0 _),IsReps.none⟩
     ·try simp only[Bool.not_eq_false']at hb4
      have hok:p.ok=true:=by simpa using hb4
      rw[if_neg (by rw[hok];decide)]at hst;have hsG:Sub G h7q14:=(show Sub G H7 by rw[hH7];exact Sub.buf g6).trans hs7;have hrp:=hrep hok;have p4:=(p3 hok).1;refine qP ?_;change Awp _ _ _ _ _ _ _;refine XA [0,2,4] (by rfl) ?_;simp+decide only[ev,putD,Slots.put,Slots.get,if_true,if_false,true_and,↓qC,qm,fa91_1,↓qG,qY,qy ag43,qg ag46 qfg,QO,ne_eq,not_false_eq_true,ne_9q5_3q11.symm,Qy wz eb_3q11,ne_3q11_p,QP,qf,List.getD_cons_zero,List.getD_cons_succ,Nat.zero_add,allLive,Bool.and_true,hbl,hlo,hln];refine Qm (cs:=[ov,nw]) (by kernel_rfl) fun k12q3 hk12q3=>?_;have ne_12q3_9q5:k12q3≠k9q5:=by simp only[AHeap.set_none]at hk12q3;simp only[hk12q3,ne_eq,not_false_eq_true]
      have hn_12q3:h7q14 k12q3=none:=by first|assumption|(simp only[AHeap.set_none]at hk12q3;simp only[hk12q3])
      have hf_12q3:B k12q3=none:=Sub.none hs_h7q14 hn_12q3;have ne_12q3_p:k12q3≠kp:=AHeap.ne_some hn_12q3 eb_p;have ne_12q3_0q0:k12q3≠k0q0:=AHeap.ne_some hn_12q3 eb_0q0;have ne_12q3_3q11:k12q3≠k3q11:=AHeap.ne_some hn_12q3 eb_3q11;refine Xu (es:=2) (zs:=qs.map qao) (xs:=[[ov,nw]]) (hZ:=G.set kp ⟨[.slice lc o l.length c, .int .i64 p.at_],0⟩) (b:=pb) (by rfl) (by rfl) Tryz.underlying43 Tryz.underlying43 (fun k e=>by cases e) qfg by46 ze46 (by rfl) (by decide) (by rfl) (ZP g6 g3 _) g7 repQC_wide (by rw[<-Wo g6 g3,<-hH7];exact Sub.trans_set (Sub.trans_set (Sub.set_both hs7 _ _) ((AHeap.set_ne _ _ ne_9q5_p).trans (Sub.none hs7 hn_9q5))) ((AHeap.set_ne _ _ ne_12q3_p).trans (Sub.none hs7 hn_12q3))) (by rfl) (IsL.own (AHeap.set_same _ _ _) (by simp) (by rfl) (by simp[allLive,hlo,hln]) (.exact 1) (Nat.le_refl _)) (by simp[QC,hso,hsn]) (by simp;omega) (by simp;omega) fun pb2 h12 o1 o2 o3=>?_;have eb12:h12 k3q11=some ⟨[.int .u8 t.kind.toNat, .str t.text, .int .i64 t.line, .int .i64 t.col, .bool t.left,QA 2 pb],0⟩:=o3 _ _ (ZR o1 ((AHeap.set_ne _ _ ne_3q11_p).trans g5));simp+decide only[ev,putD,Slots.put,Slots.get,if_true,if_false,true_and,↓qC,qm,fa91_1,Nat.zero_add];refine qp (v:=QA 2 pb2) (by rfl) (by rfl) eb12 sz43 (QV _ _) (by rw[qaH];rfl) (Nat.le_refl _) (Nat.zero_le _) (by rw[qaH];simp[QC,YP]) ?_;simp only[setAt,qaH];simp+decide only[qa,putD,Slots.keep,if_true,if_false];change Awp _ _ _ _ _ _ _;refine XA [0,2,4,5] (by rfl) ?_;simp+decide only[qa,ev,qH,qF,putD,Slots.put,Slots.keep,if_true,if_false,true_and,↓qd,qb];try simp only[Qg]
      exact⟨(false,⟨p.at_,(G.set kp ⟨[.slice lc o l.length c, .int .i64 p.at_],0⟩).set k3q11 ⟨[.int .u8 t.kind.toNat, .str t.text, .int .i64 t.line, .int .i64 t.col, .bool t.left,QA 2 pb2],0⟩,pb2,qs++[(p.rep,ov,nw)]⟩),rfl,by rw[<-Wo o1 ((AHeap.set_ne _ _ ne_3q11_p).trans g5)];exact Sub.set_both o3 _ _,⟨⟨p2,Zz (Zz g2 (ZV kp) _) (by simp[AHeap.del,ne_3q11_p,hn3H]) _,(AHeap.set_ne _ _ ne_3q11_p.symm).trans (AHeap.set_same _ _ _),(AHeap.set_ne _ _ ne_3q11_0q0.symm).trans ((AHeap.set_ne _ _ ne_0q0_p).trans g4),AHeap.set_same _ _ _,ZP o1 ((AHeap.set_ne _ _ ne_3q11_p).trans g5) _,by rw[o2,List.map_append];rfl,fun q hq=>by
       rcases List.mem_append.1 hq with z|z
       ·exact g8 q z
       ·rw[List.mem_singleton.1 z];exact hrp,by(simp only[List.length_append,List.length_cons,List.length_nil];omega)⟩,by simp only;rw[hPr,hst,List.map_append];rfl⟩,by simp only;omega⟩
    ·try simp only[decide_eq_false_iff_not,Bool.not_eq_false',Bool.and_eq_false_iff,Bool.or_eq_false_iff]at hb3
     have hst:=pairsR_step g1 first (qs.map (·.1))
     have hc3:¬(first=true\/(at_<l.length/\XB l at_ [6]=false)):=by
      rintro(q|⟨q1,q2⟩)
      ·rw[q]at hb3
       exact absurd hb3.1 (by decide)
      ·rcases hb3.2 with z|z
       ·omega
       ·rw[q2]at z;cases z
     rw[if_neg hc3]at hst;rw[hst]at hPr;refine Xy ?_;first
     |exact⟨⟨at_,G,pb,qs⟩,rfl,by rw[hH7]at hs7;exact hs7,⟨g1,g2,g3,g4,g5,g6,g7,g8,g9⟩,hPr⟩
     |exact⟨⟨i+1,(H3.set k3q11 ⟨[.int .u8 t.kind.toNat, .str t.text, .int .i64 t.line, .int .i64 t.col, .bool t.left, .nilSlice],0⟩).set kp ⟨[.slice lc o l.length c, .int .i64 ((i+1:Nat):Int)],0⟩,none,[]⟩,rfl,(by first|exact Sub.refl _|(simp only[QG,AHeap.set_set];exact Sub.refl _)),⟨by(simp only;omega),Zz (hd3.trans (Sub.set hn_3q11)) (ZV kp) _,AHeap.set_same _ _ _,zqA,zqA,trivial,rfl,(fun q hq=>by cases hq),Nat.zero_le _⟩,hP⟩
   ·skip
    rw[if_neg (by rw[hb2];decide)]at hP;rw[hb2,if_neg (by decide)];refine qP ?_;try simp only[Qg]
    first
    |exact⟨⟨at_,G,pb,qs⟩,rfl,by rw[hH7]at hs7;exact hs7,⟨g1,g2,g3,g4,g5,g6,g7,g8,g9⟩,hPr⟩
    |exact⟨⟨i+1,(H3.set k3q11 ⟨[.int .u8 t.kind.toNat, .str t.text, .int .i64 t.line, .int .i64 t.col, .bool t.left, .nilSlice],0⟩).set kp ⟨[.slice lc o l.length c, .int .i64 ((i+1:Nat):Int)],0⟩,none,[]⟩,rfl,(by first|exact Sub.refl _|(simp only[QG,AHeap.set_set];exact Sub.refl _)),⟨by(simp only;omega),Zz (hd3.trans (Sub.set hn_3q11)) (ZV kp) _,AHeap.set_same _ _ _,zqA,zqA,trivial,rfl,(fun q hq=>by cases hq),Nat.zero_le _⟩,hP⟩
  ·rintro⟨at_,G,pb,qs⟩ ⟨⟨g1,g2,g3,g4,g5,g6,g7,g8,g9⟩,hPe⟩
   simp only at g1 g2 g3 g4 g5 g6 g7 g8 g9 hPe|-
   rw[hPe]at ho;obtain⟨H7,hH7⟩:∃H7,H7=QG G pb:=⟨_,rfl⟩
   have hs_H7:Sub B H7:=by rw[hH7];exact(hsB.trans g2).trans (Sub.buf g6)
   have hsG:Sub G H7:=by rw[hH7];exact Sub.buf g6
   have eb_p:H7 kp=some ⟨[.slice lc o l.length c, .int .i64 at_],0⟩:=by rw[hH7];exact ZR g6 g3
   have eb_0q0:H7 k0q0=some ⟨[.int .u8 0, .str [], .int .i64 0, .int .i64 0, .bool false, .nilSlice],0⟩:=by rw[hH7];exact ZR g6 g4
   have eb_3q11:H7 k3q11=some ⟨[.int .u8 t.kind.toNat, .str t.text, .int .i64 t.line, .int .i64 t.col, .bool t.left,QA 2 pb],0⟩:=by rw[hH7];exact ZR g6 g5
   have hbl:=QV 2 pb;rw[<-hH7];refine qK ?_;skip;refine awp_rseq [0,2,4,69] (by rfl) fun K hK=>?_;simp+decide only[ev,putD,Slots.put,Slots.get,if_true,if_false,true_and,↓qh,qc];refine Qm (cs:=byteCells [6]) (by kernel_rfl) fun k13q1 hk13q1=>?_;have hn_13q1:H7 k13q1=none:=by first|assumption|(simp only[AHeap.set_none]at hk13q1;simp only[hk13q1])
   have hf_13q1:B k13q1=none:=Sub.none hs_H7 hn_13q1;have ne_13q1_p:k13q1≠kp:=AHeap.ne_some hn_13q1 eb_p;have ne_13q1_0q0:k13q1≠k0q0:=AHeap.ne_some hn_13q1 eb_0q0;have ne_13q1_3q11:k13q1≠k3q11:=AHeap.ne_some hn_13q1 eb_3q11;refine qN (V:= .bool (XB l at_ [6])) (by rfl) (by rfl) (c_is wz _ kp _ l at_ _ [6] zqA (hv.mono zqB) (qbj (k:=k13q1) (ks:=[6]) zqA) (by decide)) ?_;simp+decide only[qa,ev,putD,Slots.put,Slots.get,Slots.keep,if_true,if_false,true_and,↓YA,XU,Yi];apply hK;clear hK K;refine qJ (b:=_) rfl (fun hb5=>?_) (fun hb5=>?_)
   ·try simp only[Bool.not_eq_true']at hb5
    refine awp_rseq [2,3] (by rfl) fun K hK=>?_;simp+decide only[ev,qH,qF,putD,Slots.put,Slots.get,if_false,true_and,↓Qp,↓qW,bld91_,evP,List.map_nil];refine qp (by rfl) (by rfl) zqA qab (by rfl) (by rfl) zqD (Nat.zero_le _) (by first|rfl|(simp+decide only[ev,putD,Slots.put,Slots.get,if_true,if_false,AVal.cells,QC,Bool.and_true,Bool.true_and,hso,hsn,YP,XY,Ze,XJ])) ?_;simp only[AVal.cells];simp+decide only[qa,ev,qH,qF,putD,Slots.put,Slots.get,Slots.keep,if_true,if_false,true_and,↓qd,qb,setAt,List.set_cons_zero,List.set_cons_succ,Nat.zero_add,Nat.reduceAdd];apply hK;clear hK K;refine qO ?_;try simp only[Qi]
    refine QR (?_) ?_
    ·simp+decide only[QE,qw,qj,Slots.get,if_true,if_false,and_true,qw,qj,qg qdz qab,Qc,qf,List.getD_cons_zero,List.getD_cons_succ,Nat.zero_add,Nat.reduceAdd,qD,qi,qE,QU,allLive,Bool.and_true,qf,List.getD_cons_zero,List.getD_cons_succ,Nat.zero_add,Nat.reduceAdd,qD,qi,qE,QU,allLive,Bool.and_true]
    simp+decide only[Slots.get,if_true,if_false,Xj,qw,qj,qg qdz qab,Qc,qf,List.getD_cons_zero,List.getD_cons_succ,Nat.zero_add,Nat.reduceAdd,qD,qi,qE,QU,allLive,Bool.and_true,qf,List.getD_cons_zero,List.getD_cons_succ,Nat.zero_add,Nat.reduceAdd,qD,qi,qE,QU,allLive,Bool.and_true];have ho':O=noStm at_:=by
     rw[ho];unfold UF;simp only[hb5,if_true,Bool.true_eq_false,if_false]
    rw[ho'];exact⟨G.set k0q0 ⟨[.int .u8 0, .str [], .int .i64 0, .int .i64 0, .bool false, .nilSlice],0⟩,Sub.set_both (Sub.trans_set hsG (Sub.none hsG hn_13q1)) _ _,Zz g2 hd0 _,(AHeap.set_ne _ _ ne_0q0_p.symm).trans g3, .nilSlice,B,rfl,NewE.refl _ _,hsB.trans (Zz g2 hd0 _),IsReps.none⟩
   ·try simp only[Bool.not_eq_false']at hb5
    have ho':O=⟨true,t,qs.map (·.1),at_+1⟩:=by
     rw[ho];unfold UF;simp only[hb5,if_false,Bool.true_eq_false]
    refine qP ?_;change Awp _ _ _ _ _ _ _;refine awp_rseq [2,4] (by rfl) fun K hK=>?_;simp+decide only[ev,qH,qF,putD,Slots.put,Slots.get,if_true,if_false,true_and,↓qh,qc,↓Qk,qM,Qn,↓qC,qm,YL,↓qG,qY,qy ag3,↓qA,ql,qB,cond_false,qo,QY,QO,ne_eq,not_false_eq_true,ne_13q1_p.symm,Qy wz eb_p,List.getD_cons_zero,List.getD_cons_succ,Nat.zero_add,qi];try simp(disch:=omega)only[wrap_i64]
    refine qp (by rfl) (by rfl) zqA sz3 (by rfl) (by rfl) zqD (Nat.zero_le _) (by first|rfl|(simp+decide only[ev,putD,Slots.put,Slots.get,if_true,if_false,AVal.cells,QC,Bool.and_true,Bool.true_and,hso,hsn,YP,XY,Ze,XJ])) ?_;simp only[AVal.cells];simp+decide only[qa,ev,putD,Slots.get,Slots.keep,if_true,if_false,setAt,List.set_cons_zero,List.set_cons_succ];apply hK;clear hK K;refine awp_rseq [2,3] (by rfl) fun K hK=>?_;simp+decide only[ev,putD,Slots.put,Slots.get,if_true,if_false,true_and,↓qG,qY,qg qdz qab,QO,ne_eq,not_false_eq_true,ne_13q1_3q11.symm,Qy wz eb_3q11,ne_3q11_p,qf,List.getD_cons_zero,List.getD_cons_succ,Nat.zero_add,Nat.reduceAdd,qD,qi,qE,allLive,Bool.and_true,hbl];refine qp (by rfl) (by rfl) zqA qab (by rfl) (by rfl) zqD (Nat.zero_le _) (by first|rfl|(simp+decide only[ev,Slots.get,if_true,if_false,AVal.cells,QC,Bool.and_true,YP,XY,Ze,XJ])) ?_;simp only[AVal.cells];simp+decide only[qa,ev,qH,qF,putD,Slots.put,Slots.get,Slots.keep,if_true,if_false,true_and,↓qd,qb,setAt,List.set_cons_zero,List.set_cons_succ,Nat.zero_add,Nat.reduceAdd];apply hK;clear hK K;refine qO ?_;refine QR (?_) ?_
    ·simp+decide only[QE,qw,qj,Slots.get,if_true,if_false,and_true,qw,qj,qg qdz qab,Qc,qf,List.getD_cons_zero,List.getD_cons_succ,Nat.zero_add,Nat.reduceAdd,qD,qi,qE,allLive,Bool.and_true,qf,List.getD_cons_zero,List.getD_cons_succ,Nat.zero_add,Nat.reduceAdd,qD,qi,qE,allLive,Bool.and_true,hbl]
    simp+decide only[Slots.get,if_true,if_false,Xj,qw,qj,qg qdz qab,Qc,qf,List.getD_cons_zero,List.getD_cons_succ,Nat.zero_add,Nat.reduceAdd,qD,qi,qE,allLive,Bool.and_true,qf,List.getD_cons_zero,List.getD_cons_succ,Nat.zero_add,Nat.reduceAdd,qD,qi,qE,allLive,Bool.and_true,hbl];rw[ho'];have k1:bufOk ((G.set kp ⟨[.slice lc o l.length c, .int .i64 ((at_+1:Nat):Int)],0⟩).set k0q0 ⟨[.int .u8 t.kind.toNat, .str t.text, .int .i64 t.line, .int .i64 t.col, .bool t.left,QA 2 pb],0⟩) 2 pb:=ZP (ZP g6 g3 _) ((AHeap.set_ne _ _ ne_0q0_p).trans g4) _;have k2:bufOk B 2 pb:=g6.sub (hsB.trans g2);have k3:=(newE_buf (B:=B) g6 g2 g3).resolve_right (fun n=>n k2);refine⟨QG ((G.set kp ⟨[.slice lc o l.length c, .int .i64 ((at_+1:Nat):Int)],0⟩).set k0q0 ⟨[.int .u8 t.kind.toNat, .str t.text, .int .i64 t.line, .int .i64 t.col, .bool t.left,QA 2 pb],0⟩) pb,?_,?_,?_,QA 2 pb,QG B pb,rfl,k3,?_,qs,rfl,IsL.buf k2 (by decide) g7 repQC_wide (Sub.refl _),fun q hq=>(g8 q hq).mono k3.sub⟩
    ·rw[<-Wo (ZP g6 g3 _) ((AHeap.set_ne _ _ ne_0q0_p).trans g4),<-Wo g6 g3,<-hH7]
     exact Sub.set_both (Sub.set_both (Sub.set hn_13q1) _ _) _ _
    ·exact(Zz (Zz g2 (ZV kp) _) hd0 _).trans (Sub.buf k1)
    ·exact ZR k1 ((AHeap.set_ne _ _ ne_0q0_p.symm).trans (AHeap.set_same _ _ _))
    ·exact Sub.bufBoth (hsB.trans (Zz (Zz g2 (ZV kp) _) hd0 _))
end Go.Proofs.YtlhhaagmakhilaaGreatDoor
namespace Go.Proofs.YtlhhaagmakhilaaGreatDoor
open Go.AM
open Go.Proofs
open Go.Col
open Go.Tok
open Go.Cop
open Go.RowKit (Below)
set_option maxRecDepth 100000
theorem copy_step{l:List TokC}{i:Nat}(hi:i<l.length):XE l i=if XL l i COPY=true then i else XE l (i+1):=by
 have hw:XL l i COPY=(decide ((l.getD i noT).kind=1) && decide ((l.getD i noT).text=COPY)):=by
  unfold XL XB;rw[decide_eq_true hi,Bool.true_and];congr 1;simp
 unfold XE;rw[qeT noT hi,List.takeWhile_cons,hw];cases (decide ((l.getD i noT).kind=1) && decide ((l.getD i noT).text=COPY))with
 |true=>simp
 |false=>
  simp only[Bool.not_false,if_true,Bool.false_eq_true,if_false,List.length_cons];omega
theorem copy_end{l:List TokC}{i:Nat}(hi:l.length<=i):XE l i=i:=by
 unfold XE;rw[List.drop_eq_nil_of_le hi];rfl
theorem NewE.none{B H E:AHeap}(h:NewE B H E){k:Nat}{c:Blk}(hk:H k=some c)(hb:B k=Option.none):E k=Option.none:=h.off k (by rw[hk];exact fun e=>by cases e) hb
def nextV(b:AVal)(t:TokC)(rv:AVal)(more:Bool)(f:FaultC):AVal:= .tuple [b, .agg (stmC t rv), .bool more,Qz f]
def NextR(wz:World)(H B:AHeap)(kp:Nat)(v:AVal)(l:List TokC)(i:Nat)(r:AVal)(h':AHeap):Prop:=
 Sub (H.del kp) h'/\∃j:Nat,h' kp=some ⟨[v, .int .i64 j],0⟩/\j<=l.length/\
  ((l.length<=XE l i/\∃bv,r=nextV bv noT .nilSlice false okF/\IsL wz B 5 bv ((l.drop i).map QK))\/
   (XE l i<l.length/\(Xi l (XE l i+1)).ok=false/\r=nextV .nilSlice noT .nilSlice false (qdo l (XE l i) (Xi l (XE l i+1)).at_))\/
   (XE l i<l.length/\(Xi l (XE l i+1)).ok=true/\j=(Xi l (XE l i+1)).at_/\∃bv rv E,r=nextV bv (Xi l (XE l i+1)).name rv true okF/\IsL wz B 5 bv ((qbn l i (XE l i)).map QK)/\NewE B H E/\Sub E h'/\IsReps wz E rv (Xi l (XE l i+1)).reps))
set_option maxHeartbeats 2000000 in
theorem c_nextP(wz:World)(H B:AHeap)(kp:Nat)(v:AVal)(l:List TokC)(i:Nat)(eb_p:H kp=some ⟨[v, .int .i64 i],0⟩)(hs_H:Sub B H)(hb:B kp=none)(hv:IsL wz B 5 v (l.map QK))(hl:l.length<=1000000)(hi:i<=l.length):
 ACall Tryz.prog wz 43 [.ptr (.own kp) 0] H (NextR wz H B kp v l i):=by
 have hlv:=hv.live;have nv:=Zp hv;have hdel:Sub (H.del kp) H:=fun j b hj=>by
  by_cases e:j=kp
  ·subst e;rw[ZV]at hj;cases hj
  ·simpa[AHeap.del,e]using hj
 have hd_p:(H.del kp) kp=none:=ZV kp;have hsB:Sub B (H.del kp):=qce hs_H hb;have hsl:∀a b,(subL 5 v a b).live=true:=fun a b=>Yj (qfB hv ⟨true,a,b,0⟩);have hrl:(AVal.bool true).live=true:=rfl;have hrc:(AVal.bool true).scal=true:=rfl;refine qU (n:=95) (rs:=[.tmp 2, .cell 3 91, .tmp 4, .cell 5 35]) Tryz.func43 rfl rfl rfl rfl (Nat.le_of_ble_eq_true rfl) ?_;simp only[Qe];refine awp_rseq [0,3,5] (by rfl) fun K hK=>?_;simp+decide only[ev,qH,qF,putD,Slots.put,if_false,true_and,↓qd,qb];refine Qj ze91 (cs:=[.int .u8 0, .str [], .int .i64 0, .int .i64 0, .bool false, .nilSlice]) (by rfl) fun k0q1 hk0q1=>?_;have hn_0q1:H k0q1=none:=by first|assumption|(simp only[AHeap.set_none]at hk0q1;simp only[hk0q1])
 have hf_0q1:B k0q1=none:=Sub.none hs_H hn_0q1;have ne_0q1_p:k0q1≠kp:=AHeap.ne_some hn_0q1 eb_p;simp+decide only[ev,qH,qF,putD,Slots.put,if_false,true_and,↓qd,qb];refine Qj qbc (cs:=[.int .i64 0, .int .i64 0, .int .i64 0]) (by rfl) fun k0q3 hk0q3=>?_;have ne_0q3_0q1:k0q3≠k0q1:=by simp only[AHeap.set_none]at hk0q3;simp only[hk0q3,ne_eq,not_false_eq_true]
 have hn_0q3:H k0q3=none:=by first|assumption|(simp only[AHeap.set_none]at hk0q3;simp only[hk0q3])
 have hf_0q3:B k0q3=none:=Sub.none hs_H hn_0q3;have ne_0q3_p:k0q3≠kp:=AHeap.ne_some hn_0q3 eb_p;simp+decide only[qa,putD,Slots.put,Slots.keep,if_true,if_false];apply hK;clear hK K;obtain⟨H0,hH0⟩:∃H0,H0=(H.set k0q1 ⟨[.int .u8 0, .str [], .int .i64 0, .int .i64 0, .bool false, .nilSlice],0⟩).set k0q3 ⟨[.int .i64 0, .int .i64 0, .int .i64 0],0⟩:=⟨_,rfl⟩
 refine Awp.forget (h':=H0) (by rw[hH0];exact Sub.refl _) ?_;have hs_H0:Sub B H0:=by rw[hH0];exact zqB
 have hd0:Sub (H.del kp) H0:=by rw[hH0];exact hdel.trans (Sub.trans_set (Sub.set hn_0q1) hn_0q3)
 have eb_p:H0 kp=some ⟨[v, .int .i64 i],0⟩:=by rw[hH0];exact zqA
 have eb_0q1:H0 k0q1=some ⟨[.int .u8 0, .str [], .int .i64 0, .int .i64 0, .bool false, .nilSlice],0⟩:=by rw[hH0];exact zqA
 have eb_0q3:H0 k0q3=some ⟨[.int .i64 0, .int .i64 0, .int .i64 0],0⟩:=by rw[hH0];exact zqA
 have hd_0q1:(H.del kp) k0q1=none:=hdel.none hn_0q1;have hd_0q3:(H.del kp) k0q3=none:=hdel.none hn_0q3;clear hH0;refine awp_rseq [0,3,5,6] (by rfl) fun K hK=>?_;simp+decide only[qa,ev,putD,Slots.put,Slots.get,Slots.keep,if_true,if_false,true_and,↓qh,qc,↓Qk,qM,Qn,↓qC,qm,YL,↓qG,qY,qy ag3,↓qd,qb,Qy wz eb_p,List.getD_cons_zero,List.getD_cons_succ,Nat.zero_add,qi];apply hK;clear hK K;refine qK ?_;refine Ql ?_;refine Xv [0,3,5,6] (fun j:Nat=>[(0, .ptr (.own kp) 0),(3, .ptr (.own k0q1) 0),(5, .ptr (.own k0q3) 0),(6, .int .i64 i)]) (fun j:Nat=>H0.set kp ⟨[v, .int .i64 j],0⟩) (fun j:Nat=>i<=j/\j<=l.length/\XE l j=XE l i) (fun j:Nat=>l.length-j) i (by rfl) (by rw[set_id eb_p];exact Sub.refl _) ⟨Nat.le_refl _,hi,rfl⟩ ?_;rintro j ⟨hj1,hj2,hj3⟩;obtain⟨H1,hH1⟩:∃H1,H1=H0.set kp ⟨[v, .int .i64 j],0⟩:=⟨_,rfl⟩
 have hs_H1:Sub B H1:=by rw[hH1];exact Zz hs_H0 hb _
 have hd1:Sub (H.del kp) H1:=by rw[hH1];exact Zz hd0 hd_p _
 have eb_p:H1 kp=some ⟨[v, .int .i64 j],0⟩:=by rw[hH1];exact AHeap.set_same _ _ _
 have eb_0q1:H1 k0q1=some ⟨[.int .u8 0, .str [], .int .i64 0, .int .i64 0, .bool false, .nilSlice],0⟩:=by rw[hH1];exact zqA
 have eb_0q3:H1 k0q3=some ⟨[.int .i64 0, .int .i64 0, .int .i64 0],0⟩:=by rw[hH1];exact zqA
 rw[<-hH1];refine qK ?_;refine Zn [0,3,5,6,23] mixed (by kernel_rfl) (by rfl) (by rfl) fun K hK=>?_;simp+decide only[qa,ev,putD,Slots.put,Slots.get,Slots.keep,if_true,if_false,true_and,↓qh,qc,↓Qk,qM,Qn,↓qC,qm,YL,↓qG,qY,qy ag3,UY,qy UJ,↓Xo,QD,↓qA,ql,qR,cond_false,qo,XP,Qy wz eb_p,List.getD_cons_zero,List.getD_cons_succ,Nat.zero_add,qi,hlv,nv];apply hK;clear hK K;refine qJ (b:=_) rfl (fun hb1=>?_) (fun hb1=>?_)
 ·try simp only[decide_eq_true_eq]at hb1
  have hjl:j<l.length:=by omega
  obtain⟨W,hW⟩:∃W,W=XL l j COPY:=⟨_,rfl⟩
  have hcs:=copy_step hjl;rw[<-hW]at hcs;refine qP ?_;change Awp _ _ _ _ _ _ _;refine Ql ?_;refine awp_rseq [0,3,5,6,7] (by rfl) fun K hK=>?_;simp+decide only[qa,ev,putD,Slots.put,Slots.get,Slots.keep,if_true,if_false,true_and,↓qh,qc,↓Qk,qM,Qn,↓qC,qm,YL,↓qG,qY,qy ag3,↓qd,qb,Qy wz eb_p,List.getD_cons_zero,List.getD_cons_succ,Nat.zero_add,qi];apply hK;clear hK K;refine qK ?_;refine awp_rseq [0,3,5,6,7,30] (by rfl) fun K hK=>?_;simp+decide only[ev,putD,Slots.put,Slots.get,if_true,if_false,true_and,↓qh,qc];refine QN (by rfl) (by rfl) (c_wordH wz _ B kp _ l j COPY zqA zqB hv (by omega)) fun x4q1 h4q1 hx4q1=>?_;rw[<-hW]at hx4q1;obtain⟨rfl,rfl⟩:=hx4q1;simp+decide only[qa,ev,putD,Slots.put,Slots.get,Slots.keep,if_true,if_false,true_and,↓YA,XU,Yi];apply hK;clear hK K;refine qJ (b:=_) rfl (fun hb2=>?_) (fun hb2=>?_)
  ·try simp only[Bool.not_eq_true']at hb2
   rw[if_neg (by simpa using hb2)]at hcs;have hWf:W=false:=by simpa using hb2
   rw[hWf,if_neg (by decide)];refine awp_rseq [0,3,5,6] (by rfl) fun K hK=>?_;simp+decide only[ev,qH,qF,putD,Slots.put,Slots.get,if_true,if_false,true_and,↓qh,qc,↓Qk,qM,Qn,↓qC,qm,YL,↓qG,qY,qy ag3,↓qA,ql,qB,cond_false,qo,QY,QP,List.getD_cons_zero,List.getD_cons_succ,Nat.zero_add,qi];try simp(disch:=omega)only[wrap_i64]
   refine qp (by rfl) (by rfl) zqA sz3 (by rfl) (by rfl) zqD (Nat.zero_le _) (by first|rfl|(simp+decide only[ev,putD,Slots.put,Slots.get,if_true,if_false,AVal.cells,QC,Bool.and_true,Bool.true_and,hrc,XY,Ze,XJ])) ?_;simp only[AHeap.set_set,AVal.cells];simp+decide only[qa,ev,putD,Slots.get,Slots.keep,if_true,if_false,setAt,List.set_cons_zero,List.set_cons_succ];apply hK;clear hK K;refine Xy ?_;exact⟨j+1,rfl,by(rw[hH1];simp only[AHeap.set_set];exact Sub.refl _),⟨by omega,hjl,by rw[<-hcs];exact hj3⟩,by omega⟩
  ·try simp only[Bool.not_eq_false']at hb2
   rw[if_pos (by simpa using hb2)]at hcs;have hci:XE l i=j:=by rw[<-hj3];exact hcs
   have hWt:W=true:=by simpa using hb2
   rw[hWt,if_pos rfl];refine qP ?_;change Awp _ _ _ _ _ _ _;refine awp_rseq [0,3,5,6,7,8,9] (by rfl) fun K hK=>?_;simp+decide only[ev,putD,Slots.put,Slots.get,if_true,if_false,true_and,↓qh,qc];refine QN (by rfl) (by rfl) (c_statement wz _ B kp v l (j+1) zqA zqB hb hv hl (by omega)) fun x6q1 h6q1 hx6q1=>?_;obtain⟨st,hst⟩:∃st,st=Xi l (j+1):=⟨_,rfl⟩
   rw[<-hst]at hx6q1;obtain⟨hsub6,eb_p,rv,E,rfl,hE6,hE6s,hrp⟩:=hx6q1;have hstm:=qbg (l:=l) (i:=j+1) (by omega);rw[<-hst]at hstm;have hd6':Sub (H.del kp) ((H1.set kp ⟨[v, .int .i64 ((j+1:Nat):Int)],0⟩).del kp):=qce (Zz hd1 hd_p _) hd_p;have hd6:Sub (H.del kp) h6q1:=hd6'.trans hsub6;have hs_h6q1:Sub B h6q1:=(qce (Zz hs_H1 hb _) hb).trans hsub6;have he_0q1:E k0q1=none:=hE6.none ((AHeap.set_ne _ _ ne_0q1_p).trans eb_0q1) hf_0q1;have he_0q3:E k0q3=none:=hE6.none ((AHeap.set_ne _ _ ne_0q3_p).trans eb_0q3) hf_0q3;have he_p:E kp=none:=hE6.none (AHeap.set_same _ _ _) hb;have hE:NewE B H E:=⟨hE6.sub,fun q h1 h2=>hE6.off q (fun e=>by
    by_cases e2:q=kp
    ·subst e2;rw[AHeap.set_same]at e;cases e
    ·have:(H.del kp) q=none:=(Zz hd1 hd_p _).none e
     simp only[AHeap.del,e2,if_false]at this;exact h1 this) h2⟩
   have eb_0q1:h6q1 k0q1=some ⟨[.int .u8 0, .str [], .int .i64 0, .int .i64 0, .bool false, .nilSlice],0⟩:=hsub6 _ _ (by rw[AHeap.del_set];simp only[AHeap.del,ne_0q1_p,if_false];exact eb_0q1);have eb_0q3:h6q1 k0q3=some ⟨[.int .i64 0, .int .i64 0, .int .i64 0],0⟩:=hsub6 _ _ (by rw[AHeap.del_set];simp only[AHeap.del,ne_0q3_p,if_false];exact eb_0q3);have hrc:rv.scal=true:=by obtain⟨qs,-,q2,-⟩:=hrp;exact q2.scal
   have hrl:=Yj hrc;unfold stmC;simp+decide only[ev,putD,Slots.put,Slots.get,if_true,if_false,true_and,↓qh,qc,↓QW,QH,QS,List.length_cons,List.length_nil,List.getD_cons_zero,List.getD_cons_succ,List.getD_cons_zero,List.getD_cons_succ,Nat.zero_add,Nat.reduceAdd];refine Qj ze91 (cs:=[.int .u8 0, .str [], .int .i64 0, .int .i64 0, .bool false, .nilSlice]) (by rfl) fun k6q5 hk6q5=>?_;have hn_6q5:h6q1 k6q5=none:=by first|assumption|(simp only[AHeap.set_none]at hk6q5;simp only[hk6q5])
   have hf_6q5:B k6q5=none:=Sub.none hs_h6q1 hn_6q5;have ne_6q5_p:k6q5≠kp:=AHeap.ne_some hn_6q5 eb_p;have ne_6q5_0q1:k6q5≠k0q1:=AHeap.ne_some hn_6q5 eb_0q1;have ne_6q5_0q3:k6q5≠k0q3:=AHeap.ne_some hn_6q5 eb_0q3;refine qp (by rfl) (by rfl) zqA qab (by rfl) (by rfl) zqD (Nat.zero_le _) (by first|rfl|(simp+decide only[ev,putD,Slots.put,Slots.get,if_true,if_false,AVal.cells,QC,Bool.and_true,hrc,XY,Ze,XJ])) ?_;simp only[AHeap.set_set,AVal.cells];simp+decide only[qa,ev,putD,Slots.put,Slots.get,Slots.keep,if_true,if_false,true_and,↓qd,qb,setAt,List.set_cons_zero,List.set_cons_succ,Nat.zero_add,Nat.reduceAdd];apply hK;clear hK K;refine qK ?_;refine awp_rseq [0,3,5,6,7,8,44] (by rfl) fun K hK=>?_;simp+decide only[qa,ev,putD,Slots.put,Slots.get,Slots.keep,if_true,if_false,true_and,↓qh,qc,↓YA,XU,Yi];apply hK;clear hK K;refine qJ (b:=_) rfl (fun hb3=>?_) (fun hb3=>?_)
   ·try simp only[Bool.not_eq_true']at hb3
    have hok:st.ok=false:=by simpa using hb3
    obtain⟨lc,o,c,rfl⟩:=Ui hv (by omega);refine Awp.forget (h':=h6q1) (Sub.set hn_6q5) ?_;obtain⟨-,-,e2,e3,-⟩:=qaw (hv.mono hs_h6q1) hjl;have e3':rd wz h6q1 lc (o+j*5+2+1)= .int .i64 (l.getD j Zy).col:=e3;refine awp_rseq [0,3,5] (by rfl) fun K hK=>?_;simp+decide only[ev,qH,qF,putD,Slots.put,Slots.get,if_true,if_false,true_and,↓qh,qc,↓Qk,qM,Qn,↓qC,qm,UY,↓qG,qY,qy UJ,↓QB,Qb Tryz.underlying26 Xa,fa54_2,qg ag33 qbf,↓Qp,↓qW,UE,evP,List.map_cons,List.map_nil,Qy wz eb_p,qf,List.getD_cons_zero,Nat.zero_add,qi,allLive,Bool.and_true,hlv,e2,e3',Int.toNat_natCast];repeat (with_reducible refine And.intro ?_ ?_;· first|trivial|omega|(intro hg;simp only[Bool.and_eq_true,Bool.or_eq_true,Bool.not_eq_true',Bool.and_eq_false_iff,Bool.or_eq_false_iff,Bool.not_eq_false',decide_eq_true_eq,decide_eq_false_iff_not,XV]at hg;omega))
    refine qp (by rfl) (by rfl) zqA QI (by rfl) (by rfl) zqD (Nat.zero_le _) (by first|rfl|(simp+decide only[ev,putD,Slots.put,Slots.get,if_true,if_false,AVal.cells,QC,Bool.and_true,Bool.true_and,hrc,XY,Ze,XJ])) ?_;simp only[AVal.cells];simp+decide only[qa,ev,putD,Slots.get,Slots.keep,if_true,if_false,setAt,List.set_cons_zero,List.set_cons_succ,Nat.zero_add,Nat.reduceAdd];apply hK;clear hK K;refine qK ?_;refine Zn [0,3,5,63] mixed (by kernel_rfl) (by rfl) (by rfl) fun K hK=>?_;simp+decide only[qa,ev,putD,Slots.put,Slots.get,Slots.keep,if_true,if_false,true_and,↓qh,qc,↓Qk,qM,Qn,↓qC,qm,YL,↓qG,qY,qy ag3,UY,qy UJ,↓Xo,QD,ZI Tryz.underlying26,↓qA,ql,qR,cond_false,qo,XP,QO,ne_eq,not_false_eq_true,Qy wz eb_p,ne_0q3_p.symm,List.getD_cons_zero,List.getD_cons_succ,Nat.zero_add,qi,hlv];apply hK;clear hK K;refine qJ (b:=_) rfl (fun hb4=>?_) (fun hb4=>?_)
    ·try simp only[decide_eq_true_eq]at hb4
     have hat:st.at_<l.length:=by omega
     obtain⟨-,-,d2,d3,-⟩:=qaw (hv.mono (Zz hs_h6q1 hf_0q3 ⟨[.int .i64 4, .int .i64 (l.getD j Zy).line, .int .i64 (l.getD j Zy).col],0⟩)) hat;have d3':rd wz (h6q1.set k0q3 ⟨[.int .i64 4, .int .i64 (l.getD j Zy).line, .int .i64 (l.getD j Zy).col],0⟩) lc (o+st.at_*5+2+1)= .int .i64 (l.getD st.at_ Zy).col:=d3;refine qaL 12 mixed (by kernel_rfl) (by rfl) (by rfl) ?_;simp+decide only[ev,putD,Slots.put,Slots.get,if_true,if_false,true_and,↓qh,qc,↓Qk,qM,Qn,↓qC,qm,UY,↓qG,qY,qy UJ,YL,qy ag3,↓QB,Qb Tryz.underlying26 Xa,fa54_2,qg ag33 qbf,fa35_1,QO,ne_eq,not_false_eq_true,Qy wz eb_p,ne_0q3_p.symm,qf,List.getD_cons_zero,List.getD_cons_succ,Nat.zero_add,qi,allLive,Bool.and_true,hlv,d2,d3',Int.toNat_natCast];repeat (with_reducible refine And.intro ?_ ?_;· first|trivial|omega|(intro hg;simp only[Bool.and_eq_true,Bool.or_eq_true,Bool.not_eq_true',Bool.and_eq_false_iff,Bool.or_eq_false_iff,Bool.not_eq_false',decide_eq_true_eq,decide_eq_false_iff_not,XV]at hg;omega))
     refine qp (by rfl) (by rfl) zqA qbf (by rfl) (by rfl) zqD (Nat.zero_le _) (by first|rfl|(simp+decide only[ev,putD,Slots.put,Slots.get,if_true,if_false,AVal.cells,QC,Bool.and_true,Bool.true_and,hrc,XY,Ze,XJ])) ?_;simp only[AHeap.set_set,AVal.cells];simp+decide only[qa,ev,putD,Slots.get,if_true,if_false,setAt,List.set_cons_zero,List.set_cons_succ,Nat.reduceAdd];change Awp _ _ _ _ _ _ _;refine awp_dseq_G 3 [1] [k0q3] [2,3,4,5] mixed (by kernel_rfl) (by rfl) fun K hK=>?_;simp only[List.take_succ_cons,List.take_zero,List.drop_succ_cons,List.drop_zero];simp+decide only[Yr,ev,qH,qF,putD,Slots.put,Slots.get,if_true,if_false,true_and,↓Us,↓qW,bld91_,evP,List.map_nil,↓Zv,XF,qg Xt QI,↓qbw,qb,QP,qf,List.getD_cons_zero,List.getD_cons_succ,Nat.zero_add,Nat.reduceAdd,qi,allLive,Bool.and_true];refine And.intro (by simp(decide:=true) [qcs,ev,Slots.get]) ?_;refine qbu ?_;refine qp (by rfl) (by rfl) zqA qab (by rfl) (by rfl) zqD (Nat.zero_le _) (by first|rfl|(simp+decide only[ev,putD,Slots.put,Slots.get,if_true,if_false,AVal.cells,QC,Bool.and_true,Bool.true_and,hrc,XY,Ze,XJ])) ?_;simp only[AVal.cells];rw[qa];refine And.intro (by intro k hk;simp only[List.mem_cons,List.not_mem_nil,or_false]at hk;first|rfl|(first|subst hk|(rcases hk with rfl|rfl|rfl|rfl|rfl));all_goals (simp[AHeap.set,ne_0q3_0q1]<;>rfl)) ?_;simp+decide only[ev,qH,qF,putD,Slots.put,Slots.get,if_true,if_false,true_and,↓kp_assign,qb,setAt,List.set_cons_zero,List.set_cons_succ,Nat.zero_add,Nat.reduceAdd];refine qbu ?_;refine qp (by rfl) (by rfl) zqA QI (by rfl) (by rfl) zqD (Nat.zero_le _) (by first|rfl|(simp+decide only[ev,putD,Slots.put,Slots.get,if_true,if_false,AVal.cells,QC,Bool.and_true,Bool.true_and,hrc,XY,Ze,XJ])) ?_;simp only[AVal.cells];rw[qa];refine And.intro (by intro k hk;simp only[List.mem_cons,List.not_mem_nil,or_false]at hk;first|rfl|(first|subst hk|(rcases hk with rfl|rfl|rfl|rfl|rfl));all_goals (simp[AHeap.set,ne_0q3_0q1]<;>rfl)) ?_;simp+decide only[kOps_nil,ev,putD,Slots.get,Slots.keep,if_true,if_false,setAt,List.set_cons_zero,List.set_cons_succ,Nat.zero_add,Nat.reduceAdd];apply hK;clear hK K;refine qO ?_;try simp only[Qi,Qw]
     refine QR (?_) ?_
     ·simp+decide only[QE,qw,qj,Slots.get,if_true,if_false,and_true,qw,qj,qg qdz qab,qg Xt QI,Qc,qf,List.getD_cons_zero,List.getD_cons_succ,Nat.zero_add,Nat.reduceAdd,qD,qi,qE,QU,allLive,Bool.and_true,QO,ne_eq,not_false_eq_true,ne_0q3_0q1.symm,qf,List.getD_cons_zero,List.getD_cons_succ,Nat.zero_add,Nat.reduceAdd,qD,qi,qE,QU,allLive,Bool.and_true]
     simp+decide only[Slots.get,if_true,if_false,qcf,qw,qj,qg qdz qab,qg Xt QI,Qc,qf,List.getD_cons_zero,List.getD_cons_succ,Nat.zero_add,Nat.reduceAdd,qD,qi,qE,QU,allLive,Bool.and_true,QO,ne_eq,not_false_eq_true,ne_0q3_0q1.symm,qf,List.getD_cons_zero,List.getD_cons_succ,Nat.zero_add,Nat.reduceAdd,qD,qi,qE,QU,allLive,Bool.and_true];refine⟨_,Sub.refl _,zqB,st.at_,zqA,hstm.2.1, .inr (.inl ⟨by rw[hci];exact hjl,by rw[hci,<-hst];exact hok,?_⟩)⟩;rw[hci,<-hst];unfold nextV Qz qdo;rw[if_pos hat];rfl
    ·try simp only[decide_eq_false_iff_not]at hb4
     refine qP ?_;change Awp _ _ _ _ _ _ _;refine awp_dseq_G 3 [1] [k0q3] [2,3,4,5] mixed (by kernel_rfl) (by rfl) fun K hK=>?_;simp only[List.take_succ_cons,List.take_zero,List.drop_succ_cons,List.drop_zero];simp+decide only[Yr,ev,qH,qF,putD,Slots.put,Slots.get,if_true,if_false,true_and,↓Us,↓qW,bld91_,evP,List.map_nil,↓Zv,XF,qg Xt QI,↓qbw,qb,QP,qf,List.getD_cons_zero,List.getD_cons_succ,Nat.zero_add,Nat.reduceAdd,qi,allLive,Bool.and_true];refine And.intro (by simp(decide:=true) [qcs,ev,Slots.get]) ?_;refine qbu ?_;refine qp (by rfl) (by rfl) zqA qab (by rfl) (by rfl) zqD (Nat.zero_le _) (by first|rfl|(simp+decide only[ev,putD,Slots.put,Slots.get,if_true,if_false,AVal.cells,QC,Bool.and_true,Bool.true_and,hrc,XY,Ze,XJ])) ?_;simp only[AVal.cells];rw[qa];refine And.intro (by intro k hk;simp only[List.mem_cons,List.not_mem_nil,or_false]at hk;first|rfl|(first|subst hk|(rcases hk with rfl|rfl|rfl|rfl|rfl));all_goals (simp[AHeap.set,ne_0q3_0q1]<;>rfl)) ?_;simp+decide only[ev,qH,qF,putD,Slots.put,Slots.get,if_true,if_false,true_and,↓kp_assign,qb,setAt,List.set_cons_zero,List.set_cons_succ,Nat.zero_add,Nat.reduceAdd];refine qbu ?_;refine qp (by rfl) (by rfl) zqA QI (by rfl) (by rfl) zqD (Nat.zero_le _) (by first|rfl|(simp+decide only[ev,putD,Slots.put,Slots.get,if_true,if_false,AVal.cells,QC,Bool.and_true,Bool.true_and,hrc,XY,Ze,XJ])) ?_;simp only[AVal.cells];rw[qa];refine And.intro (by intro k hk;simp only[List.mem_cons,List.not_mem_nil,or_false]at hk;first|rfl|(first|subst hk|(rcases hk with rfl|rfl|rfl|rfl|rfl));all_goals (simp[AHeap.set,ne_0q3_0q1]<;>rfl)) ?_;simp+decide only[kOps_nil,ev,putD,Slots.get,Slots.keep,if_true,if_false,setAt,List.set_cons_zero,List.set_cons_succ,Nat.zero_add,Nat.reduceAdd];apply hK;clear hK K;refine qO ?_;try simp only[Qi,Qw]
     refine QR (?_) ?_
     ·simp+decide only[QE,qw,qj,Slots.get,if_true,if_false,and_true,qw,qj,qg qdz qab,qg Xt QI,Qc,qf,List.getD_cons_zero,List.getD_cons_succ,Nat.zero_add,Nat.reduceAdd,qD,qi,qE,QU,allLive,Bool.and_true,QO,ne_eq,not_false_eq_true,ne_0q3_0q1.symm,qf,List.getD_cons_zero,List.getD_cons_succ,Nat.zero_add,Nat.reduceAdd,qD,qi,qE,QU,allLive,Bool.and_true]
     simp+decide only[Slots.get,if_true,if_false,qcf,qw,qj,qg qdz qab,qg Xt QI,Qc,qf,List.getD_cons_zero,List.getD_cons_succ,Nat.zero_add,Nat.reduceAdd,qD,qi,qE,QU,allLive,Bool.and_true,QO,ne_eq,not_false_eq_true,ne_0q3_0q1.symm,qf,List.getD_cons_zero,List.getD_cons_succ,Nat.zero_add,Nat.reduceAdd,qD,qi,qE,QU,allLive,Bool.and_true];refine⟨_,Sub.refl _,zqB,st.at_,zqA,hstm.2.1, .inr (.inl ⟨by rw[hci];exact hjl,by rw[hci,<-hst];exact hok,?_⟩)⟩;rw[hci,<-hst];unfold nextV Qz qdo;rw[if_neg (by omega)];rfl
   ·try simp only[Bool.not_eq_false']at hb3
    have hok:st.ok=true:=by simpa using hb3
    have hsl2:=hv.slice Tryz.underlying26 Xa (some (.int .i64 i)) (some (.int .i64 j)) (l:=i) (r:=j) rfl rfl (by omega) (by omega) (by rw[List.length_map];omega);refine qP ?_;change Awp _ _ _ _ _ _ _;refine YM 10 [8] [2,3,4,5] mixed (by kernel_rfl) (by rfl) fun K hK=>?_;simp only[List.take_succ_cons,List.take_zero,List.drop_succ_cons,List.drop_zero];simp+decide only[Yr,ev,qH,qF,putD,Slots.put,Slots.get,if_true,if_false,true_and,↓XK,qc,↓WH,qM,Qn,↓ZG,qm,UY,↓Zv,XF,qy UJ,↓fp_slice,Zu,evO,qg qdz qab,↓Us,↓qW,ZJ,evP,List.map_nil,↓qbw,qb,QO,ne_eq,not_false_eq_true,ne_6q5_p.symm,Qy wz eb_p,QP,qf,List.getD_cons_zero,List.getD_cons_succ,Nat.zero_add,Nat.reduceAdd,qD,qi,qE,allLive,Bool.and_true,hlv,hrl,hsl2];refine qp (by rfl) (by rfl) zqA qab (by rfl) (by rfl) zqD (Nat.zero_le _) (by first|rfl|(simp+decide only[ev,Slots.get,if_true,if_false,AVal.cells,QC,Bool.and_true,hrc,XY,Ze,XJ])) ?_;simp only[AVal.cells];simp+decide only[ev,qH,qF,putD,Slots.put,Slots.get,if_true,if_false,true_and,↓qd,qb,setAt,List.set_cons_zero,List.set_cons_succ,Nat.zero_add,Nat.reduceAdd];refine qp (by rfl) (by rfl) zqA QI (by rfl) (by rfl) zqD (Nat.zero_le _) (by first|rfl|(simp+decide only[ev,putD,Slots.put,Slots.get,if_true,if_false,AVal.cells,QC,Bool.and_true,Bool.true_and,hrc,XY,Ze,XJ])) ?_;simp only[AVal.cells];simp+decide only[qa,ev,putD,Slots.get,Slots.keep,if_true,if_false,setAt,List.set_cons_zero,List.set_cons_succ,Nat.zero_add,Nat.reduceAdd];apply hK;clear hK K;refine qO ?_;try simp only[Qi,Qw]
    refine QR (?_) ?_
    ·simp+decide only[QE,qw,qj,Slots.get,if_true,if_false,and_true,qw,qj,qg qdz qab,qg Xt QI,Qc,qf,List.getD_cons_zero,List.getD_cons_succ,Nat.zero_add,Nat.reduceAdd,qD,qi,qE,allLive,Bool.and_true,QO,ne_eq,not_false_eq_true,ne_0q3_0q1.symm,qf,List.getD_cons_zero,List.getD_cons_succ,Nat.zero_add,Nat.reduceAdd,qD,qi,qE,allLive,Bool.and_true,hrl]
    simp+decide only[Slots.get,if_true,if_false,qcf,qw,qj,qg qdz qab,qg Xt QI,Qc,qf,List.getD_cons_zero,List.getD_cons_succ,Nat.zero_add,Nat.reduceAdd,qD,qi,qE,allLive,Bool.and_true,QO,ne_eq,not_false_eq_true,ne_0q3_0q1.symm,qf,List.getD_cons_zero,List.getD_cons_succ,Nat.zero_add,Nat.reduceAdd,qD,qi,qE,allLive,Bool.and_true,hrl];have hd_6q5:(H.del kp) k6q5=none:=hd6.none hn_6q5;refine⟨_,Sub.refl _,zqB,st.at_,zqA,hstm.2.1, .inr (.inr ⟨by rw[hci];exact hjl,by rw[hci,<-hst];exact hok,by rw[hci,<-hst],subL 5 v i j,rv,E,?_,?_,hE,?_,?_⟩)⟩
    ·rw[hci,<-hst];rfl
    ·rw[hci];exact qec hv (o:=⟨true,i,j,0⟩) hj1 hj2 rfl
    ·have he_6q5:E k6q5=none:=hE6s.none hn_6q5
     exact zqB
    ·rw[hci,<-hst];exact hrp
 ·try simp only[decide_eq_false_iff_not]at hb1
  have hje:j=l.length:=by omega
  have hce:XE l j=j:=copy_end (by omega);have hsl3:=hv.slice Tryz.underlying26 Xa (some (.int .i64 i)) none (l:=i) (r:=l.length) rfl (by rw[List.length_map];rfl) (by omega) (by omega) (by rw[List.length_map];omega);refine Xy ?_;change Awp _ _ _ _ _ _ _;refine awp_rseq [2,3,4,5] (by rfl) fun K hK=>?_;simp+decide only[ev,qH,qF,putD,Slots.put,Slots.get,if_true,if_false,true_and,↓qh,qc,↓Qk,qM,Qn,↓qC,qm,UY,↓qG,qY,qy UJ,↓Ua,Zu,evO,↓Qp,↓qW,bld91_,evP,List.map_nil,ZJ,↓qd,qb,Qy wz eb_p,List.getD_cons_zero,Nat.zero_add,hlv,hsl3];refine qp (by rfl) (by rfl) zqA qab (by rfl) (by rfl) zqD (Nat.zero_le _) (by first|rfl|(simp+decide only[ev,putD,Slots.put,Slots.get,if_true,if_false,AVal.cells,QC,Bool.and_true,Bool.true_and,hrc,XY,Ze,XJ])) ?_;simp only[AVal.cells];simp+decide only[ev,qH,qF,putD,Slots.put,Slots.get,if_true,if_false,true_and,↓qd,qb,setAt,List.set_cons_zero,List.set_cons_succ,Nat.zero_add,Nat.reduceAdd];refine qp (by rfl) (by rfl) zqA QI (by rfl) (by rfl) zqD (Nat.zero_le _) (by first|rfl|(simp+decide only[ev,putD,Slots.put,Slots.get,if_true,if_false,AVal.cells,QC,Bool.and_true,Bool.true_and,hrc,XY,Ze,XJ])) ?_;simp only[AVal.cells];simp+decide only[qa,ev,putD,Slots.get,Slots.keep,if_true,if_false,setAt,List.set_cons_zero,List.set_cons_succ,Nat.zero_add,Nat.reduceAdd];apply hK;clear hK K;refine qO ?_;refine QR (?_) ?_
  ·simp+decide only[QE,qw,qj,Slots.get,if_true,if_false,and_true,qw,qj,qg qdz qab,qg Xt QI,Qc,qf,List.getD_cons_zero,List.getD_cons_succ,Nat.zero_add,Nat.reduceAdd,qD,qi,qE,QU,allLive,Bool.and_true,QO,ne_eq,not_false_eq_true,ne_0q3_0q1.symm,qf,List.getD_cons_zero,List.getD_cons_succ,Nat.zero_add,Nat.reduceAdd,qD,qi,qE,QU,allLive,Bool.and_true]
  simp+decide only[Slots.get,if_true,if_false,qcf,qw,qj,qg qdz qab,qg Xt QI,Qc,qf,List.getD_cons_zero,List.getD_cons_succ,Nat.zero_add,Nat.reduceAdd,qD,qi,qE,QU,allLive,Bool.and_true,QO,ne_eq,not_false_eq_true,ne_0q3_0q1.symm,qf,List.getD_cons_zero,List.getD_cons_succ,Nat.zero_add,Nat.reduceAdd,qD,qi,qE,QU,allLive,Bool.and_true];refine⟨_,Sub.refl _,zqB,j,zqA,hj2, .inl ⟨by rw[<-hj3,hce];omega,subL 5 v i l.length,rfl,?_⟩⟩;have:=qec hv (o:=⟨true,i,l.length,0⟩) hi (Nat.le_refl _) rfl;unfold qbn at this;rw[List.take_of_length_le (by simp[List.length_drop])]at this;exact this
end Go.Proofs.YtlhhaagmakhilaaGreatDoor
namespace Go.Proofs.YtlhhaagmakhilaaGreatDoor
open Go.AM
open Go.Proofs
open Go.Col
open Go.Tok
open Go.Cop
open Go.RowKit (Below)
set_option maxRecDepth 100000
def qaW{α:Type}(p:α->Bool)(l:List α):Int:=match l.findIdx? p with
 |some i=>(i:Int)
 |none=> -1
theorem idxI_some{α:Type}{p:α->Bool}{l:List α}(d:α){i:Nat}(hi:i<l.length)(hp:p (l.getD i d)=true)(hn:∀j,j<i->p (l.getD j d)=false):qaW p l=i:=by
 have:l.findIdx? p=some i:=by
  rw[List.findIdx?_eq_some_iff_getElem];refine⟨hi,?_,fun j hj=>?_⟩
  ·rw[List.getD,List.getElem?_eq_getElem hi]at hp
   exact hp
  ·have:=hn j hj
   rw[List.getD,List.getElem?_eq_getElem (by omega)]at this;simpa using this
 unfold qaW;rw[this]
theorem idxI_none{α:Type}{p:α->Bool}{l:List α}(d:α)(hn:∀j,j<l.length->p (l.getD j d)=false):qaW p l= -1:=by
 have:l.findIdx? p=none:=by
  rw[List.findIdx?_eq_none_iff];intro x hx;obtain⟨j,hj,rfl⟩:=List.getElem_of_mem hx;have:=hn j hj;rw[List.getD,List.getElem?_eq_getElem hj]at this;exact this
 unfold qaW;rw[this]
theorem idxI_map{α β:Type}(f:α->β)(p:β->Bool)(l:List α):qaW p (l.map f)=qaW (fun x=>p (f x)) l:=by
 unfold qaW;rw[List.findIdx?_map];rfl
abbrev MemQ:=MemC×AVal
def memQC(q:MemQ):List AVal:=[.str q.1.name,q.2]
def IsMems(wz:World)(h:AHeap)(v:AVal)(ms:List MemC):Prop:=∃qs:List MemQ,ms=qs.map (·.1)/\IsL wz h 2 v (qs.map memQC)/\∀q∈qs,IsL wz h 5 q.2 (q.1.toks.map QK)
theorem IsMems.mono{wz:World}{h h':AHeap}{v:AVal}{ms:List MemC}(hv:IsMems wz h v ms)(hs:Sub h h'):IsMems wz h' v ms:=by
 obtain⟨qs,h1,h2,h3⟩:=hv;exact⟨qs,h1,h2.mono hs,fun q hq=>(h3 q hq).mono hs⟩
def badM:MemQ:=(⟨[],[]⟩, .nilSlice)
def badR:RepQ:=(⟨[],[]⟩, .nilSlice, .nilSlice)
theorem qaO{α:Type}{l:List α}(d:α){i:Nat}(hi:i<l.length):l.getD i d∈l:=by
 rw[List.getD,List.getElem?_eq_getElem hi];exact List.getElem_mem hi
section
variable {wz:World} {h:AHeap} {v:AVal}
theorem mem_len{qs:List MemQ}(hv:IsL wz h 2 v (qs.map memQC)):∀H:AHeap,Ye Tryz.prog H 28 v=⟨True, .int .i64 qs.length⟩:=by
 have:=hv.len Tryz.underlying28
 rwa [List.length_map]at this
theorem mem_open{qs:List MemQ}(hv:IsL wz h 2 v (qs.map memQC))(hn:0<qs.length):∃lc o c,v= .slice lc o qs.length c:=by
 obtain⟨lc,o,c,e⟩:=hv.open (fun e=>by rw[List.map_eq_nil_iff]at e;subst e;simp at hn);rw[List.length_map]at e;exact⟨lc,o,c,e⟩
theorem mem_at{qs:List MemQ}{lc:AM.Loc}{o:Nat}{c:Cap}(hv:IsL wz h 2 (.slice lc o qs.length c) (qs.map memQC)){i:Nat}(hi:i<qs.length):rd wz h lc (o+i*2)= .str (qs.getD i badM).1.name/\rd wz h lc (o+i*2+1)=(qs.getD i badM).2:=by
 have he:=hv.elem (i:=i) (by rw[List.length_map];exact hi);rw[getD_map badM hi]at he;simp only[qf,memQC,List.cons.injEq,and_true]at he;exact he
theorem rep_len{qs:List RepQ}(hv:IsL wz h 2 v (qs.map qao)):∀H:AHeap,Ye Tryz.prog H 43 v=⟨True, .int .i64 qs.length⟩:=by
 have:=hv.len Tryz.underlying43
 rwa [List.length_map]at this
theorem rep_open{qs:List RepQ}(hv:IsL wz h 2 v (qs.map qao))(hn:0<qs.length):∃lc o c,v= .slice lc o qs.length c:=by
 obtain⟨lc,o,c,e⟩:=hv.open (fun e=>by rw[List.map_eq_nil_iff]at e;subst e;simp at hn);rw[List.length_map]at e;exact⟨lc,o,c,e⟩
theorem rep_at{qs:List RepQ}{lc:AM.Loc}{o:Nat}{c:Cap}(hv:IsL wz h 2 (.slice lc o qs.length c) (qs.map qao)){i:Nat}(hi:i<qs.length):rd wz h lc (o+i*2)=(qs.getD i badR).2.1/\rd wz h lc (o+i*2+1)=(qs.getD i badR).2.2:=by
 have he:=hv.elem (i:=i) (by rw[List.length_map];exact hi);rw[getD_map badR hi]at he;simp only[qf,qao,List.cons.injEq,and_true]at he;exact he
end
theorem c_indexM(wz:World)(h:AHeap)(v:AVal)(qs:List MemQ)(f:FuncId)(cap:List AVal)(p:MemQ->Bool)(hv:IsL wz h 2 v (qs.map memQC))(hq:∀q∈qs,q.2.live=true)(hl:qs.length<=1099511627776)(hfl:(AVal.func f cap).live=true)
 (hf:∀q∈qs,ACall Tryz.prog wz f ([.agg (memQC q)]++cap) h (fun r h'=>r= .bool (p q)/\h'=h)):
 ACall Tryz.prog wz 57 [v, .func f cap] h (fun r h'=>r= .int .i64 (qaW p qs)/\h'=h):=by
 have hlv:=hv.live;have nv:=mem_len hv;refine qU (n:=19) (rs:=[.tmp 4]) Tryz.func57 rfl rfl rfl rfl (Nat.le_of_ble_eq_true rfl) ?_;simp only[Qe];refine awp_rseq [0,1] (by rfl) fun K hK=>?_;simp+decide only[qa,ev,qH,qF,putD,Slots.put,Slots.keep,if_true,if_false,true_and,↓qd,qb,Nat.zero_add];apply hK;clear hK K;refine qK ?_;refine awp_rseq [0,1,7,8] (by rfl) fun K hK=>?_;simp+decide only[qa,ev,qH,qF,putD,Slots.put,Slots.get,Slots.keep,if_true,if_false,true_and,↓qh,qc,↓Xo,QD,nv];apply hK;clear hK K;refine Ql ?_;refine Xv [0,1,7,8] (fun i:Nat=>[(0,v),(1, .func f cap),(7, .int .i64 qs.length),(8, .int .i64 i)]) (fun i:Nat=>h) (fun i:Nat=>i<=qs.length/\∀j,j<i->p (qs.getD j badM)=false) (fun i:Nat=>qs.length-i) 0 (by rfl) (Sub.refl _) ⟨Nat.zero_le _,fun j hj=>by omega⟩ ?_;rintro i ⟨hi,hn⟩;refine awp_rseq [0,1,7,8,9] (by rfl) fun K hK=>?_;simp+decide only[qa,ev,putD,Slots.put,Slots.get,Slots.keep,if_true,if_false,true_and,↓qA,ql,qR,cond_false,qo,XP];apply hK;clear hK K;refine qK (qJ (b:=_) rfl (fun hb1=>?_) (fun hb1=>?_))
 ·try simp only[decide_eq_true_eq]at hb1
  have hi':i<qs.length:=by omega
  obtain⟨lc,o,c,rfl⟩:=mem_open hv (by omega);obtain⟨e0,e1⟩:=mem_at hv hi';obtain⟨q,hqe⟩:∃q,q=qs.getD i badM:=⟨_,rfl⟩
  have hqm:q∈qs:=by rw[hqe];exact qaO badM hi'
  have hql:=hq q hqm;rw[<-hqe]at e0 e1;refine qP ?_;change Awp _ _ _ _ _ _ _;refine qK ?_;refine Ql ?_;refine awp_rseq [0,1,5,7,8] (by rfl) fun K hK=>?_;simp+decide only[qa,ev,putD,Slots.put,Slots.get,Slots.keep,if_true,if_false,true_and,↓qh,qc,↓qd,qb];apply hK;clear hK K;refine awp_rseq [0,1,5,7,8,16] (by rfl) fun K hK=>?_;simp+decide only[ev,putD,Slots.put,Slots.get,if_true,if_false,true_and,↓qh,qc,↓QB,qY,Qb Tryz.underlying28 sz57,↓qG,qg ag57 sz57,qf,qE,allLive,Bool.and_true,e0,e1,hql,Int.toNat_natCast];repeat (with_reducible refine And.intro ?_ ?_;· first|trivial|omega|(intro hg;simp only[Bool.and_eq_true,Bool.or_eq_true,Bool.not_eq_true',Bool.and_eq_false_iff,Bool.or_eq_false_iff,Bool.not_eq_false',decide_eq_true_eq,decide_eq_false_iff_not,XV]at hg;omega))
  refine qN (V:= .bool (p q)) (by rfl) (by rfl) (hf q hqm) ?_;simp+decide only[qa,putD,Slots.put,Slots.keep,if_true,if_false];apply hK;clear hK K;refine qJ (b:=_) rfl (fun hb2=>?_) (fun hb2=>?_)
  ·skip
   refine awp_rseq [4] (by rfl) fun K hK=>?_;simp+decide only[qa,ev,putD,Slots.put,Slots.get,Slots.keep,if_true,if_false,true_and,↓qh,qc,↓qd,qb];apply hK;clear hK K;refine qO ?_;try simp only[Qi,Qw]
   refine Qa h zqC (qZ (Qd)) ?_;simp+decide only[Slots.get,if_true,and_true,Qr];rw[idxI_some badM hi' (by rw[<-hqe];exact hb2) hn]
  ·skip
   refine qP ?_;change Awp _ _ _ _ _ _ _;refine XA [0,1,7,8] (by rfl) ?_;simp+decide only[qa,ev,qH,qF,putD,Slots.put,Slots.get,Slots.keep,if_true,if_false,true_and,↓qA,ql,qB,cond_false,qo,QY,↓qh,qc];try simp(disch:=omega)only[wrap_i64]
   try simp only[Qg]
   exact⟨i+1,rfl,Sub.refl _,⟨hi',fun j hj=>by
    rcases Nat.lt_or_ge j i with z|z
    ·exact hn j z
    ·rw[show j=i by omega,<-hqe];exact hb2⟩,by omega⟩
 ·try simp only[decide_eq_false_iff_not]at hb1
  refine Xy ?_;change Awp _ _ _ _ _ _ _;refine awp_rseq [4] (by rfl) fun K hK=>?_;simp+decide only[qa,ev,qH,qF,putD,Slots.put,Slots.keep,if_true,if_false,true_and,↓qd,qb];apply hK;clear hK K;refine qO ?_;refine Qa h zqC (qZ (Qd)) ?_;simp+decide only[Slots.get,if_true,and_true,Qr];rw[idxI_none badM fun j hj=>hn j (by omega)]
theorem c_indexR(wz:World)(h:AHeap)(v:AVal)(qs:List RepQ)(f:FuncId)(cap:List AVal)(p:RepQ->Bool)(hv:IsL wz h 2 v (qs.map qao))(hq:∀q∈qs,q.2.1.live=true/\q.2.2.live=true)(hl:qs.length<=1099511627776)(hfl:(AVal.func f cap).live=true)
 (hf:∀q∈qs,ACall Tryz.prog wz f ([.agg (qao q)]++cap) h (fun r h'=>r= .bool (p q)/\h'=h)):
 ACall Tryz.prog wz 37 [v, .func f cap] h (fun r h'=>r= .int .i64 (qaW p qs)/\h'=h):=by
 have hlv:=hv.live;have nv:=rep_len hv;refine qU (n:=19) (rs:=[.tmp 4]) Tryz.func37 rfl rfl rfl rfl (Nat.le_of_ble_eq_true rfl) ?_;simp only[Qe];refine awp_rseq [0,1] (by rfl) fun K hK=>?_;simp+decide only[qa,ev,qH,qF,putD,Slots.put,Slots.keep,if_true,if_false,true_and,↓qd,qb,Nat.zero_add];apply hK;clear hK K;refine qK ?_;refine awp_rseq [0,1,7,8] (by rfl) fun K hK=>?_;simp+decide only[qa,ev,qH,qF,putD,Slots.put,Slots.get,Slots.keep,if_true,if_false,true_and,↓qh,qc,↓Xo,QD,nv];apply hK;clear hK K;refine Ql ?_;refine Xv [0,1,7,8] (fun i:Nat=>[(0,v),(1, .func f cap),(7, .int .i64 qs.length),(8, .int .i64 i)]) (fun i:Nat=>h) (fun i:Nat=>i<=qs.length/\∀j,j<i->p (qs.getD j badR)=false) (fun i:Nat=>qs.length-i) 0 (by rfl) (Sub.refl _) ⟨Nat.zero_le _,fun j hj=>by omega⟩ ?_;rintro i ⟨hi,hn⟩;refine awp_rseq [0,1,7,8,9] (by rfl) fun K hK=>?_;simp+decide only[qa,ev,putD,Slots.put,Slots.get,Slots.keep,if_true,if_false,true_and,↓qA,ql,qR,cond_false,qo,XP];apply hK;clear hK K;refine qK (qJ (b:=_) rfl (fun hb1=>?_) (fun hb1=>?_))
 ·try simp only[decide_eq_true_eq]at hb1
  have hi':i<qs.length:=by omega
  obtain⟨lc,o,c,rfl⟩:=rep_open hv (by omega);obtain⟨e0,e1⟩:=rep_at hv hi';obtain⟨q,hqe⟩:∃q,q=qs.getD i badR:=⟨_,rfl⟩
  have hqm:q∈qs:=by rw[hqe];exact qaO badR hi'
  obtain⟨hql,hqr⟩:=hq q hqm;rw[<-hqe]at e0 e1;refine qP ?_;change Awp _ _ _ _ _ _ _;refine qK ?_;refine Ql ?_;refine awp_rseq [0,1,5,7,8] (by rfl) fun K hK=>?_;simp+decide only[qa,ev,putD,Slots.put,Slots.get,Slots.keep,if_true,if_false,true_and,↓qh,qc,↓qd,qb];apply hK;clear hK K;refine awp_rseq [0,1,5,7,8,16] (by rfl) fun K hK=>?_;simp+decide only[ev,putD,Slots.put,Slots.get,if_true,if_false,true_and,↓qh,qc,↓QB,qY,Qb Tryz.underlying43 qfg,↓qG,qg ag46 qfg,qf,allLive,Bool.and_true,e0,e1,hql,hqr,Int.toNat_natCast];repeat (with_reducible refine And.intro ?_ ?_;· first|trivial|omega|(intro hg;simp only[Bool.and_eq_true,Bool.or_eq_true,Bool.not_eq_true',Bool.and_eq_false_iff,Bool.or_eq_false_iff,Bool.not_eq_false',decide_eq_true_eq,decide_eq_false_iff_not,XV]at hg;omega))
  refine qN (V:= .bool (p q)) (by rfl) (by rfl) (hf q hqm) ?_;simp+decide only[qa,putD,Slots.put,Slots.keep,if_true,if_false];apply hK;clear hK K;refine qJ (b:=_) rfl (fun hb2=>?_) (fun hb2=>?_)
  ·skip
   refine awp_rseq [4] (by rfl) fun K hK=>?_;simp+decide only[qa,ev,putD,Slots.put,Slots.get,Slots.keep,if_true,if_false,true_and,↓qh,qc,↓qd,qb];apply hK;clear hK K;refine qO ?_;try simp only[Qi,Qw]
   refine Qa h zqC (qZ (Qd)) ?_;simp+decide only[Slots.get,if_true,and_true,Qr];rw[idxI_some badR hi' (by rw[<-hqe];exact hb2) hn]
  ·skip
   refine qP ?_;change Awp _ _ _ _ _ _ _;refine XA [0,1,7,8] (by rfl) ?_;simp+decide only[qa,ev,qH,qF,putD,Slots.put,Slots.get,Slots.keep,if_true,if_false,true_and,↓qA,ql,qB,cond_false,qo,QY,↓qh,qc];try simp(disch:=omega)only[wrap_i64]
   try simp only[Qg]
   exact⟨i+1,rfl,Sub.refl _,⟨hi',fun j hj=>by
    rcases Nat.lt_or_ge j i with z|z
    ·exact hn j z
    ·rw[show j=i by omega,<-hqe];exact hb2⟩,by omega⟩
 ·try simp only[decide_eq_false_iff_not]at hb1
  refine Xy ?_;change Awp _ _ _ _ _ _ _;refine awp_rseq [4] (by rfl) fun K hK=>?_;simp+decide only[qa,ev,qH,qF,putD,Slots.put,Slots.keep,if_true,if_false,true_and,↓qd,qb];apply hK;clear hK K;refine qO ?_;refine Qa h zqC (qZ (Qd)) ?_;simp+decide only[Slots.get,if_true,and_true,Qr];rw[idxI_none badR fun j hj=>hn j (by omega)]
end Go.Proofs.YtlhhaagmakhilaaGreatDoor
namespace Go.Proofs.YtlhhaagmakhilaaGreatDoor
open Go.AM
open Go.Proofs
open Go.Col
open Go.Tok
open Go.Cop
open Go.RowKit (Below)
set_option maxRecDepth 100000
theorem same_alike:∀l m:List TokC,qbE l m=alike l m
 |[],[]=>rfl
 |[],_::_=>rfl
 |_::_,[]=>rfl
 |a::l,b::m=>by rw[qbE,alike,same_alike l m];rfl
theorem idxI_pos{α:Type}(p:α->Bool)(l:List α):decide (0<=qaW p l)=l.any p:=by
 unfold qaW;cases h:l.findIdx? p with
 |none=>
  rw[List.findIdx?_eq_none_iff]at h;have:l.any p=false:=by rw[List.any_eq_false];intro x hx;simp[h x hx]
  rw[this];rfl
 |some i=>
  rw[List.findIdx?_eq_some_iff_getElem]at h;obtain⟨hi,hp,-⟩:=h;have:l.any p=true:=by rw[List.any_eq_true];exact⟨l[i],List.getElem_mem hi,hp⟩
  rw[this,decide_eq_true_eq];simp only;omega
theorem RepOk.lives{wz:World}{h:AHeap}{q:RepQ}(hq:RepOk wz h q):q.2.1.live=true/\q.2.2.live=true/\q.2.1.scal=true/\q.2.2.scal=true:=⟨hq.old.live,hq.new.live,hq.old.scal,hq.new.scal⟩
theorem c_rep1(wz:World)(h:AHeap)(q:RepQ)(hq:RepOk wz h q):
 ACall Tryz.prog wz 36 [.agg (qao q)] h (fun r h'=>r= .bool (decide (q.1.old=[]))/\h'=h):=by
 obtain⟨h1,h2,h3,h4⟩:=hq.lives;have no:=Zp hq.old;obtain⟨⟨x,y⟩,ov,nv⟩:=q;simp only at h1 h2 h3 h4 no;unfold qao;have e:decide (x=[])=decide ((x.length:Int)=0):=decide_eq_decide.2 ⟨fun e=>by rw[e];rfl,fun e=>List.eq_nil_of_length_eq_zero (by omega)⟩;simp only;rw[e];refine qU (n:=7) (rs:=[.tmp 2]) Tryz.func36 rfl rfl rfl rfl (Nat.le_of_ble_eq_true rfl) ?_;simp only[Qe];refine awp_rseq [1] (by rfl) fun K hK=>?_;refine WE (by rfl) (by rfl) (by rfl) fun k0q0 hk0q0=>?_;try have hf_0q0:h k0q0=none:=by first|assumption|(simp only[AHeap.set_none]at hk0q0;simp only[hk0q0])
 skip;simp+decide only[qa,ev,qH,qF,putD,Slots.put,Slots.get,Slots.keep,if_true,if_false,true_and,↓qd,qb,AVal.cells];apply hK;clear hK K;refine awp_rseq [2] (by rfl) fun K hK=>?_;simp+decide only[qa,ev,qH,qF,putD,Slots.put,Slots.get,Slots.keep,if_true,if_false,true_and,↓qC,qm,fa46_0,↓qG,qY,qy UJ,↓Xo,QD,↓qA,ql,qB,cond_false,qo,XR,↓qd,qb,QP,List.getD_cons_zero,Nat.zero_add,h1,no];apply hK;clear hK K;refine qO ?_;refine Qa h zqC (qZ (Qd)) ?_;simp+decide only[Slots.get,if_true,and_true,Qr];skip
theorem c_contR(wz:World)(h:AHeap)(v:AVal)(qs:List RepQ)(hv:IsL wz h 2 v (qs.map qao))(hq:∀q∈qs,RepOk wz h q)(hl:qs.length<=1099511627776):
 ACall Tryz.prog wz 35 [v, .func 36 []] h (fun r h'=>r= .bool (qs.any fun q=>decide (q.1.old=[]))/\h'=h):=by
 have hlv:=hv.live;refine qU (n:=9) (rs:=[.tmp 4]) Tryz.func35 rfl rfl rfl rfl (Nat.le_of_ble_eq_true rfl) ?_;simp only[Qe];refine awp_rseq [0,1] (by rfl) fun K hK=>?_;simp+decide only[qa,ev,qH,qF,putD,Slots.put,Slots.keep,if_true,if_false,true_and,↓qd,qb,Nat.zero_add];apply hK;clear hK K;refine awp_rseq [4] (by rfl) fun K hK=>?_;simp+decide only[ev,putD,Slots.put,Slots.get,if_true,if_false,true_and,↓qh,qc];refine qN (V:= .int .i64 (qaW (fun q=>decide (q.1.old=[])) qs)) (by rfl) (by rfl) (c_indexR wz _ v qs _ [] (fun q=>decide (q.1.old=[])) hv (fun q hm=>⟨(hq q hm).lives.1,(hq q hm).lives.2.1⟩) hl rfl (fun q hm=>by rw[List.append_nil];exact c_rep1 wz _ q (hq q hm))) ?_;simp+decide only[qa,ev,qH,qF,putD,Slots.put,Slots.get,Slots.keep,if_true,if_false,true_and,↓qA,ql,qB,cond_false,qo,qaC,↓qd,qb];apply hK;clear hK K;refine qO ?_;refine Qa h zqC (qZ (Qd)) ?_;simp+decide only[Slots.get,if_true,and_true,Qr];rw[idxI_pos]
theorem c_rep2Out(wz:World)(h:AHeap)(q:RepQ)(hq:RepOk wz h q)(kl ka:Nat)(lv:AVal)(l:List TokC)(at_:Nat)(eb_l:h kl=some ⟨[lv],0⟩)(eb_a:h ka=some ⟨[.int .i64 at_],0⟩)(hlv:IsL wz h 5 lv (l.map QK))(hl:l.length<=1099511627776)(hat:at_<=l.length)(hout:¬at_+q.1.old.length<=l.length):
 ACall Tryz.prog wz 38 ([.agg (qao q)]++[.ptr (.own kl) 0, .ptr (.own ka) 0]) h (fun r h'=>r= .bool (Ws (l.drop at_) q.1.old)/\h'=h):=by
 obtain⟨h1,h2,h3,h4⟩:=hq.lives;have no:=Zp hq.old;have nl:=Zp hlv;have hll:=hlv.live;have hr:Ws (l.drop at_) q.1.old=false:=by
  unfold Ws;rw[decide_eq_false (by rw[List.length_drop];omega),Bool.false_and]
 rw[hr];obtain⟨⟨x,y⟩,ov,nv⟩:=q;simp only at h1 h2 h3 h4 no hout;have hs_h:Sub h h:=Sub.refl h;have hw1:IntKind.i64.wrap ((l.length:Int)-at_)=(l.length:Int)-at_:=by simp(disch:=omega)only[wrap_i64]
 have hng:¬((x.length:Int)<=l.length-at_):=by omega
 unfold qao;simp only[List.cons_append,List.nil_append];refine qU (n:=26) (rs:=[.tmp 4]) Tryz.func38 rfl rfl rfl rfl (Nat.le_of_ble_eq_true rfl) ?_;simp only[Qe];refine awp_rseq [1,2,3] (by rfl) fun K hK=>?_;refine WE (by rfl) (by rfl) (by rfl) fun k0q0 hk0q0=>?_;have hn_0q0:h k0q0=none:=by first|assumption|(simp only[AHeap.set_none]at hk0q0;simp only[hk0q0])
 have hf_0q0:h k0q0=none:=Sub.none hs_h hn_0q0;have ne_0q0_l:k0q0≠kl:=AHeap.ne_some hn_0q0 eb_l;have ne_0q0_a:k0q0≠ka:=AHeap.ne_some hn_0q0 eb_a;skip;simp+decide only[qa,ev,qH,qF,putD,Slots.put,Slots.get,Slots.keep,if_true,if_false,true_and,↓qd,qb,AVal.cells,Nat.zero_add,Nat.reduceAdd];apply hK;clear hK K;refine WR [4] mixed (by kernel_rfl) (by rfl) fun K hK=>?_;simp+decide only[ev,putD,Slots.put,Slots.get,if_true,if_false,true_and,↓Uy,qm,fa46_0,↓qeB,XF,qy UJ,↓vp_len,QD,qy ag3,↓vp_binOp,ql,qR,cond_false,qo,UH,qea,↓qcU,qc,↓qac,vgP,qcy,qL,qI,qz,implies_true,decide_false,ZC,false_implies,↓vg_load,↓vg_len,↓vg_binOp,↓vg_slice,Zu,evO,QO,ne_eq,not_false_eq_true,ne_0q0_l.symm,ne_0q0_a.symm,Qy wz eb_l,Qy wz eb_a,QP,List.getD_cons_zero,Nat.zero_add,qi,h1,no,nl,hll,hw1,hng];first|refine vOps_gno (by rfl) ?_|refine fOps_gno (by rfl) ?_
 simp+decide only[qbB,ev,qH,qF,putD,Slots.put,Slots.get,Slots.keep,if_true,if_false,true_and,↓vp_pick,Qu,Qh,↓qcw,qb];apply hK;clear hK K;refine qO ?_;refine Qa h zqC (qZ (Qd)) ?_;simp+decide only[Slots.get,if_true,and_true,Qr];all_goals first|rfl|exact⟨rfl,rfl⟩|(simp+decide only[if_true,if_false, *];done)|(trace_state;fail)
theorem c_rep2In(wz:World)(h:AHeap)(q:RepQ)(hq:RepOk wz h q)(kl ka:Nat)(lv:AVal)(l:List TokC)(at_:Nat)(eb_l:h kl=some ⟨[lv],0⟩)(eb_a:h ka=some ⟨[.int .i64 at_],0⟩)(hlv:IsL wz h 5 lv (l.map QK))(hl:l.length<=1099511627776)(hin:at_+q.1.old.length<=l.length):
 ACall Tryz.prog wz 38 ([.agg (qao q)]++[.ptr (.own kl) 0, .ptr (.own ka) 0]) h (fun r h'=>r= .bool (Ws (l.drop at_) q.1.old)/\h'=h):=by
 obtain⟨h1,h2,h3,h4⟩:=hq.lives;have no:=Zp hq.old;have nl:=Zp hlv;have hll:=hlv.live;have hr:Ws (l.drop at_) q.1.old=qbE q.1.old (qbn l at_ (at_+q.1.old.length)):=by
  unfold Ws qbn;rw[decide_eq_true (by rw[List.length_drop];omega),Bool.true_and,same_alike,Nat.add_sub_cancel_left]
 rw[hr];have hoq:=hq.old;obtain⟨⟨x,y⟩,ov,nv⟩:=q;simp only at h1 h2 h3 h4 no hin hoq;have hs_h:Sub h h:=Sub.refl h;have hw1:IntKind.i64.wrap ((l.length:Int)-at_)=(l.length:Int)-at_:=by simp(disch:=omega)only[wrap_i64]
 have hw2:IntKind.i64.wrap ((at_:Int)+x.length)=(at_:Int)+x.length:=by simp(disch:=omega)only[wrap_i64]
 have hg0:(x.length:Int)<=l.length-at_:=by omega
 have hsl:=hlv.slice Tryz.underlying26 Xa (some (.int .i64 at_)) (some (.int .i64 ((at_:Int)+x.length))) (l:=at_) (r:=(at_:Int)+x.length) rfl rfl (by omega) (by omega) (by rw[List.length_map];omega);have hcut:=qec hlv (o:=⟨true,at_,at_+x.length,0⟩) (Nat.le_add_right _ _) hin rfl;have hsv:subL 5 lv ((at_:Int)).toNat (((at_:Int)+x.length)).toNat=qfm lv ⟨true,at_,at_+x.length,0⟩:=by
  rw[show(((at_:Int)+x.length)).toNat=at_+x.length by omega];rfl
 rw[hsv]at hsl;unfold qao;simp only[List.cons_append,List.nil_append];refine qU (n:=26) (rs:=[.tmp 4]) Tryz.func38 rfl rfl rfl rfl (Nat.le_of_ble_eq_true rfl) ?_;simp only[Qe];refine awp_rseq [1,2,3] (by rfl) fun K hK=>?_;refine WE (by rfl) (by rfl) (by rfl) fun k0q0 hk0q0=>?_;have hn_0q0:h k0q0=none:=by first|assumption|(simp only[AHeap.set_none]at hk0q0;simp only[hk0q0])
 have hf_0q0:h k0q0=none:=Sub.none hs_h hn_0q0;have ne_0q0_l:k0q0≠kl:=AHeap.ne_some hn_0q0 eb_l;have ne_0q0_a:k0q0≠ka:=AHeap.ne_some hn_0q0 eb_a;skip;simp+decide only[qa,ev,qH,qF,putD,Slots.put,Slots.get,Slots.keep,if_true,if_false,true_and,↓qd,qb,AVal.cells,Nat.zero_add,Nat.reduceAdd];apply hK;clear hK K;refine WR [4] mixed (by kernel_rfl) (by rfl) fun K hK=>?_;simp+decide only[ev,putD,Slots.put,Slots.get,if_true,if_false,true_and,↓Uy,qm,fa46_0,↓qeB,XF,qy UJ,↓vp_len,QD,qy ag3,↓vp_binOp,ql,qR,cond_false,qo,UH,qea,↓qcU,qc,↓qac,vgP,qcy,qL,qI,qz,implies_true,decide_true,Qv,↓vg_load,↓vg_len,↓vg_binOp,QY,↓vg_slice,Zu,evO,QO,ne_eq,not_false_eq_true,ne_0q0_l.symm,ne_0q0_a.symm,Qy wz eb_l,Qy wz eb_a,QP,List.getD_cons_zero,Nat.zero_add,qi,h1,no,nl,hll,hw1,hw2,hg0,hsl];refine qcV (V:= .bool (qbE x (qbn l at_ (at_+x.length)))) (f:=_) (cap:=_) (xs:=_) (by first|rfl|(simp+decide only[gv,qL,Slots.get,if_true,if_false,QZ,qI])) (fun hg=>⟨rfl,?_⟩) (fun hg=>c_Same wz _ ov _ x _ (hoq.mono zqB) (hcut.mono zqB) (by omega)) ?_
 ·try simp+decide only[gv,qL,Slots.get,if_true,if_false,qz]at hg
  simp+decide only[evs,ev,Slots.get,if_true,if_false,List.append_nil,List.map_cons,List.map_nil]
 simp+decide only[qbB,ev,qH,qF,putD,Slots.put,Slots.get,Slots.keep,if_true,if_false,true_and,gv,qL,qz,↓vp_pick,Qu,Qh,Xg,Xp,↓qcw,qb];apply hK;clear hK K;refine qO ?_;refine Qa h zqC (qZ (Qd)) ?_;simp+decide only[Slots.get,if_true,and_true,Qr];rw[Bool.true_and]
theorem c_rep2(wz:World)(h:AHeap)(q:RepQ)(hq:RepOk wz h q)(kl ka:Nat)(lv:AVal)(l:List TokC)(at_:Nat)(eb_l:h kl=some ⟨[lv],0⟩)(eb_a:h ka=some ⟨[.int .i64 at_],0⟩)(hlv:IsL wz h 5 lv (l.map QK))(hl:l.length<=1099511627776)(hat:at_<=l.length):
 ACall Tryz.prog wz 38 ([.agg (qao q)]++[.ptr (.own kl) 0, .ptr (.own ka) 0]) h (fun r h'=>r= .bool (Ws (l.drop at_) q.1.old)/\h'=h):=by
 by_cases hin:at_+q.1.old.length<=l.length
 ·exact c_rep2In wz h q hq kl ka lv l at_ eb_l eb_a hlv hl hin
 ·exact c_rep2Out wz h q hq kl ka lv l at_ eb_l eb_a hlv hl hat hin
end Go.Proofs.YtlhhaagmakhilaaGreatDoor
namespace Go.Proofs.YtlhhaagmakhilaaGreatDoor
open Go.AM
open Go.Proofs
open Go.Col
open Go.Tok
open Go.Cop
open Go.RowKit (Below)
set_option maxRecDepth 100000
theorem qfJ(v:AVal):Yt (Yt v)=Yt v:=by cases v<;>rfl
def OutR(h:AHeap)(out:List TokC)(v:AVal)(h':AHeap):Prop:=∃tb,v=Yt (QA 5 tb)/\bufOk h 5 tb/\Yu tb=(out.map QK).flatten/\h'=QG h tb
theorem OutR.toks{wz:World}{h h':AHeap}{out:List TokC}{v:AVal}(hr:OutR h out v h'):IsL wz h' 5 v (out.map QK)/\Yt v=v/\Sub h h':=by
 obtain⟨tb,rfl,h1,h2,rfl⟩:=hr;exact⟨(IsL.buf h1 (by decide) h2 Xc (Sub.refl _)).clip,qfJ _,Sub.buf h1⟩
theorem OutR.nil(h:AHeap):OutR h [] .nilSlice h:=⟨none,rfl,trivial,rfl,rfl⟩
theorem bufOk_new{H:AHeap}{es:Nat}{b:Option Buf}{j:Nat}(hb:bufOk H es b)(hj:QG H b j=none)(c:Blk):bufOk (H.set j c) es b:=by
 cases b with
 |none=>trivial
 |some b=>
  have hne:b.blk≠j:=fun e=>by
   rw[<-e,show QG H (some b)=H.set b.blk ⟨b.cells,0⟩from rfl,AHeap.set_same]at hj;cases hj
  exact⟨(AHeap.set_ne _ _ hne).trans hb.1,hb.2⟩
structure RpG where
 at_:Nat
 ka:Nat
 tb:Option Buf
 out:List TokC
structure RpOk(h:AHeap)(k0:Nat)(lv:AVal)(l:List TokC)(rs:List RepC)(s:RpG):Prop where
 at_:s.at_<=l.length
 new:h s.ka=none/\s.ka≠k0
 ok:bufOk ((h.set k0 ⟨[lv],0⟩).set s.ka ⟨[.int .i64 s.at_],0⟩) 5 s.tb
 eq:Yu s.tb=(s.out.map QK).flatten
 go:s.out++qbG rs (l.drop s.at_)=qbG rs l
set_option maxHeartbeats 2000000 in
theorem c_copyReplace(wz:World)(h:AHeap)(lv rv:AVal)(l:List TokC)(rs:List RepC)(hlv:IsL wz h 5 lv (l.map QK))(hrv:IsReps wz h rv rs)(hl:l.length<=1000000)(hrl:rs.length<=1000000)(hn:∀x∈rs,x.new.length<=1000000):
 ACall Tryz.prog wz 16 [lv,rv] h (fun r h'=>∃v,r= .tuple [v, .int .i64 (qcC l rs).2]/\OutR h (qcC l rs).1 v h'):=by
 obtain⟨qs,hqs,hq2,hq3⟩:=hrv;have hll:=hlv.live;have hls:=hlv.scal;have nl:=Zp hlv;have hlr:=hq2.live;have nr:=rep_len hq2;have hqn:qs.length=rs.length:=by rw[hqs,List.length_map]
 obtain⟨an,han⟩:∃b,b=rs.any (fun x=>decide (x.old=[])):=⟨_,rfl⟩
 have hanq:qs.any (fun q=>decide (q.1.old=[]))=an:=by rw[han,hqs,List.any_map];rfl
 have hR:qcC l rs=if an=true then([],1)else if 65536<(qbG rs l).length then([],3)else(qbG rs l,0):=by rw[han];rfl
 refine qU (n:=50) (rs:=[.tmp 4, .tmp 5]) Tryz.func16 rfl rfl rfl rfl (Nat.le_of_ble_eq_true rfl) ?_;simp only[Qe];refine awp_rseq [1,2] (by rfl) fun K hK=>?_;refine WE (v:=lv) (cs:=[lv]) (by rfl) hll hlv.cells fun k0q0 hk0q0=>?_;try have hf_0q0:h k0q0=none:=by first|assumption|(simp only[AHeap.set_none]at hk0q0;simp only[hk0q0])
 simp+decide only[qa,ev,qH,qF,putD,Slots.put,Slots.keep,if_true,if_false,true_and,↓qd,qb,Nat.zero_add];apply hK;clear hK K;refine qK ?_;refine awp_rseq [1,2,10] (by rfl) fun K hK=>?_;simp+decide only[ev,putD,Slots.put,Slots.get,if_true,if_false,true_and,↓qh,qc];refine qN (V:= .bool an) (by rfl) (by rfl) (by rw[<-hanq];exact c_contR wz _ rv qs (hq2.mono zqB) (fun q hm=>(hq3 q hm).mono zqB) (by omega)) ?_;simp+decide only[qa,putD,Slots.put,Slots.keep,if_true,if_false];apply hK;clear hK K;refine qJ (b:=_) rfl (fun hb1=>?_) (fun hb1=>?_)
 ·skip
  refine awp_rseq [4,5] (by rfl) fun K hK=>?_;simp+decide only[qa,ev,qH,qF,putD,Slots.put,Slots.keep,if_true,if_false,true_and,↓qd,qb];apply hK;clear hK K;refine qO ?_;try simp only[Qi]
  refine Qa h zqB (qZ (qZ (Qd))) ?_;simp+decide only[Slots.get,if_true,if_false,Wy];rw[hR,if_pos hb1];exact⟨.nilSlice,rfl,OutR.nil h⟩
 ·skip
  rw[if_neg (by rw[hb1];decide)]at hR;have hrs:∀x∈rs,x.old≠[]:=fun x hx e=>by
   rw[hb1]at han;have:=han.symm;rw[List.any_eq_false]at this;exact this x hx (by simp[e])
  refine qP ?_;change Awp _ _ _ _ _ _ _;refine awp_rseq [1,2,6] (by rfl) fun K hK=>?_;simp+decide only[qa,ev,qH,qF,putD,Slots.put,Slots.keep,if_true,if_false,true_and,↓qd,qb];apply hK;clear hK K;refine qK ?_;refine awp_rseq [1,2,6,7] (by rfl) fun K hK=>?_;refine Qj ze3 (cs:=[.int .i64 0]) (by rfl) fun k4q0 hk4q0=>?_;have ne_4q0_0q0:k4q0≠k0q0:=by simp only[AHeap.set_none]at hk4q0;simp only[hk4q0,ne_eq,not_false_eq_true]
  try have hf_4q0:h k4q0=none:=by first|assumption|(simp only[AHeap.set_none]at hk4q0;simp only[hk4q0])
  refine qp (by rfl) (by rfl) zqA sz3 (by rfl) (by rfl) zqD (Nat.zero_le _) (by rfl) ?_;simp only[AHeap.set_set,AVal.cells];simp+decide only[qa,ev,qH,qF,putD,Slots.put,Slots.keep,if_true,if_false,setAt,List.set_cons_zero];apply hK;clear hK K;refine Ql ?_;refine Xv [1,2,6,7] (fun s:RpG=>[(1,rv),(2, .ptr (.own k0q0) 0),(6,QA 5 s.tb),(7, .ptr (.own s.ka) 0)]) (fun s:RpG=>QG ((h.set k0q0 ⟨[lv],0⟩).set s.ka ⟨[.int .i64 s.at_],0⟩) s.tb) (fun s:RpG=>RpOk h k0q0 lv l rs s/\s.out.length<=65536) (fun s:RpG=>l.length-s.at_) ⟨0,k4q0,none,[]⟩ (by rfl) (Sub.refl _) ⟨⟨Nat.zero_le _,⟨hf_4q0,ne_4q0_0q0⟩,trivial,rfl,rfl⟩,Nat.zero_le _⟩ ?_;rintro⟨at_,ka,tb,out⟩ ⟨⟨g1,⟨g2,ne_a_0q0⟩,g4,g5,g6⟩,g7⟩;simp only at g1 g2 ne_a_0q0 g4 g5 g6 g7|-
  obtain⟨G,hG⟩:∃G,G=(h.set k0q0 ⟨[lv],0⟩).set ka ⟨[.int .i64 at_],0⟩:=⟨_,rfl⟩
  rw[<-hG]at g4|-
  have hsG:Sub h G:=by rw[hG];exact Sub.trans_set (Sub.set hf_0q0) g2
  have gb_0:G k0q0=some ⟨[lv],0⟩:=by rw[hG];exact(AHeap.set_ne _ _ ne_a_0q0.symm).trans (AHeap.set_same _ _ _)
  have gb_a:G ka=some ⟨[.int .i64 at_],0⟩:=by rw[hG];exact AHeap.set_same _ _ _
  obtain⟨H1,hH1⟩:∃H1,H1=QG G tb:=⟨_,rfl⟩
  have hs_H1:Sub h H1:=by rw[hH1];exact hsG.trans (Sub.buf g4)
  have eb_0q0:H1 k0q0=some ⟨[lv],0⟩:=by rw[hH1];exact ZR g4 gb_0
  have eb_a:H1 ka=some ⟨[.int .i64 at_],0⟩:=by rw[hH1];exact ZR g4 gb_a
  have hbl:=QV 5 tb;rw[<-hH1];refine qK ?_;refine awp_rseq [1,2,6,7,14] (by rfl) fun K hK=>?_;simp+decide only[qa,ev,putD,Slots.put,Slots.get,Slots.keep,if_true,if_false,true_and,↓qG,qY,qy ag3,qy UJ,↓Xo,QD,↓qA,ql,qR,cond_false,qo,XP,Qy wz eb_0q0,Qy wz eb_a,List.getD_cons_zero,qi,hll,nl];apply hK;clear hK K;refine qJ (b:=_) rfl (fun hb2=>?_) (fun hb2=>?_)
  ·try simp only[decide_eq_true_eq]at hb2
   have hat:at_<l.length:=by omega
   have hst:=repE_step hrs hat;refine qP ?_;change Awp _ _ _ _ _ _ _;refine qK ?_;refine Ql ?_;refine awp_rseq [1,2,6,7,8] (by rfl) fun K hK=>?_;simp+decide only[ev,putD,Slots.put,Slots.get,if_true,if_false,true_and,↓qh,qc,↓qeu,qdh,evs,List.map_cons,List.map_nil];refine qN (V:= .int .i64 (qaW (fun q=>Ws (l.drop at_) q.1.old) qs)) (by rfl) (by rfl) (c_indexR wz _ rv qs _ [.ptr (.own k0q0) 0, .ptr (.own ka) 0] (fun q=>Ws (l.drop at_) q.1.old) (hq2.mono zqB) (fun q hm=>⟨(hq3 q hm).lives.1,(hq3 q hm).lives.2.1⟩) (by omega) (by rfl) (fun q hm=>c_rep2 wz _ q ((hq3 q hm).mono zqB) k0q0 ka lv l at_ zqA zqA (hlv.mono zqB) (by omega) g1)) ?_;simp+decide only[qa,ev,putD,Slots.put,Slots.get,Slots.keep,if_true,if_false,true_and,↓qd,qb];apply hK;clear hK K;refine qK ?_;refine awp_rseq [1,2,6,7,8,19] (by rfl) fun K hK=>?_;simp+decide only[qa,ev,qH,qF,putD,Slots.put,Slots.get,Slots.keep,if_true,if_false,true_and,↓qh,qc,↓qA,ql,qB,cond_false,qo,XP];apply hK;clear hK K;refine Ue [1,2,6,7] (fun s:RpG=>[(1,rv),(2, .ptr (.own k0q0) 0),(6,QA 5 s.tb),(7, .ptr (.own s.ka) 0)]) (fun s:RpG=>QG ((h.set k0q0 ⟨[lv],0⟩).set s.ka ⟨[.int .i64 s.at_],0⟩) s.tb) (fun s:RpG=>RpOk h k0q0 lv l rs s/\s.out.length<=2000000/\at_<s.at_) ?_ ?_
   ·refine qJ (b:=_) rfl (fun hb3=>?_) (fun hb3=>?_)
    ·try simp only[decide_eq_true_eq]at hb3
     have hnone:rs.find? (fun x=>Ws (l.drop at_) x.old)=none:=by
      rcases find_idx (r:=rs) (p:=fun x=>Ws (l.drop at_) x.old)with z|⟨i,x,z1,z2,z3,z4⟩
      ·exact z.2
      ·exfalso
       have e:qaW (fun q:RepQ=>Ws (l.drop at_) q.1.old) qs=i:=by
        rw[<-idxI_map (fun q:RepQ=>q.1) (fun x:RepC=>Ws (l.drop at_) x.old) qs,<-hqs];unfold qaW;rw[z1]
       omega
     rw[hnone]at hst;obtain⟨lc,o,c,rfl⟩:=Ui hlv (by omega);obtain⟨t,ht⟩:∃t,t=l.getD at_ Zy:=⟨_,rfl⟩
     rw[show l.getD at_ noT=t from ht.symm]at hst;obtain⟨e0,e1,e2,e3,e4⟩:=qaw (hlv.mono hs_H1) hat;rw[<-ht]at e0 e1 e2 e3 e4;have e2':rd wz H1 lc (o+at_*5+1+1)= .int .i64 t.line:=e2;have e3':rd wz H1 lc (o+at_*5+1+1+1)= .int .i64 t.col:=e3;have e4':rd wz H1 lc (o+at_*5+1+1+1+1)= .bool t.left:=e4;refine awp_rseq [1,2,6,7] (by rfl) fun K hK=>?_;simp+decide only[ev,putD,Slots.put,Slots.get,if_true,if_false,true_and,↓qh,qc,↓qG,qY,qy UJ,qy ag3,↓QB,Qb Tryz.underlying26 Xa,qg Zf Xa,Qy wz eb_0q0,Qy wz eb_a,qf,List.getD_cons_zero,qD,qi,qE,allLive,Bool.and_true,hll,e0,e1,e2',e3',e4',Int.toNat_natCast];repeat (with_reducible refine And.intro ?_ ?_;· first|trivial|omega|(intro hg;simp only[Bool.and_eq_true,Bool.or_eq_true,Bool.not_eq_true',Bool.and_eq_false_iff,Bool.or_eq_false_iff,Bool.not_eq_false',decide_eq_true_eq,decide_eq_false_iff_not,XV]at hg;omega))
     refine Qm (cs:=QK t) (by kernel_rfl) fun k8q5 hk8q5=>?_;have hn_8q5:H1 k8q5=none:=by first|assumption|(simp only[AHeap.set_none]at hk8q5;simp only[hk8q5])
     have hf_8q5:h k8q5=none:=Sub.none hs_H1 hn_8q5;have ne_8q5_0q0:k8q5≠k0q0:=AHeap.ne_some hn_8q5 eb_0q0;have ne_8q5_a:k8q5≠ka:=AHeap.ne_some hn_8q5 eb_a;refine Xu (es:=5) (zs:=out.map QK) (xs:=[QK t]) (hZ:=G) (b:=tb) (by rfl) (by rfl) Tryz.underlying26 Tryz.underlying26 (fun k e=>by cases e) Xa by54 qam (by rfl) (by decide) (by rfl) g4 g5 Xc (by rw[<-hH1];exact zqB) (by rfl) (IsL.own (AHeap.set_same _ _ _) (by simp[QK]) (by rfl) (by rfl) (.exact 1) (Nat.le_refl _)) (by rfl) (by simp;omega) (by simp;omega) fun tb2 h8 o1 o2 o3=>?_;have eb8:=o3 _ _ (ZR o1 gb_a);simp+decide only[qa,ev,putD,Slots.put,Slots.get,Slots.keep,if_true,if_false,true_and,↓qd,qb];apply hK;clear hK K;refine XA [1,2,6,7] (by rfl) ?_;simp+decide only[ev,qH,qF,putD,Slots.put,Slots.get,if_true,if_false,true_and,↓qG,qY,qy ag3,↓qA,ql,qB,cond_false,qo,QY,List.getD_cons_zero,qi,Qy wz eb8];try simp(disch:=omega)only[wrap_i64]
     refine qp (by rfl) (by rfl) zqA sz3 (by rfl) (by rfl) zqD (Nat.zero_le _) (by rfl) ?_;simp only[AVal.cells];simp+decide only[qa,ev,putD,Slots.get,Slots.keep,if_true,if_false,setAt,List.set_cons_zero];try simp only[Qg]
     first
     |exact⟨⟨at_+1,ka,tb2,out++[t]⟩,rfl,by(rw[show(h.set k0q0 ⟨[.slice lc o l.length c],0⟩).set ka ⟨[.int .i64 ((at_+1:Nat):Int)],0⟩=G.set ka ⟨[.int .i64 ((at_+1:Nat):Int)],0⟩ by rw[hG,AHeap.set_set],<-Wo o1 gb_a];exact Sub.set_both o3 _ _),⟨hat,⟨g2,ne_a_0q0⟩,by(rw[show(h.set k0q0 ⟨[.slice lc o l.length c],0⟩).set ka ⟨[.int .i64 ((at_+1:Nat):Int)],0⟩=G.set ka ⟨[.int .i64 ((at_+1:Nat):Int)],0⟩ by rw[hG,AHeap.set_set]];exact ZP o1 gb_a _),by rw[o2,List.map_append];rfl,by rw[<-g6,hst,List.append_assoc];rfl⟩,by(simp only[List.length_append,List.length_cons,List.length_nil];omega),by(simp only;omega)⟩
     |exact⟨⟨at_+x.old.length,ka,tb2,out++x.new⟩,rfl,by(rw[show(h.set k0q0 ⟨[lv],0⟩).set ka ⟨[.int .i64 ((at_+x.old.length:Nat):Int)],0⟩=G.set ka ⟨[.int .i64 ((at_+x.old.length:Nat):Int)],0⟩ by rw[hG,AHeap.set_set],<-Wo o1 gb_a];exact Sub.set_both o3 _ _),⟨by(simp only;omega),⟨g2,ne_a_0q0⟩,by(rw[show(h.set k0q0 ⟨[lv],0⟩).set ka ⟨[.int .i64 ((at_+x.old.length:Nat):Int)],0⟩=G.set ka ⟨[.int .i64 ((at_+x.old.length:Nat):Int)],0⟩ by rw[hG,AHeap.set_set]];exact ZP o1 gb_a _),by rw[o2,List.map_append,List.flatten_append],by rw[<-g6,hst,List.append_assoc]⟩,by(simp only[List.length_append];omega),by(simp only;omega)⟩
    ·try simp only[decide_eq_false_iff_not]at hb3
     obtain⟨i,x,z1,z2,z3,z4⟩:∃i x,rs.findIdx? (fun x=>Ws (l.drop at_) x.old)=some i/\rs.find? (fun x=>Ws (l.drop at_) x.old)=some x/\i<rs.length/\rs[i]?=some x:=by
      rcases find_idx (r:=rs) (p:=fun x=>Ws (l.drop at_) x.old)with z|z
      ·exfalso
       have e:qaW (fun q:RepQ=>Ws (l.drop at_) q.1.old) qs= -1:=by
        rw[<-idxI_map (fun q:RepQ=>q.1) (fun x:RepC=>Ws (l.drop at_) x.old) qs,<-hqs];unfold qaW;rw[z.1]
       omega
      ·exact z
     have e:qaW (fun q:RepQ=>Ws (l.drop at_) q.1.old) qs=i:=by
      rw[<-idxI_map (fun q:RepQ=>q.1) (fun x:RepC=>Ws (l.drop at_) x.old) qs,<-hqs];unfold qaW;rw[z1]
     rw[e];rw[z2]at hst;have hiq:i<qs.length:=by omega
     obtain⟨q,hqe⟩:∃q,q=qs.getD i badR:=⟨_,rfl⟩
     have hqm:q∈qs:=by rw[hqe];exact qaO badR hiq
     have hq1:q.1=x:=by
      rw[hqs,List.getElem?_map,List.getElem?_eq_getElem hiq]at z4;rw[hqe,List.getD,List.getElem?_eq_getElem hiq];exact Option.some.inj z4
     have hqk:=hq3 q hqm;obtain⟨y1,y2,y3,y4⟩:=hqk.lives;have hxm:x∈rs:=List.mem_of_getElem? z4;have hxn:=hn x hxm;have hfit:=fitsR_len (l:=l.drop at_) (o:=x.old) (by have:=List.find?_some z2;exact this);rw[List.length_drop]at hfit;have hxo:0<x.old.length:=by
      rcases Nat.eq_zero_or_pos x.old.length with w|w
      ·exact absurd (List.eq_nil_of_length_eq_zero w) (hrs x hxm)
      ·exact w
     obtain⟨lcr,orr,cr,rfl⟩:=rep_open hq2 (by omega);obtain⟨-,d1⟩:=rep_at (hq2.mono hs_H1) hiq;rw[<-hqe]at d1;have nold:=Zp hqk.old;rw[hq1]at nold;have hnw:=hqk.new;rw[hq1]at hnw;refine awp_rseq [1,2,6,7,8] (by rfl) fun K hK=>?_;simp+decide only[ev,putD,Slots.put,Slots.get,if_true,if_false,true_and,↓qh,qc,↓QB,qY,Qb Tryz.underlying43 qfg,↓qC,qm,fa46_1,↓qG,qy UJ,d1,y2,Int.toNat_natCast];repeat (with_reducible refine And.intro ?_ ?_;· first|trivial|omega|(intro hg;simp only[Bool.and_eq_true,Bool.or_eq_true,Bool.not_eq_true',Bool.and_eq_false_iff,Bool.or_eq_false_iff,Bool.not_eq_false',decide_eq_true_eq,decide_eq_false_iff_not,XV]at hg;omega))
     refine Xu (es:=5) (zs:=out.map QK) (xs:=x.new.map QK) (hZ:=G) (b:=tb) (by rfl) (by rfl) Tryz.underlying26 Tryz.underlying26 (fun k e=>by cases e) Xa by54 qam (by rfl) (by decide) (by rfl) g4 g5 Xc (by rw[<-hH1];exact zqB) (by rfl) (hnw.mono zqB) (by rw[Yo];intro z hz;obtain⟨t,_,rfl⟩:=List.mem_map.1 hz;rfl) (by simp;omega) (by simp;omega) fun tb2 h10 o1 o2 o3=>?_;have eb10:=o3 _ _ (ZR o1 gb_a);have hs10:Sub h h10:=(hsG.trans (Sub.buf o1)).trans o3;obtain⟨d0,-⟩:=rep_at (hq2.mono hs10) hiq;rw[<-hqe]at d0;simp+decide only[qa,ev,putD,Slots.put,Slots.get,Slots.keep,if_true,if_false,true_and,↓qd,qb];apply hK;clear hK K;refine qaL 8 mixed (by kernel_rfl) (by rfl) (by rfl) ?_;simp+decide only[ev,putD,Slots.put,Slots.get,if_true,if_false,true_and,↓qG,qY,qy ag3,↓qh,qc,↓QB,Qb Tryz.underlying43 qfg,↓qC,qm,fa46_0,qy UJ,↓Xo,QD,↓qA,ql,qR,cond_false,qo,QY,List.getD_cons_zero,qi,Qy wz eb10,d0,y1,nold,Int.toNat_natCast,Nat.add_zero];try simp(disch:=omega)only[wrap_i64]
     repeat (with_reducible refine And.intro ?_ ?_;· first|trivial|omega|(intro hg;simp only[Bool.and_eq_true,Bool.or_eq_true,Bool.not_eq_true',Bool.and_eq_false_iff,Bool.or_eq_false_iff,Bool.not_eq_false',decide_eq_true_eq,decide_eq_false_iff_not,XV]at hg;omega))
     refine qp (by rfl) (by rfl) zqA sz3 (by rfl) (by rfl) zqD (Nat.zero_le _) (by rfl) ?_;simp only[AVal.cells];simp+decide only[qa,ev,putD,Slots.get,if_true,if_false,setAt,List.set_cons_zero];try simp only[Qg]
     first
     |exact⟨⟨at_+1,ka,tb2,out++[t]⟩,rfl,by(rw[show(h.set k0q0 ⟨[.slice lc o l.length c],0⟩).set ka ⟨[.int .i64 ((at_+1:Nat):Int)],0⟩=G.set ka ⟨[.int .i64 ((at_+1:Nat):Int)],0⟩ by rw[hG,AHeap.set_set],<-Wo o1 gb_a];exact Sub.set_both o3 _ _),⟨hat,⟨g2,ne_a_0q0⟩,by(rw[show(h.set k0q0 ⟨[.slice lc o l.length c],0⟩).set ka ⟨[.int .i64 ((at_+1:Nat):Int)],0⟩=G.set ka ⟨[.int .i64 ((at_+1:Nat):Int)],0⟩ by rw[hG,AHeap.set_set]];exact ZP o1 gb_a _),by rw[o2,List.map_append];rfl,by rw[<-g6,hst,List.append_assoc];rfl⟩,by(simp only[List.length_append,List.length_cons,List.length_nil];omega),by(simp only;omega)⟩
     |exact⟨⟨at_+x.old.length,ka,tb2,out++x.new⟩,rfl,by(rw[show(h.set k0q0 ⟨[lv],0⟩).set ka ⟨[.int .i64 ((at_+x.old.length:Nat):Int)],0⟩=G.set ka ⟨[.int .i64 ((at_+x.old.length:Nat):Int)],0⟩ by rw[hG,AHeap.set_set],<-Wo o1 gb_a];exact Sub.set_both o3 _ _),⟨by(simp only;omega),⟨g2,ne_a_0q0⟩,by(rw[show(h.set k0q0 ⟨[lv],0⟩).set ka ⟨[.int .i64 ((at_+x.old.length:Nat):Int)],0⟩=G.set ka ⟨[.int .i64 ((at_+x.old.length:Nat):Int)],0⟩ by rw[hG,AHeap.set_set]];exact ZP o1 gb_a _),by rw[o2,List.map_append,List.flatten_append],by rw[<-g6,hst,List.append_assoc]⟩,by(simp only[List.length_append];omega),by(simp only;omega)⟩
   ·rintro⟨at2,ka2,tb2,out2⟩ ⟨⟨f1,⟨f2,ne_a2_0q0⟩,f4,f5,f6⟩,f7,f8⟩
    simp only at f1 f2 ne_a2_0q0 f4 f5 f6 f7 f8|-
    obtain⟨G2,hG2⟩:∃G2,G2=(h.set k0q0 ⟨[lv],0⟩).set ka2 ⟨[.int .i64 at2],0⟩:=⟨_,rfl⟩
    rw[<-hG2]at f4|-
    have hsG2:Sub h G2:=by rw[hG2];exact Sub.trans_set (Sub.set hf_0q0) f2
    have gb_0:G2 k0q0=some ⟨[lv],0⟩:=by rw[hG2];exact(AHeap.set_ne _ _ ne_a2_0q0.symm).trans (AHeap.set_same _ _ _)
    have gb_a2:G2 ka2=some ⟨[.int .i64 at2],0⟩:=by rw[hG2];exact AHeap.set_same _ _ _
    obtain⟨H2,hH2⟩:∃H2,H2=QG G2 tb2:=⟨_,rfl⟩
    have hs_H2:Sub h H2:=by rw[hH2];exact hsG2.trans (Sub.buf f4)
    have eb_0q0:H2 k0q0=some ⟨[lv],0⟩:=by rw[hH2];exact ZR f4 gb_0
    have eb_a2:H2 ka2=some ⟨[.int .i64 at2],0⟩:=by rw[hH2];exact ZR f4 gb_a2
    have hbl2:=QV 5 tb2;have nb2:=Zp (IsL.buf (wz:=wz) f4 (by decide) f5 Xc (Sub.refl _));rw[<-hH2];skip;refine awp_rseq [1,2,6,7,46] (by rfl) fun K hK=>?_;simp+decide only[qa,ev,qH,qF,putD,Slots.put,Slots.get,Slots.keep,if_true,if_false,true_and,↓qh,qc,↓Xo,QD,↓qA,ql,qB,cond_false,qo,UV,nb2];apply hK;clear hK K;refine qJ (b:=_) rfl (fun hb4=>?_) (fun hb4=>?_)
    ·try simp only[decide_eq_true_eq]at hb4
     refine awp_rseq [4,5] (by rfl) fun K hK=>?_;simp+decide only[qa,ev,qH,qF,putD,Slots.put,Slots.keep,if_true,if_false,true_and,↓qd,qb];apply hK;clear hK K;refine qO ?_;try simp only[Qi,Qw]
     refine Qa h zqB (qZ (qZ (Qd))) ?_;simp+decide only[Slots.get,if_true,if_false,Wy];have hlen:65536<(qbG rs l).length:=by
      rw[<-f6,List.length_append];omega
     rw[hR,if_pos hlen];exact⟨.nilSlice,rfl,OutR.nil h⟩
    ·try simp only[decide_eq_false_iff_not]at hb4
     refine qP ?_;change Awp _ _ _ _ _ _ _;refine awp_rseq [1,2,6,47] (by rfl) fun K hK=>?_;simp+decide only[qa,ev,putD,Slots.put,Slots.get,Slots.keep,if_true,if_false,true_and,↓qG,qY,qy ag3,Qy wz eb_a2,List.getD_cons_zero,qi];apply hK;clear hK K;refine XA [1,2,6,7] (by rfl) ?_;refine Qj ze3 (cs:=[.int .i64 0]) (by rfl) fun k15q0 hk15q0=>?_;have hn_15q0:H2 k15q0=none:=by first|assumption|(simp only[AHeap.set_none]at hk15q0;simp only[hk15q0])
     have hf_15q0:h k15q0=none:=Sub.none hs_H2 hn_15q0;have ne_15q0_0q0:k15q0≠k0q0:=AHeap.ne_some hn_15q0 eb_0q0;have ne_15q0_a2:k15q0≠ka2:=AHeap.ne_some hn_15q0 eb_a2;refine qp (by rfl) (by rfl) zqA sz3 (by rfl) (by rfl) zqD (Nat.zero_le _) (by rfl) ?_;simp only[AHeap.set_set,AVal.cells];simp+decide only[qa,ev,putD,Slots.put,Slots.get,Slots.keep,if_true,if_false,setAt,List.set_cons_zero];try simp only[Qg]
     have hnew:=bufNew (b:=tb2) (H:=G2) (j:=k15q0) (by rw[<-hH2];exact hn_15q0) ⟨[.int .i64 at2],0⟩;exact⟨⟨at2,k15q0,tb2,out2⟩,rfl,by(rw[hH2,hnew.1,hG2];exact Sub.bufBoth (Sub.set_both (Sub.set ((AHeap.set_ne _ _ ne_a2_0q0).trans f2)) _ _)),⟨⟨f1,⟨hf_15q0,ne_15q0_0q0⟩,(bufOk_new f4 (by rw[<-hH2];exact hn_15q0) ⟨[.int .i64 at2],0⟩).sub (by rw[hG2];exact Sub.set_both (Sub.set ((AHeap.set_ne _ _ ne_a2_0q0).trans f2)) _ _),f5,f6⟩,by simp only;omega⟩,by simp only;omega⟩
  ·try simp only[decide_eq_false_iff_not]at hb2
   have hae:at_=l.length:=by omega
   rw[hae,List.drop_length,repE_nil,List.append_nil]at g6;have hlb:IsL wz H1 5 (QA 5 tb) (out.map QK):=by rw[hH1];exact IsL.buf g4 (by decide) g5 Xc (Sub.refl _)
   refine Xy ?_;change Awp _ _ _ _ _ _ _;refine awp_rseq [4,5] (by rfl) fun K hK=>?_;simp+decide only[ev,putD,Slots.put,Slots.get,if_true,if_false,true_and,↓qh,qc];refine qN (V:=Yt (QA 5 tb)) (by rfl) (by rfl) (c_clipT wz _ _ (out.map QK) hlb) ?_;simp+decide only[qa,ev,qH,qF,putD,Slots.put,Slots.get,Slots.keep,if_true,if_false,true_and,↓qd,qb];apply hK;clear hK K;refine qO ?_;refine QR (qZ (qZ (Qd))) ?_;simp+decide only[Slots.get,if_true,if_false,Wy];rw[hR,if_neg (by rw[<-g6];omega)];exact⟨QG h tb,by rw[hH1];exact Sub.bufBoth hsG,Yt (QA 5 tb),rfl,tb,rfl,g4.sub hsG,by rw[g5,g6],rfl⟩
end Go.Proofs.YtlhhaagmakhilaaGreatDoor
namespace Go.Proofs.YtlhhaagmakhilaaGreatDoor
open Go.AM
open Go.Proofs
open Go.Col
open Go.Tok
open Go.Cop
open Go.RowKit (Below)
set_option maxRecDepth 100000
theorem ACall.down{P:Program}{wz:World}{f:FuncId}{args:List AVal}{h H:AHeap}{R:AVal->AHeap->Prop}(hs:Sub H h)(hc:ACall P wz f args H R):ACall P wz f args h R:=fun fi vals w hr hv=>hc fi vals w (hr.forget hs) hv
def namC(s:Str):List AVal:=[.str s]
theorem namC_wide{l:List Str}:∀x∈l.map namC,x.length=1:=fun x hx=>by obtain⟨y,_,rfl⟩:=List.mem_map.1 hx;rfl
def qbe(G:AHeap)(kx:Nat)(mv mo:AVal)(nb:Option Buf)(cp:Int):AHeap:=QG (G.set kx ⟨[mv,mo,QA 1 nb, .int .i64 cp],0⟩) nb
structure UseOk(G:AHeap)(kx:Nat)(nb:Option Buf)(ns:List Str):Prop where
 bx:G kx=none
 ok:∀X,bufOk (G.set kx X) 1 nb
 eq:Yu nb=(ns.map namC).flatten
section
variable {G:AHeap} {kx:Nat} {mv mo:AVal} {nb:Option Buf} {cp:Int} {ns:List Str}
theorem UseOk.at(hu:UseOk G kx nb ns):qbe G kx mv mo nb cp kx=some ⟨[mv,mo,QA 1 nb, .int .i64 cp],0⟩:=ZR (hu.ok _) (AHeap.set_same _ _ _)
theorem UseOk.above(hu:UseOk G kx nb ns):Sub G (qbe G kx mv mo nb cp):=(Sub.set hu.bx).trans (Sub.buf (hu.ok _))
theorem UseOk.set(hu:UseOk G kx nb ns)(X:Blk):(qbe G kx mv mo nb cp).set kx X=QG (G.set kx X) nb:=by
 unfold qbe;rw[Wo (hu.ok _) (AHeap.set_same _ _ _),AHeap.set_set]
theorem UseOk.down(hu:UseOk G kx nb ns){G':AHeap}(hs:Sub G' G):UseOk G' kx nb ns:=⟨hs.none hu.bx,fun X=>(hu.ok X).sub (Sub.set_both hs _ _),hu.eq⟩
theorem UseOk.names(wz:World)(hu:UseOk G kx nb ns):IsL wz (qbe G kx mv mo nb cp) 1 (QA 1 nb) (ns.map namC):=IsL.buf (hu.ok _) (by decide) hu.eq namC_wide (Sub.refl _)
theorem UseOk.lay(hu:UseOk G kx nb ns){j:Nat}(hj:qbe G kx mv mo nb cp j=none)(c:Blk):(qbe G kx mv mo nb cp).set j c=qbe (G.set j c) kx mv mo nb cp/\UseOk (G.set j c) kx nb ns/\G j=none/\j≠kx:=by
 have hne:j≠kx:=fun e=>by rw[e,hu.at]at hj;cases hj
 have hn:=bufNew hj c;have hg:G j=none:=by
  have:=hn.2
  rwa [AHeap.set_ne _ _ hne]at this
 refine⟨?_,⟨(AHeap.set_ne _ _ hne.symm).trans hu.bx,fun X=>?_,hu.eq⟩,hg,hne⟩
 ·unfold qbe
  rw[hn.1,AHeap.set_comm _ _ _ hne]
 ·have h1:=hu.ok X
  have h2:QG (G.set kx X) nb j=none:=by
   cases nb with
   |none=>exact(AHeap.set_ne _ _ hne).trans hg
   |some b=>
    have hnb:j≠b.blk:=fun e=>by
     rw[e]at hj;rw[show qbe G kx mv mo (some b) cp=(G.set kx ⟨[mv,mo,QA 1 (some b), .int .i64 cp],0⟩).set b.blk ⟨b.cells,0⟩from rfl,AHeap.set_same]at hj;cases hj
    exact(AHeap.set_ne _ _ hnb).trans ((AHeap.set_ne _ _ hne).trans hg)
  have h3:=bufOk_new h1 h2 c
  rwa [AHeap.set_comm _ _ _ hne]at h3
end
set_option maxHeartbeats 1000000 in
theorem c_use(wz:World)(G:AHeap)(kx:Nat)(mv mo:AVal)(nb:Option Buf)(cp:Int)(ns:List Str)(s:Str)(hu:UseOk G kx nb ns)(hn:ns.length<=1000000)(hmv:mv.scal=true)(hmo:mo.scal=true):
 ACall Tryz.prog wz 44 [.ptr (.own kx) 0, .str s] (qbe G kx mv mo nb cp) (fun r h'=>r= .tuple []/\∃nb',UseOk G kx nb' (Cop.addE ns s)/\h'=qbe G kx mv mo nb' cp):=by
 obtain⟨H,hH⟩:∃H,H=qbe G kx mv mo nb cp:=⟨_,rfl⟩
 have hs_H:Sub G H:=by rw[hH];exact hu.above
 have eb_x:H kx=some ⟨[mv,mo,QA 1 nb, .int .i64 cp],0⟩:=by rw[hH];exact hu.at
 have hbl:=QV 1 nb;have hst:IsStrs wz H (QA 1 nb) ns:=by rw[hH];exact hu.names wz
 have hml:=Yj hmv;have hol:=Yj hmo;rw[<-hH];refine qU (n:=21) (rs:=[]) Tryz.func44 rfl rfl rfl rfl (Nat.le_of_ble_eq_true rfl) ?_;simp only[Qe];refine awp_rseq [0,1,10] (by rfl) fun K hK=>?_;simp+decide only[ev,putD,Slots.put,Slots.get,if_true,if_false,true_and,↓qh,qc,↓Qk,qM,Qn,↓qC,qm,fa76_2,↓qG,qY,qy ag30,Qy wz eb_x,List.getD_cons_zero,List.getD_cons_succ,Nat.zero_add,hbl];refine qN (V:= .bool (ns.contains s)) (by rfl) (by rfl) (c_contains wz _ (QA 1 nb) ns s hst (by omega)) ?_;simp+decide only[qa,ev,putD,Slots.put,Slots.get,Slots.keep,if_true,if_false,true_and,↓YA,XU,Yi];apply hK;clear hK K;refine qJ (b:=_) rfl (fun hb1=>?_) (fun hb1=>?_)
 ·try simp only[Bool.not_eq_true']at hb1
  have hc:ns.contains s=false:=by simpa using hb1
  refine XA [] (by rfl) ?_;simp+decide only[ev,putD,Slots.put,Slots.get,if_true,if_false,true_and,↓qh,qc,↓Qk,qM,Qn,↓qC,qm,fa76_2,↓qG,qY,qy ag30,Qy wz eb_x,List.getD_cons_zero,List.getD_cons_succ,Nat.zero_add,hbl];refine Qm (cs:=[.str s]) (by kernel_rfl) fun k1q6 hk1q6=>?_;have hn_1q6:H k1q6=none:=by first|assumption|(simp only[AHeap.set_none]at hk1q6;simp only[hk1q6])
  have hf_1q6:G k1q6=none:=Sub.none hs_H hn_1q6;have ne_1q6_x:k1q6≠kx:=AHeap.ne_some hn_1q6 eb_x;refine Xu (es:=1) (zs:=ns.map namC) (xs:=[namC s]) (hZ:=G.set kx ⟨[mv,mo,QA 1 nb, .int .i64 cp],0⟩) (b:=nb) (by rfl) (by rfl) Tryz.underlying30 Tryz.underlying30 (fun k e=>by cases e) sz9 by9 ze9 (by rfl) (by decide) (by rfl) (hu.ok _) hu.eq namC_wide (by rw[show QG (G.set kx ⟨[mv,mo,QA 1 nb, .int .i64 cp],0⟩) nb=H from hH.symm];exact Sub.set hn_1q6) (by rfl) (IsL.own (AHeap.set_same _ _ _) (by simp[namC]) (by rfl) (by rfl) (.exact 1) (Nat.le_refl _)) (by rfl) (by simp;omega) (by simp;omega) fun nb2 h1 o1 o2 o3=>?_;have eb1:=o3 _ _ (ZR o1 (AHeap.set_same _ _ _));simp+decide only[ev,putD,Slots.put,Slots.get,if_true,if_false,true_and,↓Qk,qM,Qn,↓qC,qm,fa76_2,Nat.zero_add];refine qp (v:=QA 1 nb2) (by rfl) (by rfl) eb1 sz30 (QV _ _) (by rw[qaH];rfl) (by simp) (Nat.zero_le _) (by rw[qaH];simp[QC,YP]) ?_;simp only[setAt,qaH,List.set_cons_zero,List.set_cons_succ];simp+decide only[qa,putD,Slots.keep,if_false];refine qeH (Qd) ?_;simp+decide only[true_and,qeI];have ha:Cop.addE ns s=ns++[s]:=by unfold Cop.addE;rw[if_neg (by rw[hc];decide)]
  refine⟨qbe G kx mv mo nb2 cp,?_,nb2,⟨hu.bx,fun X=>?_,?_⟩,rfl⟩
  ·unfold qbe
   rw[<-AHeap.set_set G kx ⟨[mv,mo,QA 1 nb, .int .i64 cp],0⟩,<-Wo o1 (AHeap.set_same _ _ _)];exact Sub.set_both o3 _ _
  ·have:=ZP o1 (AHeap.set_same _ _ _) X
   rwa [AHeap.set_set]at this
  ·rw[o2,ha,List.map_append]
   rfl
 ·try simp only[Bool.not_eq_false']at hb1
  have hc:ns.contains s=true:=by simpa using hb1
  refine qP ?_;refine qeH (Qd) ?_;simp+decide only[true_and,qeI];have ha:Cop.addE ns s=ns:=by unfold Cop.addE;rw[if_pos hc]
  exact⟨H,Sub.refl _,nb,by rw[ha];exact hu,hH⟩
end Go.Proofs.YtlhhaagmakhilaaGreatDoor
