/-
  Texts of this proof, joined: CoI, CoJ, TkO, TkP, TkQ, TmA, BmC, BmD, BmE, BmF, CpA, CpB, CpC, CpD, CpE, CpF, CpG, CpH, CpI, CpJ, CpK, CpL, CpM, CqA, CqB, CqC, CqD, CqE, CqF, CqG, CqH.
  Conditions: none.
-/
import Derived.Test.YtlhhaagmakhilaaGreatDoorLc
import Derived.Test.YtlhhaagmakhilaaGreatDoorLb
import Derived.Defers
import Derived.KernelRfl
set_option linter.unusedSimpArgs false
set_option linter.unnecessarySimpa false
set_option linter.unusedVariables false
namespace Go.Proofs.YtlhhaagmakhilaaGreatDoor
open Go.AM
open Go.Proofs
open Go.Col
set_option maxRecDepth 100000
def ReadR(w0:World)(h:AHeap)(text:Str)(dbg:Bool)(v:AVal)(h':AHeap):Prop:=∃cv,v= .tuple [cv,QS (Ug text dbg).2]/\IsCards w0 h' cv (Ug text dbg).1/\Sub h h'
structure RdL where
 i:Nat
 B:AHeap
 M:AHeap
 cb:Option Buf
 mb:Option Buf
 x:Rd
theorem WF(f:FaultC):(decide (f.e=0) && (decide (f.line=0) && decide (f.col=0)))=decide (f=okF):=by
 obtain⟨a,b,c⟩:=f;rw[Bool.eq_iff_iff];simp[okF]
theorem readL_skip{s:Str}{l:List Str}{n:Int}{x:Rd}{dbg:Bool}{r:RowC}{f:FaultC}(hp:WR s n dbg=(r,false,f))(hf:f=okF):YT dbg (s::l) n x=YT dbg l (n+1) x:=by
 rw[YT,hp];simp only;rw[if_pos ⟨hf,trivial⟩]
theorem readL_fault{s:Str}{l:List Str}{n:Int}{x:Rd}{dbg:Bool}{r:RowC}{cn:Bool}{f:FaultC}(hp:WR s n dbg=(r,cn,f))(hf:f≠okF):YT dbg (s::l) n x=(x,f):=by
 rw[YT,hp];simp only;rw[if_neg (fun e=>hf e.1),if_neg hf]
theorem readL_bad{s:Str}{l:List Str}{n:Int}{x:Rd}{dbg:Bool}{r:RowC}{f:FaultC}(hp:WR s n dbg=(r,true,f))(hf:f=okF)(hg:(takeE x r).2≠okF):YT dbg (s::l) n x=((takeE x r).1,(takeE x r).2):=by
 rw[YT,hp];simp only;rw[if_neg (fun e=>by cases e.2),if_pos hf,if_neg hg]
theorem readL_take{s:Str}{l:List Str}{n:Int}{x:Rd}{dbg:Bool}{r:RowC}{f:FaultC}(hp:WR s n dbg=(r,true,f))(hf:f=okF)(hg:(takeE x r).2=okF):YT dbg (s::l) n x=YT dbg l (n+1) (takeE x r).1:=by
 rw[YT,hp];simp only;rw[if_neg (fun e=>by cases e.2),if_pos hf,if_pos hg]
theorem readE_fault{text:Str}{dbg:Bool}(hl:text.length<=1048576){x:Rd}{f:FaultC}(h:YT dbg (XF (Yg text)) 1 .start=(x,f))(hf:f≠okF):Ug text dbg=([],f):=by
 unfold Ug;rw[if_neg (by omega),h];simp only;rw[if_pos hf]
theorem splitNL_mem:∀(s:Str),∀l∈XF s,l.length<=s.length
 |[],l,h=>by simp[XF]at h;subst h;simp
 |b::s,l,h=>by
  have ih:=splitNL_mem s;unfold XF at h;split at h
  ·rcases List.mem_cons.1 h with rfl|h
   ·simp
   ·have:=ih l h;simp;omega
  ·split at h
   ·rename_i e
    simp only[List.mem_singleton]at h;subst h;simp
   ·rename_i l0 ls e
    rcases List.mem_cons.1 h with rfl|h
    ·have:=ih l0 (by rw[e];simp);simp;omega
    ·have:=ih l (by rw[e];simp[h]);simp;omega
theorem readE_odd{text:Str}{dbg:Bool}(hl:text.length<=1048576){x:Rd}(h:YT dbg (XF (Yg text)) 1 .start=(x,okF))(ho:x.odd=true):Ug text dbg=([],⟨4,x.line,x.col⟩):=by
 unfold Ug;rw[if_neg (by omega),h];simp only;rw[if_neg (by simp),if_pos ho]
theorem readE_ok{text:Str}{dbg:Bool}(hl:text.length<=1048576){x:Rd}(h:YT dbg (XF (Yg text)) 1 .start=(x,okF))(ho:x.odd=false):Ug text dbg=(x.cards,okF):=by
 unfold Ug;rw[if_neg (by omega),h];simp only;rw[if_neg (by simp),if_neg (by rw[ho];decide)]
theorem readEnd0(w0:World)(h B0:AHeap)(hs0:Sub h B0)(kr kx:Nat)(text:Str)(dbg:Bool)(hl:text.length<=1048576)(er:B0 kr=some ⟨[.int .i64 0, .int .i64 0, .int .i64 0],0⟩)(hr:h kr=none)
 (B M:AHeap) (cb mb:Option Buf) (x:Rd) (ri:RdInv w0 B0 kx B M cb mb x) (hcards:x.cards=[]) (hrl:YT dbg (XF (Yg text)) 1 .start=(x,okF)):
 Awp Tryz.prog w0 82 (qal 5 (unScope (qal 1 (bodyOf Tryz.f49)))) (noGotoA (retA Tryz.prog w0 [.tmp 4, .cell 5 35] (ReadR w0 h text dbg))) [(5, .ptr (.own kr) 0),(6, .ptr (.own kx) 0)] (rdH kx B cb mb x):=by
 obtain⟨rfl,rfl⟩:cb=none/\mb=none:=by
  rcases ri.cards with e|⟨done,c,kc,e,_⟩
  ·exact e.2
  ·rw[hcards]at e;simp at e
 have rix:=fun o=>Qp w0 ri.at o;have hnil:QT 3 none= .nilSlice:=rfl;change Awp _ _ _ (Code.seq _ _) _ _ _;refine qO ?_;refine awp_rseq [5,6,55] (by rfl) fun K hK=>?_;simp+decide only[qa,ev,putD,Slots.put,Slots.get,Slots.keep,if_true,if_false,true_and,↓qA,ql,qcG,↓qF,Qb,qy ag4,List.getD_cons_zero,List.getD_cons_succ,Nat.zero_add,qB,rix,Xe,hnil];apply hK;clear hK K;refine qL (b:=_) rfl (fun hb1=>?_) (fun hb1=>?_)
 ·skip
  have hres:=readE_odd hl hrl hb1;refine XU 4 [4,5] mixed (by kernel_rfl) (by rfl) (by rfl) fun K hK=>?_;simp+decide only[ev,qJ,qG,putD,Slots.put,Slots.get,if_true,if_false,true_and,↓qA,ql,fa116_1,↓qF,Qb,qg ag33 qaZ,↓Qn,↓qV,Ud,evP,List.map_cons,List.map_nil,↓qd,qb,qc,List.getD_cons_zero,List.getD_cons_succ,Nat.zero_add,Nat.reduceAdd,qh,allLive,Bool.and_true,rix,Xe,hnil];refine qm (v:= .agg [.int .i64 4, .int .i64 x.line, .int .i64 x.col]) (by rfl) (by rfl) (ri.other (ri.sub _ _ er)) QD (by rfl) (by rfl) (by simp[]) (Nat.zero_le _) (by rfl) ?_;simp only[setAt,AVal.cells,List.set_cons_zero,List.set_cons_succ,Nat.zero_add,Nat.reduceAdd];simp+decide only[qa,putD,Slots.keep,if_true,if_false];apply hK;clear hK K;refine qN ?_;try simp only[Qf,YE]
  refine qU h (Sub.trans_set (hs0.trans ri.above) hr) (?_) ?_
  ·simp+decide only[Qw,qp,qi,Slots.get,if_true,if_false,and_true,qp,qi,qg Xh QD,qW,qc,List.getD_cons_zero,List.getD_cons_succ,Nat.zero_add,Nat.reduceAdd,qh,allLive,Bool.and_true,qc,List.getD_cons_zero,List.getD_cons_succ,Nat.zero_add,Nat.reduceAdd,qh,allLive,Bool.and_true]
  simp+decide only[Slots.get,if_true,if_false,Xa,qp,qi,qg Xh QD,qW,qc,List.getD_cons_zero,List.getD_cons_succ,Nat.zero_add,Nat.reduceAdd,qh,allLive,Bool.and_true,qc,List.getD_cons_zero,List.getD_cons_succ,Nat.zero_add,Nat.reduceAdd,qh,allLive,Bool.and_true];exact⟨.nilSlice,by rw[hres];rfl,by rw[hres];exact⟨[],rfl, .nil,by simp⟩,Sub.refl _⟩
 ·skip
  have hres:=readE_ok hl hrl hb1;refine Qa ?_;change Awp _ _ _ _ _ _ _;refine qO ?_;refine awp_rseq [5,6,61,62] (by rfl) fun K hK=>?_;simp+decide only[qa,ev,qJ,qG,putD,Slots.put,Slots.get,Slots.keep,if_true,if_false,true_and,↓qA,ql,qaN,↓qF,Qb,qy ag101,↓XA,QK,qdl Tryz.underlying101,↓qj,qf,List.getD_cons_zero,Nat.zero_add,QL,rix,Xe,hnil];apply hK;clear hK K;refine QB ?_;refine XH [5,6,61,62] (fun g:Unit=>[(5, .ptr (.own kr) 0),(6, .ptr (.own kx) 0),(61, .int .i64 0),(62, .int .i64 0)]) (fun g:Unit=>rdH kx B none none x) (fun g:Unit=>True) (fun g:Unit=>0) () (by rfl) (Sub.refl _) trivial ?_;intro _ _;refine awp_rseq [5,6,61,62,63] (by rfl) fun K hK=>?_;simp+decide only[qa,ev,putD,Slots.put,Slots.get,Slots.keep,if_true,if_false,true_and,↓qC,qo,qZ,cond_false,qz,Zd];apply hK;clear hK K;refine qO (qL (b:=_) rfl (fun hb2=>?_) (fun hb2=>?_))
  ·exact absurd hb2 (by decide)
  ·try simp only[decide_eq_false_iff_not]at hb2
   refine XL ?_;change Awp _ _ _ _ _ _ _;refine awp_rseq [4,5] (by rfl) fun K hK=>?_;simp+decide only[ev,putD,Slots.put,Slots.get,if_true,if_false,true_and,↓qA,ql,qaN,↓qF,Qb,qy ag101,List.getD_cons_zero,Nat.zero_add,QL,rix,Xe,hnil];refine qM (V:= .nilSlice) (by rfl) (by rfl) ((c_clipC w0 _ .nilSlice [] .nil)) ?_;simp+decide only[ev,qJ,qG,putD,Slots.put,Slots.get,if_true,if_false,true_and,↓Qn,↓qV,ZI,evP,List.map_nil,↓qd,qb];refine qm (v:= .agg [.int .i64 0, .int .i64 0, .int .i64 0]) (by rfl) (by rfl) (ri.other (ri.sub _ _ er)) QD (by rfl) (by rfl) (by simp[]) (Nat.zero_le _) (by rfl) ?_;simp only[setAt,AVal.cells,List.set_cons_zero,List.set_cons_succ,Nat.zero_add,Nat.reduceAdd];simp+decide only[qa,putD,Slots.keep,if_true,if_false];apply hK;clear hK K;refine qN ?_;try simp only[YE]
   refine qU h (Sub.trans_set (hs0.trans ri.above) hr) (?_) ?_
   ·simp+decide only[Qw,qp,qi,Slots.get,if_true,if_false,and_true,qp,qi,qg Xh QD,qW,qc,List.getD_cons_zero,List.getD_cons_succ,Nat.zero_add,Nat.reduceAdd,qh,allLive,Bool.and_true,qc,List.getD_cons_zero,List.getD_cons_succ,Nat.zero_add,Nat.reduceAdd,qh,allLive,Bool.and_true]
   simp+decide only[Slots.get,if_true,if_false,Xa,qp,qi,qg Xh QD,qW,qc,List.getD_cons_zero,List.getD_cons_succ,Nat.zero_add,Nat.reduceAdd,qh,allLive,Bool.and_true,qc,List.getD_cons_zero,List.getD_cons_succ,Nat.zero_add,Nat.reduceAdd,qh,allLive,Bool.and_true];exact⟨.nilSlice,by rw[hres];rfl,by rw[hres,hcards];exact⟨[],rfl, .nil,by simp⟩,Sub.refl _⟩
theorem okCap{w0:World}{h:AHeap}{v:AVal}{xs:List (List AVal)}(hb:IsL w0 h 3 v xs):(Ye v).okIn (fun k=>(h k).isSome):=by
 cases hb with
 |nil=>trivial
 |mk l o n c xs hn hw hc hl hcap=>
  cases l with
  |base b=>trivial
  |own k=>
   simp only[Ye,AVal.okIn];intro h0;cases hk:h k with
   |some b=>rfl
   |none=>
    obtain⟨m,rfl⟩:∃m,n=m+1:=⟨n-1,by omega⟩
    rw[show(m+1)*3=(m*3+2)+1 by omega,qc]at hc;rw[<-hc]at hl;simp[allLive,rd,hk,AVal.live]at hl
def qcV(p:CardC×AVal):CardC×AVal:=(p.1,Ye p.2)
theorem flat_len3(l:List (CardC×AVal)):(l.map XZ).flatten.length=l.length*3:=by
 rw[Yn (es:=3) (by intro y hy;obtain⟨p,_,rfl⟩:=List.mem_map.1 hy;rfl),List.length_map]
theorem flat_set:∀(l:List (CardC×AVal)) (i:Nat) (v:AVal) (hi:i<l.length),setAt (l.map XZ).flatten (i*3+2) [v]=((l.set i ((l[i]).1,v)).map XZ).flatten
 |p::l,0,v,_=>rfl
 |p::l,i+1,v,hi=>by
  have ih:=flat_set l i v (by simpa using hi);simp only[setAt]at ih|-
  simp only[List.map_cons,List.flatten_cons,List.set_cons_succ,List.getElem_cons_succ];rw[<-ih,List.set_append_right _ _ (by rw[cell3_wide];omega),cell3_wide,show(i+1)*3+2-3=i*3+2 by omega]
theorem flat_get(l:List (CardC×AVal))(i:Nat)(hi:i<l.length):(l.map XZ).flatten.getD (i*3+2) .dead=(l[i]).2:=by
 rw[List.getD,qdA (es:=3) (by intro y hy;obtain⟨p,_,rfl⟩:=List.mem_map.1 hy;rfl) (by rw[List.length_map];exact hi) (by decide)];simp[List.getD,hi,XZ]
def psi(ps:List (CardC×AVal))(i:Nat):List (CardC×AVal):=(ps.take i).map qcV++ps.drop i
theorem psi_len(ps:List (CardC×AVal))(i:Nat):(psi ps i).length=ps.length:=by
 unfold psi;simp;omega
theorem psi_get(ps:List (CardC×AVal))(i:Nat)(hi:i<ps.length):(psi ps i)[i]'(by rw[psi_len];exact hi)=ps[i]:=by
 unfold psi;rw[List.getElem_append_right (by simp;omega)];simp[Nat.min_eq_left (Nat.le_of_lt hi)]
theorem psi_next(ps:List (CardC×AVal))(i:Nat)(hi:i<ps.length):(psi ps i).set i (qcV ps[i])=psi ps (i+1):=by
 unfold psi;have hl:((ps.take i).map qcV).length=i:=by simp;omega
 rw[List.set_append_right _ _ (by omega),hl,Nat.sub_self,List.drop_eq_getElem_cons hi,List.set_cons_zero,List.take_add_one,List.getElem?_eq_getElem hi,Option.toList_some,List.map_append,List.append_assoc];rfl
theorem bufOk_blk{H:AHeap}{es:Nat}{b:Option Buf}{c:Buf}(h:bufOk H es b)(e:b=some c):H c.blk=none:=by subst e;exact h.1
theorem bufH_blk{H:AHeap}{b:Option Buf}{c:Buf}(e:b=some c):QY H b=H.set c.blk ⟨c.cells,0⟩:=by subst e;rfl
theorem readEnd1(w0:World)(h B0:AHeap)(hs0:Sub h B0)(kr kx:Nat)(text:Str)(dbg:Bool)(hl:text.length<=1048576)(er:B0 kr=some ⟨[.int .i64 0, .int .i64 0, .int .i64 0],0⟩)(hr:h kr=none)
 (B M:AHeap) (cb mb:Option Buf) (x:Rd) (ri:RdInv w0 B0 kx B M cb mb x) (hcards:x.cards≠[]) (hsm:x.cards.length<=1099511627776) (hrl:YT dbg (XF (Yg text)) 1 .start=(x,okF)):
 Awp Tryz.prog w0 82 (qal 5 (unScope (qal 1 (bodyOf Tryz.f49)))) (noGotoA (retA Tryz.prog w0 [.tmp 4, .cell 5 35] (ReadR w0 h text dbg))) [(5, .ptr (.own kr) 0),(6, .ptr (.own kx) 0)] (rdH kx B cb mb x):=by
 obtain⟨ps,kc,hps,hcb,hv,hL,hMM,hMk⟩:∃(ps:List (CardC×AVal)) (kc:Nat),ps.map (·.1)=x.cards/\cb=some ⟨kc,(ps.map XZ).flatten⟩/\QT 3 cb= .slice (.own kc) 0 ps.length (.grow 3)/\(∀p∈ps,IsL w0 (QY M mb) 3 p.2 (p.1.marks.map WO))/\QY M mb kc=none/\Sub (QY M mb) (rdH kx B cb mb x):=by
  rcases ri.cards with⟨e,_⟩|⟨done,c,kc,e1,e2,e3,e4⟩
  ·exact absurd e hcards
  ·obtain⟨q1,q2,q3⟩:=bufSwap ri.okc ri.okm
   obtain⟨p1,p2,p3⟩:=bufPut (d:=⟨Xe cb x,0⟩) q2;have pM:=p2.sub ri.subM;have hf:(done.map XZ).flatten++[.bool c.left, .str c.text,QT 3 mb]=((done++[(c,QT 3 mb)]).map XZ).flatten:=by simp[XZ]
   have hkc:(QY (B.set kx ⟨Xe cb x,0⟩) mb) kc=none:=bufOk_blk q3 e2;have hkx:kc≠kx:=fun e=>by
    rw[p1,e,AHeap.set_same]at hkc;cases hkc
   have hMB:Sub (QY M mb) (QY B mb):=by
    cases mb with
    |none=>exact ri.subM
    |some b=>exact Sub.set_both ri.subM _ _
   have hkcB:QY B mb kc=none:=by rwa [p1,AHeap.set_ne _ _ hkx]at hkc
   refine⟨done++[(c,QT 3 mb)],kc,by rw[e1];simp,by rw[e2,hf],?_,fun p hp=>?_,hMB.none hkcB,?_⟩
   ·rw[e2,bufV_some,hf,flat_len3]
    simp
   ·rw[List.mem_append]at hp
    rcases hp with hp|hp
    ·exact(e4 p hp).mono (Sub.buf pM)
    ·rw[List.mem_singleton.1 hp]
     exact IsL.buf pM (by decide) e3 (by intro y hy;obtain⟨m,_,rfl⟩:=List.mem_map.1 hy;rfl) (Sub.refl _)
   ·refine Sub.trans hMB ?_
    unfold rdH;rw[q1,bufH_blk e2];refine Sub.trans ?_ (Sub.set hkc);rw[p1];exact Sub.set (by rw[p3];exact ri.hk)
 have hkcx:(rdH kx B cb mb x) kc=some ⟨(ps.map XZ).flatten,0⟩:=by
  have:=ri.okm;unfold rdH;exact ZN ri.okm (by rw[hcb];exact AHeap.set_same _ _ _)
 have hkx:=ri.at;have hne:kx≠kc:=fun e=>by
  rw[<-e,hkx]at hkcx;have:=congrArg (fun o=>(o.map fun b=>b.cells.length).getD 0) hkcx;simp only[Option.map_some,Option.getD_some,Xe,List.length_cons,List.length_nil,flat_len3]at this;omega
 have hlenp:ps.length=x.cards.length:=by rw[<-hps,List.length_map]
 have hkr:=ri.other (ri.sub _ _ er);have hrc:kr≠kc:=fun e=>by
  rw[e,hkcx]at hkr;have:=congrArg (fun o=>(o.map fun b=>b.cells.length).getD 0) hkr;simp only[Option.map_some,Option.getD_some,List.length_cons,List.length_nil,flat_len3]at this;have h1:ps.length=1:=by omega
  match ps,h1 with
  |[p],_=>simp[XZ]at hkr
 have hhc:h kc=none:=by
  cases hc:h kc with
  |none=>rfl
  |some b=>
   have:=ri.sub _ _ (hs0 _ _ hc);have h2:=ri.okc;rw[hcb]at h2;have:=(AHeap.set_ne B ⟨Xe (some ⟨kc,(ps.map XZ).flatten⟩) x,0⟩ hne.symm).symm.trans h2.1
   simp_all
 obtain⟨H0,hH0⟩:∃H0,H0=rdH kx B cb mb x:=⟨_,rfl⟩
 have hsub:Sub h H0:=by rw[hH0];exact hs0.trans ri.above
 rw[<-hH0]at hkcx hkx hkr hMk|-
 have rix:=fun o=>Qp w0 hkx o;change Awp _ _ _ (Code.seq _ _) _ _ _;refine qO ?_;refine awp_rseq [5,6,55] (by rfl) fun K hK=>?_;simp+decide only[qa,ev,putD,Slots.put,Slots.get,Slots.keep,if_true,if_false,true_and,↓qA,ql,qcG,↓qF,Qb,qy ag4,List.getD_cons_zero,List.getD_cons_succ,Nat.zero_add,qB,rix,Xe,hv];apply hK;clear hK K;refine qL (b:=_) rfl (fun hb1=>?_) (fun hb1=>?_)
 ·skip
  have hres:=readE_odd hl hrl hb1;refine XU 4 [4,5] mixed (by kernel_rfl) (by rfl) (by rfl) fun K hK=>?_;simp+decide only[ev,qJ,qG,putD,Slots.put,Slots.get,if_true,if_false,true_and,↓qA,ql,fa116_1,↓qF,Qb,qg ag33 qaZ,↓Qn,↓qV,Ud,evP,List.map_cons,List.map_nil,↓qd,qb,qc,List.getD_cons_zero,List.getD_cons_succ,Nat.zero_add,Nat.reduceAdd,qh,allLive,Bool.and_true,rix,Xe,hv];refine qm (v:= .agg [.int .i64 4, .int .i64 x.line, .int .i64 x.col]) (by rfl) (by rfl) hkr QD (by rfl) (by rfl) (by simp[]) (Nat.zero_le _) (by rfl) ?_;simp only[setAt,AVal.cells,List.set_cons_zero,List.set_cons_succ,Nat.zero_add,Nat.reduceAdd];simp+decide only[qa,putD,Slots.keep,if_true,if_false];apply hK;clear hK K;refine qN ?_;try simp only[Qf,YE]
  refine qU h (Sub.trans_set hsub hr) (?_) ?_
  ·simp+decide only[Qw,qp,qi,Slots.get,if_true,if_false,and_true,qp,qi,qg Xh QD,qW,qc,List.getD_cons_zero,List.getD_cons_succ,Nat.zero_add,Nat.reduceAdd,qh,allLive,Bool.and_true,qc,List.getD_cons_zero,List.getD_cons_succ,Nat.zero_add,Nat.reduceAdd,qh,allLive,Bool.and_true]
  simp+decide only[Slots.get,if_true,if_false,Xa,qp,qi,qg Xh QD,qW,qc,List.getD_cons_zero,List.getD_cons_succ,Nat.zero_add,Nat.reduceAdd,qh,allLive,Bool.and_true,qc,List.getD_cons_zero,List.getD_cons_succ,Nat.zero_add,Nat.reduceAdd,qh,allLive,Bool.and_true];exact⟨.nilSlice,by rw[hres];rfl,by rw[hres];exact⟨[],rfl, .nil,by simp⟩,Sub.refl _⟩
 ·skip
  have hres:=readE_ok hl hrl hb1;refine Qa ?_;change Awp _ _ _ _ _ _ _;refine qO ?_;refine awp_rseq [5,6,61,62] (by rfl) fun K hK=>?_;simp+decide only[qa,ev,qJ,qG,putD,Slots.put,Slots.get,Slots.keep,if_true,if_false,true_and,↓qA,ql,qaN,↓qF,Qb,qy ag101,↓XA,QK,XV Tryz.underlying101,↓qj,qf,List.getD_cons_zero,Nat.zero_add,UF,rix,Xe,hv];apply hK;clear hK K;refine QB ?_;refine XH [5,6,61,62] (fun i:Nat=>[(5, .ptr (.own kr) 0),(6, .ptr (.own kx) 0),(61, .int .i64 ps.length),(62, .int .i64 i)]) (fun i:Nat=>H0.set kc ⟨((psi ps i).map XZ).flatten,0⟩) (fun i:Nat=>i<=ps.length) (fun i:Nat=>ps.length-i) 0 (by rfl) (by rw[show psi ps 0=ps from rfl,Yj hkcx];exact Sub.refl _) (Nat.zero_le _) ?_;intro i hi;have hkxi:=(AHeap.set_ne H0 ⟨((psi ps i).map XZ).flatten,0⟩ hne).trans hkx;have rii:=fun o=>Qp w0 hkxi o;refine awp_rseq [5,6,61,62,63] (by rfl) fun K hK=>?_;simp+decide only[qa,ev,putD,Slots.put,Slots.get,Slots.keep,if_true,if_false,true_and,↓qC,qo,qZ,cond_false,qz,Zd];apply hK;clear hK K;refine qO (qL (b:=_) rfl (fun hb2=>?_) (fun hb2=>?_))
  ·try simp only[decide_eq_true_eq]at hb2
   have hi':i<ps.length:=by omega
   have hg:((psi ps i).map XZ).flatten.getD (i*3+2) .dead=(ps[i]).2:=by rw[flat_get _ _ (by rw[psi_len];exact hi'),psi_get ps i hi']
   have hMi:Sub (QY M mb) (H0.set kc ⟨((psi ps i).map XZ).flatten,0⟩):=Sub.trans_set hMk hMM;have hLi:=(hL _ (List.getElem_mem hi')).mono hMi;have hlv:=hLi.live;have hok:AVal.okIn (fun k=>((H0.set kc ⟨((psi ps i).map XZ).flatten,0⟩) k).isSome) (Ye (ps[i]).2):=okCap hLi;refine Qa ?_;change Awp _ _ _ _ _ _ _;refine qO ?_;refine QB ?_;refine awp_rseq [5,6,13,61,62] (by rfl) fun K hK=>?_;simp+decide only[qa,ev,putD,Slots.put,Slots.get,Slots.keep,if_true,if_false,true_and,↓qj,qf,↓qd,qb];apply hK;clear hK K;refine awp_draw_F 12 [] mixed (by kernel_rfl) (by rfl) ?_;simp only[List.take_succ_cons,List.take_zero,List.drop_succ_cons,List.drop_zero];simp+decide only[ev,putD,Slots.put,Slots.get,if_true,if_false,true_and,↓Zu,ql,qaN,↓WH,Zr,qy ag101,↓Um,qf,↓qcD,Qs Tryz.underlying101 qbV,Ui,qaM,qy ag124,QV,List.getD_cons_zero,Nat.zero_add,UF,rii,Xe,hv,Int.toNat_natCast,hg,hlv];repeat (with_reducible refine And.intro ?_ ?_;· first|trivial|omega|(intro hg;simp only[Bool.and_eq_true,Bool.or_eq_true,Bool.not_eq_true',Bool.and_eq_false_iff,Bool.or_eq_false_iff,Bool.not_eq_false',decide_eq_true_eq,decide_eq_false_iff_not,Zt]at hg;omega))
   refine qbo (V:=Ye (ps[i]).2) (by rfl) (by rfl) (by first|trivial|(simp+decide only[AVal.okIn,WM,and_true,true_and,QS,WO,posA,cardA,rowA,AHeap.set_same,Option.isSome_some];done)|(simp[AVal.okIn,WM,AHeap.set];done)) (fun g hg=>c_clipM w0 _ _ _ (by first|exact hLi|exact hLi.mono hg)) ?_;simp+decide only[YI,ev,putD,Slots.put,Slots.get,if_true,if_false,true_and,↓qcD,Qs Tryz.underlying101 qbV,Ui,↓Zu,ql,qaM,Nat.zero_add,Int.toNat_natCast];repeat (with_reducible refine And.intro ?_ ?_;· first|trivial|omega|(intro hg;simp only[Bool.and_eq_true,Bool.or_eq_true,Bool.not_eq_true',Bool.and_eq_false_iff,Bool.or_eq_false_iff,Bool.not_eq_false',decide_eq_true_eq,decide_eq_false_iff_not,Zt]at hg;omega))
   have hcl:=hLi.clip;have hset:setAt ((psi ps i).map XZ).flatten (i*3+2) [Ye (ps[i]).2]=((psi ps (i+1)).map XZ).flatten:=by
    rw[flat_set _ _ _ (by rw[psi_len];exact hi'),psi_get ps i hi',<-psi_next ps i hi'];rfl
   refine qm (v:=Ye (ps[i]).2) (by rfl) (by rfl) (AHeap.set_same _ _ _) sz124 hcl.live (by rw[hcl.cells];rfl) (by simp only[];rw[flat_len3,psi_len];omega) (Nat.zero_le _) (by rw[hcl.cells];simp[QF,hcl.scal]) ?_;rw[AHeap.set_set,hcl.cells];simp only[];rw[hset];simp+decide only[qa,putD];change Awp _ _ _ _ _ _ _;refine XK [5,6,61,62] (by rfl) ?_;simp+decide only[qa,ev,qJ,qG,putD,Slots.put,Slots.get,Slots.keep,if_true,if_false,true_and,↓qC,qo,qD,cond_false,qz,Xf,↓qj,qf];try simp(disch:=omega)only[wrap_i64]
   try simp only[Ql]
   exact⟨i+1,rfl,Sub.refl _,by omega,by omega⟩
  ·try simp only[decide_eq_false_iff_not]at hb2
   obtain rfl:i=ps.length:=by omega
   have hpsi:psi ps ps.length=ps.map qcV:=by simp[psi]
   rw[hpsi]at hkxi rii|-
   have hlive:∀p∈ps,IsL w0 (H0.set kc ⟨((ps.map qcV).map XZ).flatten,0⟩) 3 (Ye p.2) (p.1.marks.map WO):=fun p hp=>((hL p hp).mono (Sub.trans_set hMk hMM)).clip;have hLc:IsL w0 (H0.set kc ⟨((ps.map qcV).map XZ).flatten,0⟩) 3 (.slice (.own kc) 0 ps.length (.grow 3)) ((ps.map qcV).map XZ):=by
    have:=IsL.own (w0:=w0) (es:=3) (xs:=(ps.map qcV).map XZ) (AHeap.set_same H0 kc ⟨((ps.map qcV).map XZ).flatten,0⟩) (by intro y hy;obtain⟨p,_,rfl⟩:=List.mem_map.1 hy;rfl) rfl (Yd.2 (by
     intro y hy;obtain⟨p,hp,rfl⟩:=List.mem_map.1 hy;obtain⟨q,hq,rfl⟩:=List.mem_map.1 hp;show(true && (true && ((Ye q.2).live && true)))=true
     rw[(hlive q hq).live];rfl)) (.grow 3) rfl
    simpa using this
   have hkr':=(AHeap.set_ne H0 ⟨((ps.map qcV).map XZ).flatten,0⟩ hrc).trans hkr;refine XL ?_;change Awp _ _ _ _ _ _ _;refine awp_rseq [4,5] (by rfl) fun K hK=>?_;simp+decide only[ev,putD,Slots.put,Slots.get,if_true,if_false,true_and,↓qA,ql,qaN,↓qF,Qb,qy ag101,List.getD_cons_zero,Nat.zero_add,UF,rii,Xe,hv];refine qM (V:= .slice (.own kc) 0 ps.length (.exact ps.length)) (by rfl) (by rfl) (c_clipC w0 _ _ _ hLc) ?_;simp+decide only[ev,qJ,qG,putD,Slots.put,Slots.get,if_true,if_false,true_and,↓Qn,↓qV,ZI,evP,List.map_nil,↓qd,qb];refine qm (v:= .agg [.int .i64 0, .int .i64 0, .int .i64 0]) (by rfl) (by rfl) hkr' QD (by rfl) (by rfl) (by simp[]) (Nat.zero_le _) (by rfl) ?_;simp only[setAt,AVal.cells,List.set_cons_zero,List.set_cons_succ,Nat.zero_add,Nat.reduceAdd];rw[Yj hkr'];simp+decide only[qa,putD,Slots.keep,if_true,if_false];apply hK;clear hK K;refine qN ?_;try simp only[YE]
   refine qU (H0.set kc ⟨((ps.map qcV).map XZ).flatten,0⟩) (Sub.refl _) (?_) ?_
   ·simp+decide only[Qw,qp,qi,Slots.get,if_true,if_false,and_true,qp,qi,qg Xh QD,qc,List.getD_cons_zero,List.getD_cons_succ,Nat.zero_add,Nat.reduceAdd,qh,allLive,Bool.and_true,qc,List.getD_cons_zero,List.getD_cons_succ,Nat.zero_add,Nat.reduceAdd,qh,allLive,Bool.and_true,Qp w0 hkr']
   simp+decide only[Slots.get,if_true,if_false,Xa,qp,qi,qg Xh QD,qc,List.getD_cons_zero,List.getD_cons_succ,Nat.zero_add,Nat.reduceAdd,qh,allLive,Bool.and_true,qc,List.getD_cons_zero,List.getD_cons_succ,Nat.zero_add,Nat.reduceAdd,qh,allLive,Bool.and_true,Qp w0 hkr'];exact⟨_,by rw[hres];rfl,by rw[hres];exact⟨ps.map qcV,by rw[List.map_map];exact hps,hLc.clip,fun p hp=>by obtain⟨q,hq,rfl⟩:=List.mem_map.1 hp;exact hlive q hq⟩,Sub.trans_set hsub hhc⟩
theorem readEnd(w0:World)(h B0:AHeap)(hs0:Sub h B0)(kr kx:Nat)(text:Str)(dbg:Bool)(hl:text.length<=1048576)(er:B0 kr=some ⟨[.int .i64 0, .int .i64 0, .int .i64 0],0⟩)(hr:h kr=none)
 (B M:AHeap) (cb mb:Option Buf) (x:Rd) (ri:RdInv w0 B0 kx B M cb mb x) (hsm:x.cards.length<=1099511627776) (hrl:YT dbg (XF (Yg text)) 1 .start=(x,okF)):
 Awp Tryz.prog w0 82 (qal 5 (unScope (qal 1 (bodyOf Tryz.f49)))) (noGotoA (retA Tryz.prog w0 [.tmp 4, .cell 5 35] (ReadR w0 h text dbg))) [(5, .ptr (.own kr) 0),(6, .ptr (.own kx) 0)] (rdH kx B cb mb x):=by
 by_cases hc:x.cards=[]
 ·exact readEnd0 w0 h B0 hs0 kr kx text dbg hl er hr B M cb mb x ri hc hrl
 ·exact readEnd1 w0 h B0 hs0 kr kx text dbg hl er hr B M cb mb x ri hc hsm hrl
end Go.Proofs.YtlhhaagmakhilaaGreatDoor
namespace Go.Proofs.YtlhhaagmakhilaaGreatDoor
open Go.AM
open Go.Proofs
open Go.Col
set_option maxRecDepth 100000
theorem readLoop(w0:World)(hm:MaxL w0)(h B0:AHeap)(hs0:Sub h B0)(kr kx ks:Nat)(text:Str)(dbg:Bool)(lines:List Str)(hln:lines=XF (Yg text))(hl:text.length<=1048576)
 (er:B0 kr=some ⟨[.int .i64 0, .int .i64 0, .int .i64 0],0⟩) (hr:h kr=none) (es:B0 ks=some ⟨lines.map AVal.str,0⟩) (hi:RdInv w0 B0 kx B0 (fun _=>none) none none .start):
 Awp Tryz.prog w0 82 (qal 4 (unScope (qal 1 (bodyOf Tryz.f49)))) (noGotoA (retA Tryz.prog w0 [.tmp 4, .cell 5 35] (ReadR w0 h text dbg))) [(1, .bool dbg),(5, .ptr (.own kr) 0),(6, .ptr (.own kx) 0),(7, .slice (.own ks) 0 lines.length (.exact lines.length))] (rdH kx B0 none none .start):=by
 have hnl:lines.length<=1048577:=by
  rw[hln];have:=qdc (Yg text);have:=qcm text;omega
 change Awp _ _ _ (Code.seq _ _) _ _ _;refine qO ?_;refine awp_rseq [1,5,6,21,22,23] (by rfl) fun K hK=>?_;simp+decide only[qa,ev,qJ,qG,putD,Slots.put,Slots.get,Slots.keep,if_true,if_false,true_and,↓qj,qf,↓XA,QK,XV Tryz.underlying30];apply hK;clear hK K;refine QB ?_;refine XH [1,5,6,21,22,23] (fun g:RdL=>[(1, .bool dbg),(5, .ptr (.own kr) 0),(6, .ptr (.own kx) 0),(21, .slice (.own ks) 0 lines.length (.exact lines.length)),(22, .int .i64 lines.length),(23, .int .i64 g.i)]) (fun g:RdL=>rdH kx g.B g.cb g.mb g.x) (fun g:RdL=>RdInv w0 B0 kx g.B g.M g.cb g.mb g.x/\g.i<=lines.length/\RdSm g.i g.x/\YT dbg (lines.drop g.i) (g.i+1) g.x=YT dbg lines 1 .start) (fun g:RdL=>lines.length-g.i) ⟨0,B0,fun _=>none,none,none, .start⟩ (by rfl) (Sub.refl _) ⟨hi,Nat.zero_le _,⟨by simp[Rd.start],by simp[Rd.start]⟩,rfl⟩ ?_;rintro⟨i,B,M,cb,mb,x⟩ ⟨ri,hin,hsm,hrl⟩;simp only at ri hin hsm hrl|-
 have rix:=fun o=>Qp w0 ri.at o;refine awp_rseq [1,5,6,21,22,23,24] (by rfl) fun K hK=>?_;simp+decide only[qa,ev,putD,Slots.put,Slots.get,Slots.keep,if_true,if_false,true_and,↓qC,qo,qZ,cond_false,qz,Zd];apply hK;clear hK K;refine qO (qL (b:=_) rfl (fun hb1=>?_) (fun hb1=>?_))
 ·try simp only[decide_eq_true_eq]at hb1
  have hi':i<lines.length:=by omega
  have eks:=ri.above _ _ es;have rks:=fun o=>Qp w0 eks o;have eg:(lines.map AVal.str).getD i .dead= .str (lines.getD i []):=by simp[List.getD,hi']
  obtain⟨r,cn,f,hp⟩:∃r cn f,WR (lines.getD i []) ((i:Int)+1) dbg=(r,cn,f):=⟨_,_,_,rfl⟩
  have hsl:=lineE_small (s:=lines.getD i []) (line:=(i:Int)+1) (dbg:=dbg);rw[hp]at hsl;simp only at hsl;have hlm:(lines.getD i []).length<=1048576:=by
   have h1:=splitNL_mem (Yg text) (lines.getD i []) (by rw[<-hln,List.getD,List.getElem?_eq_getElem hi'];exact List.getElem_mem hi');have h2:=qcm text;omega
  have hdrop:lines.drop i=lines.getD i []::lines.drop (i+1):=by rw[List.drop_eq_getElem_cons hi'];simp[List.getD,hi']
  refine Qa ?_;change Awp _ _ _ _ _ _ _;refine qO ?_;refine QB ?_;refine awp_rseq [1,5,6,8,9,21,22,23] (by rfl) fun K hK=>?_;simp+decide only[qa,ev,putD,Slots.put,Slots.get,Slots.keep,if_true,if_false,true_and,↓qj,qf,↓Xi,Qb,Qs Tryz.underlying30 sz9,↓qF,qy ag9,↓qd,qb,Nat.zero_add,qE,rks,eg,Int.toNat_natCast,Nat.mul_one];repeat (with_reducible refine And.intro ?_ ?_;· first|trivial|omega|(intro hg;simp only[Bool.and_eq_true,Bool.or_eq_true,Bool.not_eq_true',Bool.and_eq_false_iff,Bool.or_eq_false_iff,Bool.not_eq_false',decide_eq_true_eq,decide_eq_false_iff_not,Zt]at hg;omega))
  apply hK;clear hK K;refine awp_rseq [1,5,6,10,11,12,21,22,23] (by rfl) fun K hK=>?_;simp+decide only[ev,qJ,qG,putD,Slots.put,Slots.get,if_true,if_false,true_and,↓qj,qf,↓qC,qo,qD,cond_false,qz,Xf];try simp(disch:=omega)only[wrap_i64]
  refine qM (V:= .tuple [rowA r, .bool cn,QS f]) (by rfl) (by rfl) ((c_read w0 _ (lines.getD i []) ((i:Int)+1) dbg (by omega) (by omega) (by omega)).val (by rw[hp])) ?_;simp+decide only[ev,putD,Slots.put,Slots.get,if_true,if_false,true_and,↓qj,qf,↓QJ,QA,QH,List.length_cons,List.length_nil,List.getD_cons_zero,List.getD_cons_succ,List.getD_cons_zero,List.getD_cons_succ,Nat.zero_add,Nat.reduceAdd,QS,rowA];refine Qi ze120 (cs:=[.int .i64 0, .bool false, .str [], .int .i64 0]) (by rfl) fun k8q9 hk8q9=>?_;try have hf_8q9:(rdH kx B0 none none .start) k8q9=none:=by first|assumption|(simp only[AHeap.set_none]at hk8q9;simp only[hk8q9])
  refine Qi qaF (cs:=[.int .i64 0, .int .i64 0, .int .i64 0]) (by rfl) fun k8q10 hk8q10=>?_;have ne_8q10_8q9:k8q10≠k8q9:=by simp only[AHeap.set_none]at hk8q10;simp only[hk8q10,ne_eq,not_false_eq_true]
  try have hf_8q10:(rdH kx B0 none none .start) k8q10=none:=by first|assumption|(simp only[AHeap.set_none]at hk8q10;simp only[hk8q10])
  refine qm (by rfl) (by rfl) (by repeat (first|exact AHeap.set_same _ _ _|assumption|refine(AHeap.set_ne _ _ (by first|assumption|exact Ne.symm (by assumption))).trans ?_)) ZO (by rfl) (by rfl) (by first|exact Nat.le_refl _|decide|(simp;done)|(simp;omega)) (Nat.zero_le _) (by rfl) ?_;simp only[AVal.cells];simp+decide only[ev,putD,Slots.put,Slots.get,if_true,if_false,true_and,↓qd,qb,setAt,List.set_cons_zero,List.set_cons_succ,Nat.zero_add,Nat.reduceAdd];refine qm (by rfl) (by rfl) (by repeat (first|exact AHeap.set_same _ _ _|assumption|refine(AHeap.set_ne _ _ (by first|assumption|exact Ne.symm (by assumption))).trans ?_)) QD (by rfl) (by rfl) (by first|exact Nat.le_refl _|decide|(simp;done)|(simp;omega)) (Nat.zero_le _) (by rfl) ?_;simp only[AVal.cells];simp+decide only[qa,ev,putD,Slots.get,Slots.keep,if_true,if_false,setAt,List.set_cons_zero,List.set_cons_succ,Nat.zero_add,Nat.reduceAdd];apply hK;clear hK K;refine qO ?_;have hnorm:((((rdH kx B cb mb x).set k8q9 ⟨[.int .i64 0, .bool false, .str [], .int .i64 0],0⟩).set k8q10 ⟨[.int .i64 0, .int .i64 0, .int .i64 0],0⟩).set k8q9 ⟨[.int .i64 r.line, .bool r.more, .str r.text, .int .i64 r.col],0⟩).set k8q10 ⟨[.int .i64 f.e, .int .i64 f.line, .int .i64 f.col],0⟩=((rdH kx B cb mb x).set k8q9 ⟨[.int .i64 r.line, .bool r.more, .str r.text, .int .i64 r.col],0⟩).set k8q10 ⟨[.int .i64 f.e, .int .i64 f.line, .int .i64 f.col],0⟩:=by
   rw[AHeap.set_comm ((rdH kx B cb mb x).set k8q9 ⟨[.int .i64 0, .bool false, .str [], .int .i64 0],0⟩) _ _ ne_8q10_8q9.symm,AHeap.set_set,AHeap.set_set]
  rw[hnorm];obtain⟨a1,a2,a3,a4⟩:=rdH_new ri hk8q9 ⟨[.int .i64 r.line, .bool r.more, .str r.text, .int .i64 r.col],0⟩;have hk2:rdH kx (B.set k8q9 ⟨[.int .i64 r.line, .bool r.more, .str r.text, .int .i64 r.col],0⟩) cb mb x k8q10=none:=by
   rw[<-a1,AHeap.set_ne _ _ ne_8q10_8q9]
   rwa [AHeap.set_ne _ _ ne_8q10_8q9]at hk8q10
  obtain⟨b1,b2,b3,b4⟩:=rdH_new a2 hk2 ⟨[.int .i64 f.e, .int .i64 f.line, .int .i64 f.col],0⟩;rw[a1,b1];obtain⟨B₁,hB₁⟩:∃B₁,B₁=(B.set k8q9 ⟨[.int .i64 r.line, .bool r.more, .str r.text, .int .i64 r.col],0⟩).set k8q10 ⟨[.int .i64 f.e, .int .i64 f.line, .int .i64 f.col],0⟩:=⟨_,rfl⟩
  rw[<-hB₁]at b2|-
  have e0:B₁ k8q9=some ⟨[.int .i64 r.line, .bool r.more, .str r.text, .int .i64 r.col],0⟩:=by rw[hB₁,AHeap.set_ne _ _ ne_8q10_8q9.symm,AHeap.set_same]
  have e1:B₁ k8q10=some ⟨[.int .i64 f.e, .int .i64 f.line, .int .i64 f.col],0⟩:=by rw[hB₁,AHeap.set_same]
  have hB8:B k8q10=none:=by rwa [AHeap.set_ne _ _ ne_8q10_8q9]at b4
  have s0:=fun o=>Qp w0 (b2.other e0) o;have s1:=fun o=>Qp w0 (b2.other e1) o;refine awp_rseq [1,5,6,10,12,21,22,23,43] (by rfl) fun K hK=>?_;simp+decide only[qa,ev,qJ,qG,putD,Slots.put,Slots.get,Slots.keep,if_true,if_false,true_and,↓qF,Qb,qg Xh QD,↓Qn,↓qV,ZI,evP,List.map_nil,↓qC,qo,qZ,cond_false,Yv,eq35,↓qj,qf,↓Xc,agP,Qu,qI,qH,qw,implies_true,Bool.and_true,↓qbL,XE,ZY,cv_un,cp_un,↓QP,Qt,Qg,Xj,Xk,qc,List.getD_cons_zero,List.getD_cons_succ,Nat.zero_add,Nat.reduceAdd,qh,allLive,Bool.and_true,s1,WF];apply hK;clear hK K;refine qL (b:=_) rfl (fun hb2=>?_) (fun hb2=>?_)
  ·try simp only[decide_eq_true_eq,Bool.not_eq_true',Bool.and_eq_true]at hb2
   have iz:=b2;have gz:=hsm.next;have lz:YT dbg (lines.drop (i+1)) (((i+1:Nat):Int)+1) x=YT dbg lines 1 .start:=by
    rw[<-hrl,hdrop,readL_skip (by rw[hp,hb2.2]) hb2.1];rfl
   refine XL ?_;change Awp _ _ _ _ _ _ _;refine XK [1,5,6,21,22,23] (by rfl) ?_;simp+decide only[qa,ev,qJ,qG,putD,Slots.put,Slots.get,Slots.keep,if_true,if_false,true_and,↓qC,qo,qD,cond_false,qz,Xf,↓qj,qf];try simp(disch:=omega)only[wrap_i64]
   try simp only[Ql]
   exact⟨⟨i+1,_,_,_,_,_⟩,rfl,Sub.refl _,⟨iz,by simp only;omega,gz,lz⟩,by simp only;omega⟩
  ·try simp only[decide_eq_false_iff_not,Bool.not_eq_false',Bool.and_eq_false_iff]at hb2
   refine Qa ?_;change Awp _ _ _ _ _ _ _;refine qO ?_;refine awp_rseq [1,5,6,10,12,21,22,23,46] (by rfl) fun K hK=>?_;simp+decide only[qa,ev,qJ,qG,putD,Slots.put,Slots.get,Slots.keep,if_true,if_false,true_and,↓qF,Qb,qg Xh QD,↓Qn,↓qV,ZI,evP,List.map_nil,↓qC,qo,qZ,cond_false,Yv,eq35,qc,List.getD_cons_zero,List.getD_cons_succ,Nat.zero_add,Nat.reduceAdd,qh,allLive,Bool.and_true,s1,WF];apply hK;clear hK K;refine qL (b:=_) rfl (fun hb3=>?_) (fun hb3=>?_)
   ·try simp only[decide_eq_true_eq]at hb3
    have hcn:cn=true:=by
     cases hcn:cn with
     |true=>rfl
     |false=>
      rcases hb2 with e|e
      ·exact absurd hb3 e
      ·rw[hcn]at e
       cases e
    subst hcn;refine XK [1,5,6,12,21,22,23] (by rfl) ?_;simp+decide only[ev,putD,Slots.put,Slots.get,if_true,if_false,true_and,↓qF,Qb,qg Wo ZO,qc,List.getD_cons_zero,List.getD_cons_succ,Nat.zero_add,Nat.reduceAdd,qB,qh,qE,allLive,Bool.and_true,s0];refine QI (by rfl) (by rfl) (c_take w0 B0 kx B₁ M cb mb x b2 r (fun c hc=>by have:=hsm.small c hc;omega) (by have:=hsm.many;omega) (by omega) (hsl.2 rfl).1 (hsl.2 rfl).2.1 (by have:=(hsl.2 rfl).2.2;omega)) fun x11q1 h11q1 hx11q1=>?_;obtain⟨ex,B',M',cb',mb',rfl,i2,s2,m2⟩:=hx11q1;obtain⟨fz,hfz⟩:∃fz,fz=(takeE x r).2:=⟨_,rfl⟩
    rw[<-hfz]at ex;subst ex;have hM8:M' k8q10=none:=m2 _ (by rw[e1];simp) (ri.subM.none hB8);obtain⟨c1,iz⟩:=i2.put (s2 _ _ e1) (ri.sub.none hB8) hM8 ⟨[.int .i64 fz.e, .int .i64 fz.line, .int .i64 fz.col],0⟩;have gz:=qcZ hsm (r:=r) (by omega);refine qm (v:= .agg [.int .i64 fz.e, .int .i64 fz.line, .int .i64 fz.col]) (by rfl) (by rfl) (i2.other (s2 _ _ e1)) QD (by rfl) (by rfl) (by simp[]) (Nat.zero_le _) (by rfl) ?_;simp only[setAt,AVal.cells,List.set_cons_zero,List.set_cons_succ,Nat.zero_add,Nat.reduceAdd];rw[c1];have ez:=AHeap.set_same B' k8q10 ⟨[.int .i64 fz.e, .int .i64 fz.line, .int .i64 fz.col],0⟩;simp+decide only[qa,putD,Slots.put,Slots.keep,if_true,if_false,QS];change Awp _ _ _ _ _ _ _;refine awp_rseq [1,5,6,12,21,22,23,51] (by rfl) fun K hK=>?_;simp+decide only[qa,ev,qJ,qG,putD,Slots.put,Slots.get,Slots.keep,if_true,if_false,true_and,↓qF,Qb,qg Xh QD,↓Qn,↓qV,ZI,evP,List.map_nil,↓qC,qo,qZ,cond_false,Yv,ne35,qc,List.getD_cons_zero,List.getD_cons_succ,Nat.zero_add,Nat.reduceAdd,qh,allLive,Bool.and_true,Qp w0 (iz.other ez),WF];apply hK;clear hK K;refine qL (b:=_) rfl (fun hb4=>?_) (fun hb4=>?_)
    ·try simp only[decide_eq_false_iff_not,Bool.not_eq_true']at hb4
     have hres:=readE_fault (text:=text) (dbg:=dbg) hl (by rw[<-hln,<-hrl,hdrop,readL_bad hp hb3 (by rw[<-hfz];exact hb4)]) (by rw[<-hfz];exact hb4);rw[<-hfz]at hres;refine XU 2 [4,5] mixed (by kernel_rfl) (by rfl) (by rfl) fun K hK=>?_;simp+decide only[ev,qJ,qG,putD,Slots.put,Slots.get,if_true,if_false,true_and,↓qF,Qb,qg Xh QD,↓qd,qb,qc,List.getD_cons_zero,List.getD_cons_succ,Nat.zero_add,Nat.reduceAdd,qh,allLive,Bool.and_true,Qp w0 (iz.other ez)];refine qm (v:= .agg [.int .i64 fz.e, .int .i64 fz.line, .int .i64 fz.col]) (by rfl) (by rfl) (iz.other (iz.sub _ _ er)) QD (by rfl) (by rfl) (by simp[]) (Nat.zero_le _) (by rfl) ?_;simp only[setAt,AVal.cells,List.set_cons_zero,List.set_cons_succ,Nat.zero_add,Nat.reduceAdd];simp+decide only[qa,putD,Slots.keep,if_true,if_false];apply hK;clear hK K;refine qN ?_;try simp only[Qf,Qr,YE]
     refine qU h (Sub.trans_set (hs0.trans iz.above) hr) (?_) ?_
     ·simp+decide only[Qw,qp,qi,Slots.get,if_true,if_false,and_true,qp,qi,qg Xh QD,qW,qc,List.getD_cons_zero,List.getD_cons_succ,Nat.zero_add,Nat.reduceAdd,qh,allLive,Bool.and_true,qc,List.getD_cons_zero,List.getD_cons_succ,Nat.zero_add,Nat.reduceAdd,qh,allLive,Bool.and_true]
     simp+decide only[Slots.get,if_true,if_false,Xa,qp,qi,qg Xh QD,qW,qc,List.getD_cons_zero,List.getD_cons_succ,Nat.zero_add,Nat.reduceAdd,qh,allLive,Bool.and_true,qc,List.getD_cons_zero,List.getD_cons_succ,Nat.zero_add,Nat.reduceAdd,qh,allLive,Bool.and_true];exact⟨.nilSlice,by rw[hres];rfl,by rw[hres];exact⟨[],rfl, .nil,by simp⟩,Sub.refl _⟩
    ·try simp only[decide_eq_true_eq,Bool.not_eq_false']at hb4
     have lz:YT dbg (lines.drop (i+1)) (((i+1:Nat):Int)+1) (takeE x r).1=YT dbg lines 1 .start:=by
      rw[<-hrl,hdrop,readL_take hp hb3 (by rw[<-hfz];exact hb4)];rfl
     refine Qa ?_;change Awp _ _ _ _ _ _ _;refine XK [1,5,6,21,22,23] (by rfl) ?_;simp+decide only[qa,ev,qJ,qG,putD,Slots.put,Slots.get,Slots.keep,if_true,if_false,true_and,↓qC,qo,qD,cond_false,qz,Xf,↓qj,qf];try simp(disch:=omega)only[wrap_i64]
     try simp only[Ql]
     exact⟨⟨i+1,_,_,_,_,_⟩,rfl,Sub.refl _,⟨iz,by simp only;omega,gz,lz⟩,by simp only;omega⟩
   ·try simp only[decide_eq_false_iff_not]at hb3
    have iz:=b2;have ez:=e1;obtain⟨fz,hfz⟩:∃fz,fz=f:=⟨_,rfl⟩
    subst hfz;refine Qa ?_;change Awp _ _ _ _ _ _ _;refine awp_rseq [1,5,6,12,21,22,23,51] (by rfl) fun K hK=>?_;simp+decide only[qa,ev,qJ,qG,putD,Slots.put,Slots.get,Slots.keep,if_true,if_false,true_and,↓qF,Qb,qg Xh QD,↓Qn,↓qV,ZI,evP,List.map_nil,↓qC,qo,qZ,cond_false,Yv,ne35,qc,List.getD_cons_zero,List.getD_cons_succ,Nat.zero_add,Nat.reduceAdd,qh,allLive,Bool.and_true,s1,WF];apply hK;clear hK K;refine qL (b:=_) rfl (fun hb5=>?_) (fun hb5=>?_)
    ·try simp only[decide_eq_false_iff_not,Bool.not_eq_true']at hb5
     have hres:=readE_fault (text:=text) (dbg:=dbg) hl (by rw[<-hln,<-hrl,hdrop,readL_fault hp hb3]) hb3;refine XU 2 [4,5] mixed (by kernel_rfl) (by rfl) (by rfl) fun K hK=>?_;simp+decide only[ev,qJ,qG,putD,Slots.put,Slots.get,if_true,if_false,true_and,↓qF,Qb,qg Xh QD,↓qd,qb,qc,List.getD_cons_zero,List.getD_cons_succ,Nat.zero_add,Nat.reduceAdd,qh,allLive,Bool.and_true,s1];refine qm (v:= .agg [.int .i64 fz.e, .int .i64 fz.line, .int .i64 fz.col]) (by rfl) (by rfl) (iz.other (iz.sub _ _ er)) QD (by rfl) (by rfl) (by simp[]) (Nat.zero_le _) (by rfl) ?_;simp only[setAt,AVal.cells,List.set_cons_zero,List.set_cons_succ,Nat.zero_add,Nat.reduceAdd];simp+decide only[qa,putD,Slots.keep,if_true,if_false];apply hK;clear hK K;refine qN ?_;try simp only[Qf,Qr,YE]
     refine qU h (Sub.trans_set (hs0.trans iz.above) hr) (?_) ?_
     ·simp+decide only[Qw,qp,qi,Slots.get,if_true,if_false,and_true,qp,qi,qg Xh QD,qW,qc,List.getD_cons_zero,List.getD_cons_succ,Nat.zero_add,Nat.reduceAdd,qh,allLive,Bool.and_true,qc,List.getD_cons_zero,List.getD_cons_succ,Nat.zero_add,Nat.reduceAdd,qh,allLive,Bool.and_true]
     simp+decide only[Slots.get,if_true,if_false,Xa,qp,qi,qg Xh QD,qW,qc,List.getD_cons_zero,List.getD_cons_succ,Nat.zero_add,Nat.reduceAdd,qh,allLive,Bool.and_true,qc,List.getD_cons_zero,List.getD_cons_succ,Nat.zero_add,Nat.reduceAdd,qh,allLive,Bool.and_true];exact⟨.nilSlice,by rw[hres];rfl,by rw[hres];exact⟨[],rfl, .nil,by simp⟩,Sub.refl _⟩
    ·try simp only[decide_eq_true_eq,Bool.not_eq_false']at hb5
     exact absurd hb5 hb3
 ·try simp only[decide_eq_false_iff_not]at hb1
  obtain rfl:i=lines.length:=by omega
  have hdone:YT dbg (XF (Yg text)) 1 .start=(x,okF):=by
   rw[<-hln,<-hrl,List.drop_length];rfl
  refine XL ?_;change Awp _ _ _ _ _ _ _;refine Awp.keep [5,6] ?_;exact readEnd w0 h B0 hs0 kr kx text dbg hl er hr B M cb mb x ri (by have:=hsm.many;omega) hdone
theorem readE_long{text:Str}{dbg:Bool}(hl:1048576<text.length):Ug text dbg=([],⟨3,0,0⟩):=by
 unfold Ug;rw[if_pos hl]
theorem c_Read(w0:World)(hm:MaxL w0)(h:AHeap)(text:Str)(dbg:Bool)(hl:text.length<=9223372036854775807):ACall Tryz.prog w0 49 [.str text, .bool dbg] h (ReadR w0 h text dbg):=by
 refine qR (n:=82) (rs:=[.tmp 4, .cell 5 35]) Tryz.func49 rfl rfl rfl rfl (Nat.le_of_ble_eq_true rfl) ?_;simp only[Qc];refine awp_rseq [0,1,5] (by rfl) fun K hK=>?_;simp+decide only[ev,qJ,qG,putD,Slots.put,if_false,true_and,↓qd,qb,Nat.zero_add];refine Qi qaF (cs:=[.int .i64 0, .int .i64 0, .int .i64 0]) (by rfl) fun k0q1 hk0q1=>?_;try have hf_0q1:h k0q1=none:=by first|assumption|(simp only[AHeap.set_none]at hk0q1;simp only[hk0q1])
 simp+decide only[qa,putD,Slots.put,Slots.keep,if_true,if_false];apply hK;clear hK K;refine awp_scope ?_;refine qO ?_;refine awp_rseq [0,1,5,16] (by rfl) fun K hK=>?_;simp+decide only[qa,ev,qJ,qG,putD,Slots.put,Slots.get,Slots.keep,if_true,if_false,true_and,↓qj,qf,↓XA,QK,YB Tryz.underlying9,↓qC,qo,qD,cond_false,qz,Ur];apply hK;clear hK K;refine qL (b:=_) rfl (fun hb1=>?_) (fun hb1=>?_)
 ·try simp only[decide_eq_true_eq]at hb1
  refine awp_rseq [4,5] (by rfl) fun K hK=>?_;simp+decide only[ev,qJ,qG,putD,Slots.put,Slots.get,if_true,if_false,true_and,↓Qn,↓qV,bld35_0,evP,List.map_cons,List.map_nil,↓qd,qb];refine qm (by rfl) (by rfl) (by repeat (first|exact AHeap.set_same _ _ _|assumption|refine(AHeap.set_ne _ _ (by first|assumption|exact Ne.symm (by assumption))).trans ?_)) QD (by rfl) (by rfl) (by first|exact Nat.le_refl _|decide|(simp;done)|(simp;omega)) (Nat.zero_le _) (by rfl) ?_;simp only[AHeap.set_set,AVal.cells];simp+decide only[qa,ev,putD,Slots.get,Slots.keep,if_true,if_false,setAt,List.set_cons_zero,List.set_cons_succ,Nat.zero_add,Nat.reduceAdd];apply hK;clear hK K;refine qN ?_;try simp only[Qf,YE]
  refine qU h (by repeat (first|exact Sub.refl _|assumption|refine Sub.trans_set ?_ (by assumption))) (?_) ?_
  ·simp+decide only[Qw,qp,qi,Slots.get,if_true,if_false,and_true,qp,qi,qg Xh QD,qW,qc,List.getD_cons_zero,List.getD_cons_succ,Nat.zero_add,Nat.reduceAdd,qh,allLive,Bool.and_true,qc,List.getD_cons_zero,List.getD_cons_succ,Nat.zero_add,Nat.reduceAdd,qh,allLive,Bool.and_true]
  simp+decide only[Slots.get,if_true,if_false,Xa,qp,qi,qg Xh QD,qW,qc,List.getD_cons_zero,List.getD_cons_succ,Nat.zero_add,Nat.reduceAdd,qh,allLive,Bool.and_true,qc,List.getD_cons_zero,List.getD_cons_succ,Nat.zero_add,Nat.reduceAdd,qh,allLive,Bool.and_true];have hb:1048576<text.length:=by omega
  exact⟨.nilSlice,by rw[readE_long hb];rfl,by rw[readE_long hb];exact⟨[],rfl, .nil,by simp⟩,Sub.refl _⟩
 ·try simp only[decide_eq_false_iff_not]at hb1
  refine Qa ?_;change Awp _ _ _ _ _ _ _;refine awp_rseq [0,1,5,6] (by rfl) fun K hK=>?_;refine Qi ze116 (cs:=[.nilSlice, .int .i64 0, .int .i64 0, .bool false]) (by rfl) fun k3q0 hk3q0=>?_;have ne_3q0_0q1:k3q0≠k0q1:=by simp only[AHeap.set_none]at hk3q0;simp only[hk3q0,ne_eq,not_false_eq_true]
  try have hf_3q0:h k3q0=none:=by first|assumption|(simp only[AHeap.set_none]at hk3q0;simp only[hk3q0])
  simp+decide only[qa,putD,Slots.put,Slots.keep,if_true,if_false];apply hK;clear hK K;refine awp_rseq [1,5,6,7] (by rfl) fun K hK=>?_;simp+decide only[ev,putD,Slots.put,Slots.get,if_true,if_false,true_and,↓qj,qf];refine qM (V:= .str (Yg text)) (by rfl) (by rfl) (c_trimNL w0 _ text hl) ?_;refine QI (by rfl) (by rfl) (c_split w0 hm _ (Yg text) (by have:=qcm text;omega)) fun x4q2 h4q2 hx4q2=>?_;obtain⟨ks,hks,rfl,rfl⟩:=hx4q2;simp+decide only[qa,ev,putD,Slots.put,Slots.get,Slots.keep,if_true,if_false,true_and,↓qd,qb];apply hK;clear hK K;refine qO ?_;refine awp_label ?_;change Awp _ _ _ _ _ _ _;obtain⟨nks,_,hks2⟩:=(AHeap.set_none _ _ _ _).mp hks;obtain⟨nkr,_,hks3⟩:=(AHeap.set_none _ _ _ _).mp hks2;have nkx:k3q0≠k0q1:=((AHeap.set_none _ _ _ _).mp hk3q0).1;have hcomm:((h.set k0q1 ⟨[.int .i64 0, .int .i64 0, .int .i64 0],0⟩).set k3q0 ⟨[.nilSlice, .int .i64 0, .int .i64 0, .bool false],0⟩).set ks ⟨(XF (Yg text)).map AVal.str,0⟩=rdH k3q0 ((h.set k0q1 ⟨[.int .i64 0, .int .i64 0, .int .i64 0],0⟩).set ks ⟨(XF (Yg text)).map AVal.str,0⟩) none none .start:=AHeap.set_comm _ _ _ nks;rw[hcomm];exact readLoop w0 hm h _ (by repeat (first|exact Sub.refl _|assumption|refine Sub.set_both ?_ _ _|refine Sub.trans_set ?_ (by repeat (first|assumption|refine(AHeap.set_ne _ _ (by first|assumption|exact Ne.symm (by assumption))).trans ?_)))) k0q1 k3q0 ks text dbg (XF (Yg text)) rfl (by omega) ((AHeap.set_ne _ _ nkr.symm).trans (AHeap.set_same _ _ _)) hk0q1 (AHeap.set_same _ _ _) ⟨Sub.refl _,(fun _ _ e=>by cases e),(AHeap.set_ne _ _ nks.symm).trans hk3q0,trivial,trivial, .inl ⟨rfl,rfl,rfl⟩⟩
end Go.Proofs.YtlhhaagmakhilaaGreatDoor
namespace Go.Proofs.YtlhhaagmakhilaaGreatDoor
open Go.AM
open Go.Proofs
open Go.Col
open Go.Tok
open Go.RowKit (Below)
set_option maxRecDepth 100000
theorem cardT_nth{w0:World}{h:AHeap}{l:AM.Loc}{o n:Nat}{cp:Cap}{cs:List CardC}(hc:IsCards w0 h (.slice l o n cp) cs){i:Nat}(hi:i<cs.length):
 ∃mv,IsL w0 h 3 mv ((cs.getD i ⟨false,[],[]⟩).marks.map WO)/\rd w0 h l (o+i*3)= .bool (cs.getD i ⟨false,[],[]⟩).left/\rd w0 h l (o+i*3+1)= .str (cs.getD i ⟨false,[],[]⟩).text/\rd w0 h l (o+i*3+2)=mv:=by
 obtain⟨ps,rfl,h2,h3⟩:=hc;rw[List.length_map]at hi;have he:=h2.elem (i:=i) (by rw[List.length_map];exact hi);rw[getD_map (⟨false,[],[]⟩, .dead) hi]at he;have hg:(ps.map (·.1)).getD i ⟨false,[],[]⟩=(ps.getD i (⟨false,[],[]⟩, .dead)).1:=by
  simp[List.getD,hi]
 rw[hg];have hm:ps.getD i (⟨false,[],[]⟩, .dead)∈ps:=by rw[List.getD,List.getElem?_eq_getElem hi];exact List.getElem_mem hi
 simp only[qc,XZ,List.cons.injEq,and_true]at he;exact⟨_,h3 _ hm,he.1,he.2.1,he.2.2⟩
theorem rd_subT{w0:World}{h h':AHeap}{l:AM.Loc}{o:Nat}{v:AVal}(hv:rd w0 h l o=v)(hl:v.live=true)(hs:Sub h h'):rd w0 h' l o=v:=by
 have:=cellsAt_mono (w0:=w0) (l:=l) hs 1 o (by simp only[qc,AM.allLive,hv,hl,Bool.and_true]);simp only[qc,List.cons.injEq,and_true]at this;rw[this,hv]
theorem IsCards.liveT{w0:World}{h:AHeap}{v:AVal}{cs:List CardC}(hc:IsCards w0 h v cs):v.live=true:=by
 obtain⟨ps,rfl,h2,h3⟩:=hc;exact h2.live
theorem IsCards.lenT{w0:World}{h:AHeap}{v:AVal}{cs:List CardC}(hc:IsCards w0 h v cs):∀H:AHeap,ZE Tryz.prog H 101 v=⟨True, .int .i64 cs.length⟩:=by
 obtain⟨ps,rfl,h2,h3⟩:=hc;have:=h2.len Tryz.underlying101;intro H;have:=this H;rw[List.length_map]at this|-
 exact this
theorem IsCards.openT{w0:World}{h:AHeap}{v:AVal}{cs:List CardC}(hc:IsCards w0 h v cs)(hn:0<cs.length):∃l o c,v= .slice l o cs.length c:=by
 obtain⟨ps,rfl,h2,h3⟩:=hc;obtain⟨l,o,c,e⟩:=h2.open (fun e=>by rw[List.map_eq_nil_iff]at e;subst e;simp at hn);rw[List.length_map]at e|-
 exact⟨l,o,c,e⟩
theorem scanGo_next{cs:List CardC}{i:Nat}(hi:i<cs.length)(l:List TokC):qba (cs.drop i) l=if (UW (cs.getD i ⟨false,[],[]⟩) l).2≠okF then([],(UW (cs.getD i ⟨false,[],[]⟩) l).2)else qba (cs.drop (i+1)) (UW (cs.getD i ⟨false,[],[]⟩) l).1:=by
 rw[List.drop_eq_getElem_cons hi,qba];simp[List.getD,hi]
theorem Sub.bufBoth{h h':AHeap}{b:Option Buf}(hs:Sub h h'):Sub (QY h b) (QY h' b):=by
 cases b with
 |none=>exact hs
 |some b=>exact Sub.set_both hs _ _
def ScanR(h:AHeap)(R:List TokC×FaultC)(v:AVal)(h':AHeap):Prop:=∃tb,v= .tuple [Ye (QT 5 tb),QS R.2]/\bufOk h 5 tb/\Uc tb=(R.1.map Xv).flatten/\h'=QY h tb
structure SnG where
 i:Nat
 l:List TokC
 tb:Option Buf
 lf:Bool
 s:Str
 mv:AVal
 at0:Nat
structure SnOk(kx:Nat)(B:AHeap)(cs:List CardC)(g:SnG):Prop where
 inv:ScInv kx B g.tb g.l
 i:g.i<=cs.length
 eq:qba (cs.drop g.i) g.l=qdg cs
 len:g.l.length<=65536
theorem c_clipT(w0:World)(h:AHeap)(v:AVal)(xs:List (List AVal))(hv:IsL w0 h 5 v xs):ACall Tryz.prog w0 33 [v] h (fun r h'=>r=Ye v/\h'=h):=by
 have hlen:=hv.len Tryz.underlying26;have h3:=hv.slice3 Tryz.underlying26 Xg .i64 .i64 none rfl;refine qR (n:=9) (rs:=[.tmp 2]) Tryz.func33 rfl rfl rfl rfl (Nat.le_of_ble_eq_true rfl) ?_;simp only[Qc];refine awp_rseq [0] (by rfl) fun K hK=>?_;simp+decide only[qa,ev,qJ,qG,putD,Slots.put,Slots.keep,if_true,if_false,true_and,↓qd,qb];apply hK;clear hK K;refine awp_rseq [2] (by rfl) fun K hK=>?_;simp+decide only[qa,ev,putD,Slots.put,Slots.get,Slots.keep,if_true,if_false,true_and,↓qj,qf,↓XA,QK,↓UJ,ZK,evO,↓qd,qb,hlen,h3];apply hK;clear hK K;refine qN ?_;refine qU _ (Sub.refl _) (qY (Qe)) ?_;simp+decide only[Slots.get,if_true,and_true,Qv];all_goals first|rfl|exact⟨rfl,rfl⟩|(simp+decide only[if_true,if_false, *];done)|(trace_state;fail)
set_option maxHeartbeats 1000000 in
theorem c_Scan(w0:World)(h:AHeap)(v:AVal)(cs:List CardC)(hc:IsCards w0 h v cs)(hn:cs.length<=4611686018427387904)(hsm:∀c∈cs,c.text.length<=1099511627776/\c.marks.length<=4611686018427387904):
 ACall Tryz.prog w0 50 [v] h (ScanR h (qdg cs)):=by
 have hlv:=hc.liveT;have hln:=hc.lenT;refine qR (n:=27) (rs:=[.tmp 2, .cell 3 35]) Tryz.func50 rfl rfl rfl rfl (Nat.le_of_ble_eq_true rfl) ?_;simp only[Qc];refine awp_rseq [0,3] (by rfl) fun K hK=>?_;simp+decide only[ev,qJ,qG,putD,Slots.put,if_false,true_and,↓qd,qb];refine Qi qaF (cs:=[.int .i64 0, .int .i64 0, .int .i64 0]) (by rfl) fun k0q1 hk0q1=>?_;try have hf_0q1:h k0q1=none:=by first|assumption|(simp only[AHeap.set_none]at hk0q1;simp only[hk0q1])
 simp+decide only[qa,putD,Slots.put,Slots.keep,if_true,if_false];apply hK;clear hK K;refine awp_rseq [0,3,4] (by rfl) fun K hK=>?_;refine Qi ze132 (cs:=[.bool false, .str [], .nilSlice, .int .i64 0, .nilSlice]) (by rfl) fun k1q0 hk1q0=>?_;have ne_1q0_0q1:k1q0≠k0q1:=by simp only[AHeap.set_none]at hk1q0;simp only[hk1q0,ne_eq,not_false_eq_true]
 try have hf_1q0:h k1q0=none:=by first|assumption|(simp only[AHeap.set_none]at hk1q0;simp only[hk1q0])
 simp+decide only[qa,putD,Slots.put,Slots.keep,if_true,if_false];obtain⟨B,hB⟩:∃B,B=h.set k0q1 ⟨[.int .i64 0, .int .i64 0, .int .i64 0],0⟩:=⟨_,rfl⟩
 have hBs:Sub h B:=by rw[hB];exact Sub.set hk0q1
 have hBk:B k0q1=some ⟨[.int .i64 0, .int .i64 0, .int .i64 0],0⟩:=by rw[hB];exact AHeap.set_same _ _ _
 rw[<-hB]at hk1q0|-
 apply hK;clear hK K;refine qO ?_;refine awp_rseq [3,4,8,9,10] (by rfl) fun K hK=>?_;simp+decide only[qa,ev,qJ,qG,putD,Slots.put,Slots.get,Slots.keep,if_true,if_false,true_and,↓qj,qf,↓XA,QK,hln];apply hK;clear hK K;refine QB ?_;refine XH [3,4,8,9,10] (fun g:SnG=>[(3, .ptr (.own k0q1) 0),(4, .ptr (.own k1q0) 0),(8,v),(9, .int .i64 cs.length),(10, .int .i64 g.i)]) (fun g:SnG=>scH k1q0 B g.tb g.lf g.s g.mv g.at0) (fun g:SnG=>SnOk k1q0 B cs g) (fun g:SnG=>cs.length-g.i) ⟨0,[],none,false,[], .nilSlice,0⟩ (by rfl) (Sub.refl _) ⟨⟨hk1q0,fun _=>trivial,rfl⟩,Nat.zero_le _,rfl,Nat.zero_le _⟩ ?_;rintro⟨i,l,tb,lf0,s0,mv0,at0⟩ ⟨i1,i2,i3,i4⟩;simp only at i1 i2 i3 i4|-
 have hSb:Sub h (scH k1q0 B tb lf0 s0 mv0 at0):=hBs.trans i1.above;refine awp_rseq [3,4,8,9,10,11] (by rfl) fun K hK=>?_;simp+decide only[qa,ev,putD,Slots.put,Slots.get,Slots.keep,if_true,if_false,true_and,↓qC,qo,qZ,cond_false,qz,Zd];apply hK;clear hK K;refine qO (qL (b:=_) rfl (fun hb1=>?_) (fun hb1=>?_))
 ·try simp only[decide_eq_true_eq]at hb1
  have hi:i<cs.length:=by omega
  obtain⟨lc,o,cp,rfl⟩:=hc.openT (by omega);obtain⟨mv,e3,e0,e1,e2⟩:=cardT_nth hc hi;obtain⟨c,hcc⟩:∃c,c=cs.getD i ⟨false,[],[]⟩:=⟨_,rfl⟩
  have hnext:=scanGo_next hi l;rw[<-hcc]at e0 e1 e3 hnext;have hcs:=hsm c (by rw[hcc,List.getD,List.getElem?_eq_getElem hi];exact List.getElem_mem hi);have hmv:=e3.live;have hms:=e3.scal;have e0':=rd_subT e0 rfl hSb;have e1':=rd_subT e1 rfl hSb;have e2':=rd_subT e2 hmv hSb;rw[i3]at hnext;refine Qa ?_;change Awp _ _ _ _ _ _ _;refine qO ?_;refine QB ?_;refine awp_rseq [3,4,6,8,9,10] (by rfl) fun K hK=>?_;simp+decide only[ev,putD,Slots.put,Slots.get,if_true,if_false,true_and,↓Xi,Qb,Qs Tryz.underlying101 qbV,↓qF,qg ag129 qbV,qc,qB,qE,allLive,Bool.and_true,e0',e1',e2',Int.toNat_natCast,hmv];repeat (with_reducible refine And.intro ?_ ?_;· first|trivial|omega|(intro hg;simp only[Bool.and_eq_true,Bool.or_eq_true,Bool.not_eq_true',Bool.and_eq_false_iff,Bool.or_eq_false_iff,Bool.not_eq_false',decide_eq_true_eq,decide_eq_false_iff_not,Zt]at hg;omega))
  refine Qi ze129 (cs:=[.bool false, .str [], .nilSlice]) (by rfl) fun k4q2 hk4q2=>?_;try have hf_4q2:h k4q2=none:=by first|assumption|(simp only[AHeap.set_none]at hk4q2;simp only[hk4q2])
  refine qm (v:= .agg [.bool c.left, .str c.text,mv]) (by rfl) (by rfl) (AHeap.set_same _ _ _) qbV (by rfl) (by rfl) (by simp[]) (Nat.zero_le _) (show(true && (true && (mv.scal && true)))=true by rw[hms];rfl) ?_;simp only[AHeap.set_set,setAt,AVal.cells,List.set_cons_zero,List.set_cons_succ,Nat.zero_add,Nat.reduceAdd];simp+decide only[qa,putD,Slots.put,Slots.keep,if_true,if_false];apply hK;clear hK K;obtain⟨a1,a2,a3,a4⟩:=i1.lay hk4q2 ⟨[.bool c.left, .str c.text,mv],0⟩;obtain⟨B2,hB2⟩:∃B2,B2=B.set k4q2 ⟨[.bool c.left, .str c.text,mv],0⟩:=⟨_,rfl⟩
  rw[<-hB2]at a1 a2;have hB2s:Sub B B2:=by rw[hB2];exact Sub.set a4
  have b2k:B2 k4q2=some ⟨[.bool c.left, .str c.text,mv],0⟩:=by rw[hB2];exact AHeap.set_same _ _ _
  have r5:=fun o=>Qp w0 (a2.other (lf:=lf0) (s:=s0) (mv:=mv0) (i:=at0) b2k) o;have hm2:IsL w0 B2 3 mv (c.marks.map WO):=e3.mono (hBs.trans hB2s);rw[a1];refine awp_rseq [3,4,8,9,10] (by rfl) fun K hK=>?_;simp+decide only[ev,putD,Slots.put,Slots.get,if_true,if_false,true_and,↓qF,Qb,qg ag129 qbV,↓qA,ql,WI,qc,List.getD_cons_zero,List.getD_cons_succ,Nat.zero_add,Nat.reduceAdd,qB,qE,allLive,Bool.and_true,r5,hmv];refine qm (v:= .agg [.bool c.left, .str c.text,mv]) (by rfl) (by rfl) a2.at qbV (by rfl) (by rfl) (by simp[]) (Nat.zero_le _) (show(true && (true && (mv.scal && true)))=true by rw[hms];rfl) ?_;simp only[setAt,AVal.cells,List.set_cons_zero,List.set_cons_succ,Nat.zero_add,Nat.reduceAdd];rw[a2.set];show QM _ _ _ _ _ (scH k1q0 B2 tb c.left c.text mv at0) _
  simp+decide only[ev,putD,Slots.put,Slots.get,if_true,if_false,true_and,↓qA,ql,YW,Nat.zero_add];refine qm (v:= .int .i64 0) (by rfl) (by rfl) a2.at sz3 (by rfl) (by rfl) (by simp) (Nat.zero_le _) (by rfl) ?_;simp only[setAt,AVal.cells,List.set_cons_zero,List.set_cons_succ];rw[a2.set];show QM _ _ _ _ _ (scH k1q0 B2 tb c.left c.text mv 0) _
  simp+decide only[qa,putD,Slots.keep,if_true,if_false];apply hK;clear hK K;refine awp_rseq [3,4,7,8,9,10] (by rfl) fun K hK=>?_;refine QI (by rfl) (by rfl) (c_card w0 k1q0 B2 tb c mv l a2 hm2 hcs.2 hcs.1 i4) fun x6q0 h6q0 hx6q0=>?_;obtain⟨hv6,hl6,tb',i',hh6,j1⟩:=hx6q0;obtain⟨f,hf⟩:∃f,f=(UW c l).2:=⟨_,rfl⟩
  obtain⟨H6,hH6⟩:∃H6,H6=scH k1q0 B2 tb' c.left c.text mv i':=⟨_,rfl⟩
  have hS6:Sub h H6:=by rw[hH6];exact(hBs.trans hB2s).trans j1.above
  have e06:H6 k0q1=some ⟨[.int .i64 0, .int .i64 0, .int .i64 0],0⟩:=by rw[hH6];exact j1.other (hB2s _ _ hBk)
  rw[<-hf]at hnext;rw[hv6,hh6,<-hH6,<-hf];refine Qi qaF (cs:=[.int .i64 0, .int .i64 0, .int .i64 0]) (by rfl) fun k6q1 hk6q1=>?_;try have hf_6q1:h k6q1=none:=by first|assumption|(simp only[AHeap.set_none]at hk6q1;simp only[hk6q1])
  refine qm (by rfl) (by rfl) (by repeat (first|exact AHeap.set_same _ _ _|assumption|refine(AHeap.set_ne _ _ (by first|assumption|exact Ne.symm (by assumption))).trans ?_)) QD (by rfl) (by rfl) (by first|exact Nat.le_refl _|decide|(simp;done)|(simp;omega)) (Nat.zero_le _) (by rfl) ?_;simp only[AHeap.set_set,AVal.cells];simp+decide only[qa,ev,putD,Slots.put,Slots.get,Slots.keep,if_true,if_false,setAt,List.set_cons_zero,List.set_cons_succ,Nat.zero_add,Nat.reduceAdd,QS];apply hK;clear hK K;have hf6:=Sub.none hS6 hk6q1;have ne_6q1_0q1:k6q1≠k0q1:=AHeap.ne_some hk6q1 e06;refine awp_rseq [3,4,7,8,9,10,20] (by rfl) fun K hK=>?_;simp+decide only[qa,ev,qJ,qG,putD,Slots.put,Slots.get,Slots.keep,if_true,if_false,true_and,↓qF,Qb,qg Xh QD,↓Qn,↓qV,ZI,evP,List.map_nil,↓qC,qo,qZ,cond_false,Yv,ne35,QV,qc,List.getD_cons_zero,List.getD_cons_succ,Nat.zero_add,Nat.reduceAdd,qh,allLive,Bool.and_true,WF];apply hK;clear hK K;refine qL (b:=_) rfl (fun hb2=>?_) (fun hb2=>?_)
  ·try simp only[decide_eq_false_iff_not,Bool.not_eq_true']at hb2
   have hres:qdg cs=([],f):=by rw[hnext,if_pos hb2]
   refine XU 2 [2,3] mixed (by kernel_rfl) (by rfl) (by rfl) fun K hK=>?_;simp+decide only[ev,qJ,qG,putD,Slots.put,Slots.get,if_true,if_false,true_and,↓qF,Qb,qg Xh QD,↓qd,qb,QV,qc,List.getD_cons_zero,List.getD_cons_succ,Nat.zero_add,Nat.reduceAdd,qh,allLive,Bool.and_true];refine qm (by rfl) (by rfl) (by repeat (first|exact AHeap.set_same _ _ _|assumption|refine(AHeap.set_ne _ _ (by first|assumption|exact Ne.symm (by assumption))).trans ?_)) QD (by rfl) (by rfl) (by first|exact Nat.le_refl _|decide|(simp;done)|(simp;omega)) (Nat.zero_le _) (by rfl) ?_;simp only[AVal.cells];simp+decide only[qa,ev,putD,Slots.get,Slots.keep,if_true,if_false,setAt,List.set_cons_zero,List.set_cons_succ,Nat.zero_add,Nat.reduceAdd];apply hK;clear hK K;refine qN ?_;try simp only[Qf,Qr]
   refine qU h (by repeat (first|exact Sub.refl _|assumption|refine Sub.set_both ?_ _ _|refine Sub.trans_set ?_ (by repeat (first|assumption|refine(AHeap.set_ne _ _ (by first|assumption|exact Ne.symm (by assumption))).trans ?_)))) (?_) ?_
   ·simp+decide only[Qw,qp,qi,Slots.get,if_true,if_false,and_true,qp,qi,qg Xh QD,qW,qc,List.getD_cons_zero,List.getD_cons_succ,Nat.zero_add,Nat.reduceAdd,qh,allLive,Bool.and_true,qc,List.getD_cons_zero,List.getD_cons_succ,Nat.zero_add,Nat.reduceAdd,qh,allLive,Bool.and_true]
   simp+decide only[Slots.get,if_true,if_false,Xa,qp,qi,qg Xh QD,qW,qc,List.getD_cons_zero,List.getD_cons_succ,Nat.zero_add,Nat.reduceAdd,qh,allLive,Bool.and_true,qc,List.getD_cons_zero,List.getD_cons_succ,Nat.zero_add,Nat.reduceAdd,qh,allLive,Bool.and_true];exact⟨none,by rw[hres];rfl,trivial,by rw[hres];rfl,rfl⟩
  ·try simp only[decide_eq_true_eq,Bool.not_eq_false']at hb2
   have hres:qdg cs=qba (cs.drop (i+1)) (UW c l).1:=by rw[hnext,if_neg (by simpa using hb2)]
   refine Qa ?_;change Awp _ _ _ _ _ _ _;refine XK [3,4,8,9,10] (by rfl) ?_;simp+decide only[qa,ev,qJ,qG,putD,Slots.put,Slots.get,Slots.keep,if_true,if_false,true_and,↓qC,qo,qD,cond_false,qz,Xf,↓qj,qf];try simp(disch:=omega)only[wrap_i64]
   try simp only[Ql]
   exact⟨⟨i+1,(UW c l).1,tb',c.left,c.text,mv,i'⟩,rfl,(scH_sub hB2s).trans (by rw[<-hH6];exact Sub.set hk6q1),⟨j1.down hB2s,hi,hres.symm,hl6⟩,by simp only;omega⟩
 ·try simp only[decide_eq_false_iff_not]at hb1
  have hres:qdg cs=(l,okF):=by rw[<-i3,List.drop_eq_nil_of_le (by omega)];rfl
  have rx10:=fun o=>Qp w0 (i1.at (lf:=lf0) (s:=s0) (mv:=mv0) (i:=at0)) o;have hbl:=Xm 5 tb;have r0:=fun o=>Qp w0 (i1.other (lf:=lf0) (s:=s0) (mv:=mv0) (i:=at0) hBk) o;refine XL ?_;change Awp _ _ _ _ _ _ _;refine awp_rseq [2,3] (by rfl) fun K hK=>?_;simp+decide only[ev,putD,Slots.put,Slots.get,if_true,if_false,true_and,↓qA,ql,qcF,↓qF,Qb,qy UK,List.getD_cons_zero,List.getD_cons_succ,Nat.zero_add,rx10,hbl];refine qM (V:=Ye (QT 5 tb)) (by rfl) (by rfl) (c_clipT w0 _ _ _ (i1.toks _)) ?_;simp+decide only[ev,qJ,qG,putD,Slots.put,Slots.get,if_true,if_false,true_and,↓Qn,↓qV,ZI,evP,List.map_nil,↓qd,qb];refine qm (v:= .agg [.int .i64 0, .int .i64 0, .int .i64 0]) (by rfl) (by rfl) (i1.other hBk) QD (by rfl) (by rfl) (by simp[]) (Nat.zero_le _) (by rfl) ?_;simp only[setAt,AVal.cells,List.set_cons_zero,List.set_cons_succ,Nat.zero_add,Nat.reduceAdd];rw[Yj (i1.other hBk)];simp+decide only[qa,putD,Slots.keep,if_true,if_false];apply hK;clear hK K;refine qN ?_;refine QN (?_) ?_
  ·simp+decide only[Qw,qp,qi,Slots.get,if_true,if_false,and_true,qp,qi,qg Xh QD,qc,List.getD_cons_zero,List.getD_cons_succ,Nat.zero_add,Nat.reduceAdd,qh,allLive,Bool.and_true,qc,List.getD_cons_zero,List.getD_cons_succ,Nat.zero_add,Nat.reduceAdd,qh,allLive,Bool.and_true,r0]
  simp+decide only[Slots.get,if_true,if_false,Xa,qp,qi,qg Xh QD,qc,List.getD_cons_zero,List.getD_cons_succ,Nat.zero_add,Nat.reduceAdd,qh,allLive,Bool.and_true,qc,List.getD_cons_zero,List.getD_cons_succ,Nat.zero_add,Nat.reduceAdd,qh,allLive,Bool.and_true,r0];have hsx:Sub h (B.set k1q0 ⟨[.bool lf0, .str s0,mv0, .int .i64 at0,QT 5 tb],0⟩):=hBs.trans (Sub.set i1.hk);exact⟨QY h tb,Sub.bufBoth hsx,tb,by rw[hres];rfl,(i1.ok _).sub hsx,by rw[hres];exact i1.eq,rfl⟩
end Go.Proofs.YtlhhaagmakhilaaGreatDoor
namespace Go.Proofs.YtlhhaagmakhilaaGreatDoor
open Go.AM
open Go.Proofs
open Go.Col
open Go.Tok
open Go.RowKit (Below)
set_option maxRecDepth 100000
theorem qcv(dbg:Bool):∀(ls:List Str) (n:Int) (x:Rd) (N:Nat),RdSm N x->RdSm (N+ls.length) (YT dbg ls n x).1
 |[],_,x,N,h=>h
 |s::ls,n,x,N,h=>by
  have hl:=(lineE_small (s:=s) (line:=n) (dbg:=dbg)).1;have e:N+(s::ls).length=(N+1)+ls.length:=by rw[List.length_cons];omega
  have up:∀k {y:Rd},RdSm (N+1) y->RdSm (N+1+k) y:=fun k y hy=>by
   induction k with
   |zero=>exact hy
   |succ k ih=>exact ih.next
  rw[YT];cases hp:WR s n dbg with
  |mk r q=>
   obtain⟨cn,f⟩:=q;rw[hp]at hl;simp only;split
   ·rw[e];exact qcv dbg ls _ x (N+1) h.next
   ·split
    ·split
     ·rw[e];exact qcv dbg ls _ _ (N+1) (qcZ h (by have:r.text.length<=65:=hl;omega))
     ·rw[e];exact up _ (qcZ h (by have:r.text.length<=65:=hl;omega))
    ·rw[e];exact up _ h.next
theorem readE_smallT(text:Str)(dbg:Bool):(Ug text dbg).1.length<=1048577/\∀c∈(Ug text dbg).1,c.text.length<=83886160/\c.marks.length<=1048577:=by
 have h:=qcv dbg (XF (Yg text)) 1 .start 0 ⟨Nat.zero_le _,fun c hc=>by cases hc⟩;have h1:=qdc (Yg text);have h2:=qcm text;unfold Ug;split
 ·exact⟨Nat.zero_le _,fun c hc=>by cases hc⟩
 ·simp only
  split
  ·exact⟨Nat.zero_le _,fun c hc=>by cases hc⟩
  ·split
   ·exact⟨Nat.zero_le _,fun c hc=>by cases hc⟩
   ·exact⟨by have:=h.many;simp only;omega,fun c hc=>by have:=h.small c hc;omega⟩
theorem source_small(text:Str)(dbg:Bool):(sourceE text dbg).1.length<=65536/\∀t∈(sourceE text dbg).1,t.text.length<=83886162:=by
 obtain⟨z1,z2⟩:=readE_smallT text dbg;unfold sourceE;split
 ·exact⟨Nat.zero_le _,fun t ht=>by cases ht⟩
 ·refine⟨scanGo_many _ _ (Nat.zero_le _),scanGo_inv _ _ (fun c hc j l hv hj h32 he=>?_) _ (fun t ht=>by cases ht)⟩
  have:=(z2 c hc).1;have:=next_text c.text j l hj;show(Wm c.text j l).text.length<=_
  omega
theorem c_Source(w0:World)(hm:MaxL w0)(h:AHeap)(text:Str)(dbg:Bool)(hl:text.length<=9223372036854775807):ACall Tryz.prog w0 42 [.str text, .bool dbg] h (ScanR h (sourceE text dbg)):=by
 obtain⟨z1,z2⟩:=readE_smallT text dbg;refine qR (n:=22) (rs:=[.tmp 4, .cell 5 35]) Tryz.func42 rfl rfl rfl rfl (Nat.le_of_ble_eq_true rfl) ?_;simp only[Qc];refine awp_rseq [0,1,5] (by rfl) fun K hK=>?_;simp+decide only[ev,qJ,qG,putD,Slots.put,if_false,true_and,↓qd,qb,Nat.zero_add];refine Qi qaF (cs:=[.int .i64 0, .int .i64 0, .int .i64 0]) (by rfl) fun k0q1 hk0q1=>?_;try have hf_0q1:h k0q1=none:=by first|assumption|(simp only[AHeap.set_none]at hk0q1;simp only[hk0q1])
 simp+decide only[qa,putD,Slots.put,Slots.keep,if_true,if_false];apply hK;clear hK K;refine awp_rseq [5,6,7] (by rfl) fun K hK=>?_;simp+decide only[ev,putD,Slots.put,Slots.get,if_true,if_false,true_and,↓qj,qf];refine QI (by rfl) (by rfl) (c_Read w0 hm _ text dbg hl) fun x1q2 h1q2 hx1q2=>?_;obtain⟨cv,rfl,hc,hs1⟩:=hx1q2;have hlv:=hc.liveT;obtain⟨cs,hcs⟩:∃cs,cs=(Ug text dbg).1:=⟨_,rfl⟩
 obtain⟨f,hf⟩:∃f,f=(Ug text dbg).2:=⟨_,rfl⟩
 have hso:sourceE text dbg=if f≠okF then([],f)else qdg cs:=by rw[hf,hcs];rfl
 rw[<-hcs]at hc z1 z2;rw[<-hf];have hs_h1q2:Sub h h1q2:=Sub.trans (by repeat (first|exact Sub.refl _|assumption|refine Sub.trans_set ?_ (by assumption))) hs1;have hr_h1q2:=hs_h1q2;have eb_0q1:=hs1 k0q1 _ (by repeat (first|exact AHeap.set_same _ _ _|assumption|refine(AHeap.set_ne _ _ (by first|assumption|exact Ne.symm (by assumption))).trans ?_));simp+decide only[ev,putD,Slots.put,Slots.get,if_true,if_false,true_and,↓qj,qf,↓QJ,QA,QH,List.length_cons,List.length_nil,List.getD_cons_zero,List.getD_cons_succ,List.getD_cons_zero,List.getD_cons_succ,Nat.zero_add,Nat.reduceAdd,QS];refine Qi qaF (cs:=[.int .i64 0, .int .i64 0, .int .i64 0]) (by rfl) fun k1q6 hk1q6=>?_;have hn_1q6:h1q2 k1q6=none:=by first|assumption|(simp only[AHeap.set_none]at hk1q6;simp only[hk1q6])
 have hf_1q6:h k1q6=none:=Sub.none hs_h1q2 hn_1q6;have ne_1q6_0q1:k1q6≠k0q1:=AHeap.ne_some hn_1q6 eb_0q1;simp+decide only[ev,putD,Slots.put,Slots.get,if_true,if_false,true_and,↓qd,qb];refine qm (by rfl) (by rfl) (by repeat (first|exact AHeap.set_same _ _ _|assumption|refine(AHeap.set_ne _ _ (by first|assumption|exact Ne.symm (by assumption))).trans ?_)) QD (by rfl) (by rfl) (by first|exact Nat.le_refl _|decide|(simp;done)|(simp;omega)) (Nat.zero_le _) (by rfl) ?_;simp only[AHeap.set_set,AVal.cells];simp+decide only[qa,ev,putD,Slots.get,Slots.keep,if_true,if_false,setAt,List.set_cons_zero,List.set_cons_succ,Nat.zero_add,Nat.reduceAdd];apply hK;clear hK K;refine qO ?_;refine awp_rseq [5,6,7,16] (by rfl) fun K hK=>?_;simp+decide only[qa,ev,qJ,qG,putD,Slots.put,Slots.get,Slots.keep,if_true,if_false,true_and,↓qF,Qb,qg Xh QD,↓Qn,↓qV,ZI,evP,List.map_nil,↓qC,qo,qZ,cond_false,Yv,ne35,QV,qc,List.getD_cons_zero,List.getD_cons_succ,Nat.zero_add,Nat.reduceAdd,qh,allLive,Bool.and_true,WF];apply hK;clear hK K;refine qL (b:=_) rfl (fun hb1=>?_) (fun hb1=>?_)
 ·try simp only[decide_eq_false_iff_not,Bool.not_eq_true']at hb1
  rw[if_pos hb1]at hso;refine XU 2 [4,5] mixed (by kernel_rfl) (by rfl) (by rfl) fun K hK=>?_;simp+decide only[ev,qJ,qG,putD,Slots.put,Slots.get,if_true,if_false,true_and,↓qF,Qb,qg Xh QD,↓qd,qb,QV,qc,List.getD_cons_zero,List.getD_cons_succ,Nat.zero_add,Nat.reduceAdd,qh,allLive,Bool.and_true];refine qm (by rfl) (by rfl) (by repeat (first|exact AHeap.set_same _ _ _|assumption|refine(AHeap.set_ne _ _ (by first|assumption|exact Ne.symm (by assumption))).trans ?_)) QD (by rfl) (by rfl) (by first|exact Nat.le_refl _|decide|(simp;done)|(simp;omega)) (Nat.zero_le _) (by rfl) ?_;simp only[AVal.cells];simp+decide only[qa,ev,putD,Slots.get,Slots.keep,if_true,if_false,setAt,List.set_cons_zero,List.set_cons_succ,Nat.zero_add,Nat.reduceAdd];apply hK;clear hK K;refine qN ?_;try simp only[Qf]
  refine qU h (by repeat (first|exact Sub.refl _|assumption|refine Sub.set_both ?_ _ _|refine Sub.trans_set ?_ (by repeat (first|assumption|refine(AHeap.set_ne _ _ (by first|assumption|exact Ne.symm (by assumption))).trans ?_)))) (?_) ?_
  ·simp+decide only[Qw,qp,qi,Slots.get,if_true,if_false,and_true,qp,qi,qg Xh QD,qW,qc,List.getD_cons_zero,List.getD_cons_succ,Nat.zero_add,Nat.reduceAdd,qh,allLive,Bool.and_true,qc,List.getD_cons_zero,List.getD_cons_succ,Nat.zero_add,Nat.reduceAdd,qh,allLive,Bool.and_true]
  simp+decide only[Slots.get,if_true,if_false,Xa,qp,qi,qg Xh QD,qW,qc,List.getD_cons_zero,List.getD_cons_succ,Nat.zero_add,Nat.reduceAdd,qh,allLive,Bool.and_true,qc,List.getD_cons_zero,List.getD_cons_succ,Nat.zero_add,Nat.reduceAdd,qh,allLive,Bool.and_true];exact⟨none,by rw[hso];rfl,trivial,by rw[hso];rfl,rfl⟩
 ·try simp only[decide_eq_true_eq,Bool.not_eq_false']at hb1
  rw[if_neg (by simpa using hb1)]at hso;refine Qa ?_;change Awp _ _ _ _ _ _ _;refine awp_rseq [4,5] (by rfl) fun K hK=>?_;simp+decide only[ev,putD,Slots.put,Slots.get,if_true,if_false,true_and,↓qj,qf];refine QI (by rfl) (by rfl) (c_Scan w0 _ cv cs (hc.mono (by repeat (first|exact Sub.refl _|assumption|refine Sub.set_both ?_ _ _|refine Sub.trans_set ?_ (by repeat (first|assumption|refine(AHeap.set_ne _ _ (by first|assumption|exact Ne.symm (by assumption))).trans ?_))))) (by omega) (fun c hcm=>by have:=z2 c hcm;omega)) fun x4q1 h4q1 hx4q1=>?_;obtain⟨tb,rfl,o1,o2,rfl⟩:=hx4q1;have hat:=((by repeat (first|exact AHeap.set_same _ _ _|assumption|refine(AHeap.set_ne _ _ (by first|assumption|exact Ne.symm (by assumption))).trans ?_)):(h1q2.set k1q6 ⟨[.int .i64 f.e, .int .i64 f.line, .int .i64 f.col],0⟩) k0q1=some ⟨[.int .i64 0, .int .i64 0, .int .i64 0],0⟩)
  have hlb:=Xm 5 tb;simp+decide only[ev,putD,Slots.put,Slots.get,if_true,if_false,true_and,↓QJ,QA,QH,List.length_cons,List.length_nil,List.getD_cons_zero,List.getD_cons_succ,↓qd,qb,List.getD_cons_zero,List.getD_cons_succ,Nat.zero_add,Nat.reduceAdd,QS];refine qm (v:=QS (qdg cs).2) (by rfl) (by rfl) (ZN o1 hat) QD (by rfl) (by rfl) (by simp[]) (Nat.zero_le _) (by rfl) ?_;simp only[setAt,AVal.cells,QS,List.set_cons_zero,List.set_cons_succ,Nat.zero_add,Nat.reduceAdd];rw[YS o1 hat];have r0:=fun o=>Qp w0 (ZN (ZH o1 hat ⟨[.int .i64 (qdg cs).2.e, .int .i64 (qdg cs).2.line, .int .i64 (qdg cs).2.col],0⟩) (AHeap.set_same _ _ _)) o;simp+decide only[qa,putD,Slots.keep,if_true,if_false];apply hK;clear hK K;refine qN ?_;refine QN (?_) ?_
  ·simp+decide only[Qw,qp,qi,Slots.get,if_true,if_false,and_true,qp,qi,qg Xh QD,qc,List.getD_cons_zero,List.getD_cons_succ,Nat.zero_add,Nat.reduceAdd,qh,allLive,Bool.and_true,qc,List.getD_cons_zero,List.getD_cons_succ,Nat.zero_add,Nat.reduceAdd,qh,allLive,Bool.and_true,r0]
  simp+decide only[Slots.get,if_true,if_false,Xa,qp,qi,qg Xh QD,qc,List.getD_cons_zero,List.getD_cons_succ,Nat.zero_add,Nat.reduceAdd,qh,allLive,Bool.and_true,qc,List.getD_cons_zero,List.getD_cons_succ,Nat.zero_add,Nat.reduceAdd,qh,allLive,Bool.and_true,r0];refine⟨QY h tb,?_,tb,by rw[hso];rfl,o1.sub (by repeat (first|exact Sub.refl _|assumption|refine Sub.set_both ?_ _ _|refine Sub.trans_set ?_ (by repeat (first|assumption|refine(AHeap.set_ne _ _ (by first|assumption|exact Ne.symm (by assumption))).trans ?_)))),by rw[hso];exact o2,rfl⟩;exact Sub.bufBoth (by repeat (first|exact Sub.refl _|assumption|refine Sub.set_both ?_ _ _|refine Sub.trans_set ?_ (by repeat (first|assumption|refine(AHeap.set_ne _ _ (by first|assumption|exact Ne.symm (by assumption))).trans ?_))))
end Go.Proofs.YtlhhaagmakhilaaGreatDoor
namespace Go.Proofs.YtlhhaagmakhilaaGreatDoor
open Go.AM
open Go.Proofs
open Go.Col
open Go.Tok
open Go.RowKit (Below)
set_option maxRecDepth 100000
theorem qcn{w0:World}{h:AHeap}{lc:AM.Loc}{o:Nat}{c:Cap}{l:List TokC}(ht:IsL w0 h 5 (.slice lc o l.length c) (l.map Xv)){i:Nat}(hi:i<l.length):
 rd w0 h lc (o+i*5)= .int .u8 (l.getD i UL).kind.toNat/\rd w0 h lc (o+i*5+1)= .str (l.getD i UL).text/\rd w0 h lc (o+i*5+2)= .int .i64 (l.getD i UL).line/\rd w0 h lc (o+i*5+3)= .int .i64 (l.getD i UL).col/\rd w0 h lc (o+i*5+4)= .bool (l.getD i UL).left:=by
 have he:=ht.elem (i:=i) (by rw[List.length_map];exact hi);rw[getD_map UL hi]at he;simp only[qc,Xv,List.cons.injEq,and_true]at he;exact he
theorem qan{w0:World}{h:AHeap}{v:AVal}{l:List TokC}(ht:IsL w0 h 5 v (l.map Xv))(hn:0<l.length):∃lc o c,v= .slice lc o l.length c:=by
 obtain⟨lc,o,c,e⟩:=ht.open (fun e=>by rw[List.map_eq_nil_iff]at e;subst e;simp at hn);rw[List.length_map]at e;exact⟨lc,o,c,e⟩
theorem Za{w0:World}{h:AHeap}{v:AVal}{l:List TokC}(ht:IsL w0 h 5 v (l.map Xv)):∀H:AHeap,ZE Tryz.prog H 26 v=⟨True, .int .i64 l.length⟩:=by
 intro H;have:=ht.len Tryz.underlying26 H
 rwa [List.length_map]at this
end Go.Proofs.YtlhhaagmakhilaaGreatDoor
namespace Go.Proofs.YtlhhaagmakhilaaGreatDoor
open Go.AM
open Go.Proofs
open Go.Col
open Go.Tok
open Go.RowKit (Below)
set_option maxRecDepth 100000
def sameT(a b:TokC):Bool:=decide (a.kind=b.kind) && decide (a.text=b.text)
def qbb:List TokC->List TokC->Bool
 |[],[]=>true
 |a::l,b::m=>sameT a b && qbb l m
 |_,_=>false
theorem sameE_len:∀{l m:List TokC},l.length≠m.length->qbb l m=false
 |[],[],h=>absurd rfl h
 |[],_::_,_=>rfl
 |_::_,[],_=>rfl
 |a::l,b::m,h=>by
  rw[qbb,sameE_len (l:=l) (m:=m) (fun e=>h (by simp[e])),Bool.and_false]
theorem sameE_step{l m:List TokC}{i:Nat}(h1:i<l.length)(h2:i<m.length):qbb (l.drop i) (m.drop i)=(sameT (l.getD i UL) (m.getD i UL) && qbb (l.drop (i+1)) (m.drop (i+1))):=by
 rw[List.drop_eq_getElem_cons h1,List.drop_eq_getElem_cons h2,qbb];simp[List.getD,h1,h2]
theorem c_same1(w0:World)(h:AHeap)(a b:TokC):ACall Tryz.prog w0 41 [.agg (Xv a), .agg (Xv b)] h (fun v h'=>v= .bool (sameT a b)/\h'=h):=by
 unfold Xv;have ek:decide ((a.kind.toNat:Int)=b.kind.toNat)=decide (a.kind=b.kind):=decide_eq_decide.2 ⟨fun q=>UInt8.toNat_inj.1 (by omega),fun q=>by rw[q]⟩;refine qR (n:=17) (rs:=[.tmp 4]) Tryz.func41 rfl rfl rfl rfl (Nat.le_of_ble_eq_true rfl) ?_;simp only[Qc];refine awp_rseq [2,3] (by rfl) fun K hK=>?_;refine Wj (by rfl) (by rfl) (by rfl) fun k0q0 hk0q0=>?_;try have hf_0q0:h k0q0=none:=by first|assumption|(simp only[AHeap.set_none]at hk0q0;simp only[hk0q0])
 skip;refine Wj (by rfl) (by rfl) (by rfl) fun k0q1 hk0q1=>?_;have ne_0q1_0q0:k0q1≠k0q0:=by simp only[AHeap.set_none]at hk0q1;simp only[hk0q1,ne_eq,not_false_eq_true]
 try have hf_0q1:h k0q1=none:=by first|assumption|(simp only[AHeap.set_none]at hk0q1;simp only[hk0q1])
 skip;simp+decide only[qa,ev,qJ,qG,putD,Slots.put,Slots.get,Slots.keep,if_true,if_false,true_and,↓qd,qb,AVal.cells,Nat.zero_add];apply hK;clear hK K;refine awp_rseq [4] (by rfl) fun K hK=>?_;simp+decide only[qa,ev,qJ,qG,putD,Slots.put,Slots.get,Slots.keep,if_true,if_false,true_and,↓qA,ql,fa54_0,↓qF,Qb,qy ag52,↓qC,qo,qZ,cond_false,qz,XD,↓qj,qf,↓Xn,agP,Qu,qI,qH,qw,implies_true,qae,↓Zb,XI,Wy,agL_ld1,qy ag9,↓Xd,Zf,qbG,Zg,qbH,Zp,pS_eql,↓QP,Qt,Qg,Xj,Xk,↓qd,qb,QU,ne_eq,not_false_eq_true,ne_0q1_0q0.symm,QV,List.getD_cons_zero,List.getD_cons_succ,Nat.zero_add,qh,qE,ek];apply hK;clear hK K;refine qN ?_;refine qU h (by repeat (first|exact Sub.refl _|assumption|refine Sub.trans_set ?_ (by assumption))) (qY (Qe)) ?_;simp+decide only[Slots.get,if_true,and_true,Qv];rfl
theorem c_equalFunc(w0:World)(h:AHeap)(v w:AVal)(l m:List TokC)(hv:IsL w0 h 5 v (l.map Xv))(hw:IsL w0 h 5 w (m.map Xv))(hl:l.length<=1099511627776):
 ACall Tryz.prog w0 40 [v,w, .func 41 []] h (fun r h'=>r= .bool (qbb l m)/\h'=h):=by
 have hlv:=hv.live;have hlw:=hw.live;have nv:=Za hv;have nw:=Za hw;refine qR (n:=32) (rs:=[.tmp 6]) Tryz.func40 rfl rfl rfl rfl (Nat.le_of_ble_eq_true rfl) ?_;simp only[Qc];refine awp_rseq [0,1,2] (by rfl) fun K hK=>?_;simp+decide only[qa,ev,qJ,qG,putD,Slots.put,Slots.keep,if_true,if_false,true_and,↓qd,qb,Nat.zero_add,Nat.reduceAdd];apply hK;clear hK K;refine qO ?_;refine awp_rseq [0,1,2,14] (by rfl) fun K hK=>?_;simp+decide only[qa,ev,putD,Slots.put,Slots.get,Slots.keep,if_true,if_false,true_and,↓qj,qf,↓XA,QK,↓qC,qo,qZ,cond_false,qz,qbh,nv,nw];apply hK;clear hK K;refine qL (b:=_) rfl (fun hb1=>?_) (fun hb1=>?_)
 ·try simp only[decide_eq_false_iff_not,Bool.not_eq_true']at hb1
  refine awp_rseq [6] (by rfl) fun K hK=>?_;simp+decide only[qa,ev,qJ,qG,putD,Slots.put,Slots.keep,if_true,if_false,true_and,↓qd,qb];apply hK;clear hK K;refine qN ?_;try simp only[Qf]
  refine qU h (by repeat (first|exact Sub.refl _|assumption|refine Sub.trans_set ?_ (by assumption))) (qY (Qe)) ?_;simp+decide only[Slots.get,if_true,and_true,Qv];rw[sameE_len (by omega)]
 ·try simp only[decide_eq_true_eq,Bool.not_eq_false']at hb1
  have hlen:l.length=m.length:=by omega
  refine Qa ?_;change Awp _ _ _ _ _ _ _;refine qO ?_;refine awp_rseq [1,2,15,16,17] (by rfl) fun K hK=>?_;simp+decide only[qa,ev,qJ,qG,putD,Slots.put,Slots.get,Slots.keep,if_true,if_false,true_and,↓qj,qf,↓XA,QK,nv];apply hK;clear hK K;refine QB ?_;refine XH [1,2,15,16,17] (fun i:Nat=>[(1,w),(2, .func 41 []),(15,v),(16, .int .i64 l.length),(17, .int .i64 i)]) (fun i:Nat=>h) (fun i:Nat=>i<=l.length/\qbb (l.drop i) (m.drop i)=qbb l m) (fun i:Nat=>l.length-i) 0 (by rfl) (Sub.refl _) ⟨Nat.zero_le _,rfl⟩ ?_;rintro i ⟨hi,hq⟩;refine awp_rseq [1,2,15,16,17,18] (by rfl) fun K hK=>?_;simp+decide only[qa,ev,putD,Slots.put,Slots.get,Slots.keep,if_true,if_false,true_and,↓qC,qo,qZ,cond_false,qz,Zd];apply hK;clear hK K;refine qO (qL (b:=_) rfl (fun hb2=>?_) (fun hb2=>?_))
  ·try simp only[decide_eq_true_eq]at hb2
   have hi':i<l.length:=by omega
   obtain⟨lc,o,c,rfl⟩:=qan hv (by omega);obtain⟨lc',o',c',rfl⟩:=qan hw (by omega);obtain⟨e0,e1,e2,e3,e4⟩:=qcn hv hi';obtain⟨a,ha⟩:∃a,a=l.getD i UL:=⟨_,rfl⟩
   obtain⟨b,hb⟩:∃b,b=m.getD i UL:=⟨_,rfl⟩
   have hst:=sameE_step (l:=l) (m:=m) hi' (by omega);rw[hq]at hst;rw[<-ha]at e0 e1 e2 e3 e4 hst;rw[<-hb]at hst;have e2':rd w0 h lc (o+i*5+1+1)= .int .i64 a.line:=e2;have e3':rd w0 h lc (o+i*5+1+1+1)= .int .i64 a.col:=e3;have e4':rd w0 h lc (o+i*5+1+1+1+1)= .bool a.left:=e4;refine Qa ?_;change Awp _ _ _ _ _ _ _;refine qO ?_;refine QB ?_;refine awp_rseq [1,2,7,8,15,16,17] (by rfl) fun K hK=>?_;simp+decide only[ev,putD,Slots.put,Slots.get,if_true,if_false,true_and,↓qj,qf,↓Xi,Qb,Qs Tryz.underlying26 Xg,↓qF,qg Zz Xg,qc,qB,qh,qE,allLive,Bool.and_true,e0,e1,e2',e3',e4',Int.toNat_natCast];repeat (with_reducible refine And.intro ?_ ?_;· first|trivial|omega|(intro hg;simp only[Bool.and_eq_true,Bool.or_eq_true,Bool.not_eq_true',Bool.and_eq_false_iff,Bool.or_eq_false_iff,Bool.not_eq_false',decide_eq_true_eq,decide_eq_false_iff_not,Zt]at hg;omega))
   refine Qi qby (cs:=[.int .u8 0, .str [], .int .i64 0, .int .i64 0, .bool false]) (by rfl) fun k5q3 hk5q3=>?_;try have hf_5q3:h k5q3=none:=by first|assumption|(simp only[AHeap.set_none]at hk5q3;simp only[hk5q3])
   simp+decide only[ev,putD,Slots.put,Slots.get,if_true,if_false,true_and,↓qd,qb];refine qm (by rfl) (by rfl) (by repeat (first|exact AHeap.set_same _ _ _|assumption|refine(AHeap.set_ne _ _ (by first|assumption|exact Ne.symm (by assumption))).trans ?_)) Xg (by rfl) (by rfl) (by first|exact Nat.le_refl _|decide|(simp;done)|(simp;omega)) (Nat.zero_le _) (by rfl) ?_;simp only[AHeap.set_set,AVal.cells];simp+decide only[qa,ev,putD,Slots.get,Slots.keep,if_true,if_false,setAt,List.set_cons_zero,List.set_cons_succ,Nat.zero_add,Nat.reduceAdd];apply hK;clear hK K;obtain⟨H,hH⟩:∃H,H=h.set k5q3 ⟨[.int .u8 a.kind.toNat, .str a.text, .int .i64 a.line, .int .i64 a.col, .bool a.left],0⟩:=⟨_,rfl⟩
   have hsH:Sub h H:=by rw[hH];exact Sub.set hk5q3
   obtain⟨d0,d1,d2,d3,d4⟩:=qcn (hw.mono hsH) (i:=i) (by omega);rw[<-hb]at d0 d1 d2 d3 d4;have d2':rd w0 H lc' (o'+i*5+1+1)= .int .i64 b.line:=d2;have d3':rd w0 H lc' (o'+i*5+1+1+1)= .int .i64 b.col:=d3;have d4':rd w0 H lc' (o'+i*5+1+1+1+1)= .bool b.left:=d4;rw[hH]at d0 d1 d2' d3' d4';refine awp_rseq [1,2,8,9,15,16,17] (by rfl) fun K hK=>?_;simp+decide only[ev,putD,Slots.put,Slots.get,if_true,if_false,true_and,↓qj,qf,↓Xi,Qb,Qs Tryz.underlying26 Xg,↓qF,qg Zz Xg,qc,qB,qh,qE,allLive,Bool.and_true,d0,d1,d2',d3',d4',Int.toNat_natCast];repeat (with_reducible refine And.intro ?_ ?_;· first|trivial|omega|(intro hg;simp only[Bool.and_eq_true,Bool.or_eq_true,Bool.not_eq_true',Bool.and_eq_false_iff,Bool.or_eq_false_iff,Bool.not_eq_false',decide_eq_true_eq,decide_eq_false_iff_not,Zt]at hg;omega))
   refine Qi qby (cs:=[.int .u8 0, .str [], .int .i64 0, .int .i64 0, .bool false]) (by rfl) fun k6q4 hk6q4=>?_;have ne_6q4_5q3:k6q4≠k5q3:=by simp only[AHeap.set_none]at hk6q4;simp only[hk6q4,ne_eq,not_false_eq_true]
   try have hf_6q4:h k6q4=none:=by first|assumption|(simp only[AHeap.set_none]at hk6q4;simp only[hk6q4])
   refine qm (by rfl) (by rfl) (by repeat (first|exact AHeap.set_same _ _ _|assumption|refine(AHeap.set_ne _ _ (by first|assumption|exact Ne.symm (by assumption))).trans ?_)) Xg (by rfl) (by rfl) (by first|exact Nat.le_refl _|decide|(simp;done)|(simp;omega)) (Nat.zero_le _) (by rfl) ?_;simp only[AHeap.set_set,AVal.cells];simp+decide only[qa,ev,putD,Slots.put,Slots.get,Slots.keep,if_true,if_false,setAt,List.set_cons_zero,List.set_cons_succ,Nat.zero_add,Nat.reduceAdd];apply hK;clear hK K;refine awp_rseq [1,2,15,16,17,30] (by rfl) fun K hK=>?_;simp+decide only[ev,putD,Slots.put,Slots.get,if_true,if_false,true_and,↓qj,qf,↓qF,Qb,qg Zz Xg,QU,ne_eq,not_false_eq_true,ne_6q4_5q3.symm,QV,qc,List.getD_cons_zero,List.getD_cons_succ,Nat.zero_add,Nat.reduceAdd,qB,qh,qE,allLive,Bool.and_true];refine qM (V:= .bool (sameT a b)) (by rfl) (by rfl) (c_same1 w0 _ a b) ?_;simp+decide only[qa,ev,putD,Slots.put,Slots.get,Slots.keep,if_true,if_false,true_and,↓Yi,XE,ZY];apply hK;clear hK K;refine qL (b:=_) rfl (fun hb3=>?_) (fun hb3=>?_)
   ·try simp only[Bool.not_eq_true']at hb3
    refine awp_rseq [6] (by rfl) fun K hK=>?_;simp+decide only[qa,ev,qJ,qG,putD,Slots.put,Slots.keep,if_true,if_false,true_and,↓qd,qb];apply hK;clear hK K;refine qN ?_;try simp only[Qf,Qr]
    refine qU h (by repeat (first|exact Sub.refl _|assumption|refine Sub.trans_set ?_ (by assumption))) (qY (Qe)) ?_;simp+decide only[Slots.get,if_true,and_true,Qv];rw[hst,hb3,Bool.false_and]
   ·try simp only[Bool.not_eq_false']at hb3
    refine Qa ?_;change Awp _ _ _ _ _ _ _;refine XK [1,2,15,16,17] (by rfl) ?_;simp+decide only[qa,ev,qJ,qG,putD,Slots.put,Slots.get,Slots.keep,if_true,if_false,true_and,↓qC,qo,qD,cond_false,qz,Xf,↓qj,qf];try simp(disch:=omega)only[wrap_i64]
    try simp only[Ql]
    exact⟨i+1,rfl,(by repeat (first|exact Sub.refl _|assumption|refine Sub.set_both ?_ _ _|refine Sub.trans_set ?_ (by repeat (first|assumption|refine(AHeap.set_ne _ _ (by first|assumption|exact Ne.symm (by assumption))).trans ?_)))),⟨hi',by rw[hst,hb3,Bool.true_and]⟩,by omega⟩
  ·try simp only[decide_eq_false_iff_not]at hb2
   refine XL ?_;change Awp _ _ _ _ _ _ _;refine awp_rseq [6] (by rfl) fun K hK=>?_;simp+decide only[qa,ev,qJ,qG,putD,Slots.put,Slots.keep,if_true,if_false,true_and,↓qd,qb];apply hK;clear hK K;refine qN ?_;refine qU h (by repeat (first|exact Sub.refl _|assumption|refine Sub.trans_set ?_ (by assumption))) (qY (Qe)) ?_;simp+decide only[Slots.get,if_true,and_true,Qv];rw[<-hq,List.drop_eq_nil_of_le (by omega),List.drop_eq_nil_of_le (by omega)];rfl
theorem c_Same(w0:World)(h:AHeap)(v w:AVal)(l m:List TokC)(hv:IsL w0 h 5 v (l.map Xv))(hw:IsL w0 h 5 w (m.map Xv))(hl:l.length<=1099511627776):
 ACall Tryz.prog w0 18 [v,w] h (fun r h'=>r= .bool (qbb l m)/\h'=h):=by
 have hlv:=hv.live;have hlw:=hw.live;refine qR (n:=8) (rs:=[.tmp 4]) Tryz.func18 rfl rfl rfl rfl (Nat.le_of_ble_eq_true rfl) ?_;simp only[Qc];refine awp_rseq [0,1] (by rfl) fun K hK=>?_;simp+decide only[qa,ev,qJ,qG,putD,Slots.put,Slots.keep,if_true,if_false,true_and,↓qd,qb];apply hK;clear hK K;refine awp_rseq [4] (by rfl) fun K hK=>?_;simp+decide only[ev,putD,Slots.put,Slots.get,if_true,if_false,true_and,↓qj,qf];refine qM (V:= .bool (qbb l m)) (by rfl) (by rfl) (c_equalFunc w0 _ v w l m hv hw hl) ?_;simp+decide only[qa,ev,putD,Slots.put,Slots.get,Slots.keep,if_true,if_false,true_and,↓qd,qb];apply hK;clear hK K;refine qN ?_;refine qU _ (Sub.refl _) (qY (Qe)) ?_;simp+decide only[Slots.get,if_true,and_true,Qv];all_goals first|rfl|exact⟨rfl,rfl⟩|(simp+decide only[if_true,if_false, *];done)|(trace_state;fail)
end Go.Proofs.YtlhhaagmakhilaaGreatDoor
namespace Go.AM
open Go.RowKit (Below)
theorem Xz(b:Bool):(AVal.bool b).scal=true:=rfl
theorem XG(k:IntKind)(n:Int):(AVal.int k n).scal=true:=rfl
theorem XN(s:List UInt8):(AVal.str s).scal=true:=rfl
theorem sc_map(k:Nat):(AVal.map k).scal=true:=rfl
section
variable {P:Program}
theorem pu_lookup(t:TypeId)(x i:Operand)(ok:Bool):XO P (.lookup t x i ok)=true:=rfl
end
section
variable {P:Program} {w0:World} {ops rest:List Oper} {s:Slots} {h:AHeap} {K:Slots->AHeap->Prop} {dst:Option Tmp} {ty:TypeId} {pos:String} {af:Array Edge}
theorem ap_lookup(t:TypeId)(x i:Operand)(ok:Bool):
 QM P w0 ops (⟨dst, .lookup t x i ok,ty,pos,af,none⟩::rest) s h K=((pop P w0 h s (.lookup t x i ok)).pre/\QM P w0 ops rest (putD s dst (pop P w0 h s (.lookup t x i ok)).val) h K):=Wz (pu_lookup t x i ok)
theorem aOps_makeMap{t:TypeId}(hk:∀k,h k=none->QM P w0 ops rest (putD s dst (.map k)) (h.set k (Xt 0 [])) K):QM P w0 ops (⟨dst, .makeMap t none,ty,pos,af,none⟩::rest) s h K:=by
 rw[qaC];exact hk
theorem aOps_putNew{t kt et:TypeId}{m i v:Operand}{k c:Nat}{es:List AVal}(ht:P.underlying t=some (.map kt et))(hm:ev s m= .map k)(hb:h k=some (Xt c es))(hok:UT P kt (ev s i)=true)(hf:UR (ev s i) es 0=some none)
 (hk:QM P w0 ops rest (putD s dst (.tuple [])) (h.set k (Xt (c+1) (es++[.mapE c (ev s i) (ev s v)]))) K):QM P w0 ops (⟨dst, .mapUpdate t m i v,ty,pos,af,none⟩::rest) s h K:=by
 rw[qaC];simp only[eop,qbE,ht,hm,WP hb,hf];exact⟨hok,hk⟩
end
section
variable {P:Program} {h:AHeap}
theorem pLookup_in{t kt et:TypeId}{z:Value}{k c j:Nat}{es:List AVal}{i v:AVal}{ok:Bool}(ht:P.underlying t=some (.map kt et))(hz:WG P et=some z)(hb:h k=some (Xt c es))(hok:UT P kt i=true)(hf:UR i es 0=some (some (j,v))):
 UC P h t (.map k) i ok=⟨True,lookR ok v true⟩:=by
 simp only[UC,ht,hz,WP hb,hf,hok]
theorem pLookup_out{t kt et:TypeId}{z:Value}{k c:Nat}{es:List AVal}{i:AVal}{ok:Bool}(ht:P.underlying t=some (.map kt et))(hz:WG P et=some z)(hb:h k=some (Xt c es))(hok:UT P kt i=true)(hf:UR i es 0=some none):
 UC P h t (.map k) i ok=⟨True,lookR ok (qJ z) false⟩:=by
 simp only[UC,ht,hz,WP hb,hf,hok]
theorem lookR_false(v:AVal)(b:Bool):lookR false v b=v:=rfl
end
end Go.AM
namespace Go.AM
open Go.RowKit (Below)
theorem step_put{P:Program}{fr:Frame}{cs:List Frame}{w w':World}{d:Deferred}{ds:List Deferred}{b:Builtin}{ts:Array TypeId}{t:TypeId}{ks:Array Bool}{v:Value}(hm:fr.mode≠ .run)(hd:fr.defers=d::ds)(ht:d.target= .builtin b ts t ks)
 (hi:(invoke d.target d.args).run P w= .ok (.value v) w'):step P (lone fr cs w)= .next (lone {fr with defers:=ds} cs w'):=by
 obtain⟨tg,a⟩:=d;simp only at ht hi;subst ht;refine step_lone_go ?_;cases hmode:fr.mode with
 |run=>exact absurd hmode hm
 |returning=>simp[stepG,unwind,callDeferred,hmode,hd,hi]
 |panicking chain=>simp[stepG,unwind,callDeferred,hmode,hd,hi]
def RunsB(P:Program):List Deferred->World->World->Prop
 |[],w,w'=>w'=w
 |d::ds,w,w'=>∃b ts t ks v w1,d.target= .builtin b ts t ks/\(invoke d.target d.args).run P w= .ok (.value v) w1/\RunsB P ds w1 w'
theorem qdh{P:Program}:∀(ds:List Deferred) (w w':World) (fr:Frame) (cs:List Frame),fr.mode≠ .run->fr.defers=ds->RunsB P ds w w'->Steps P (lone fr cs w) (lone {fr with defers:=[]} cs w')
 |[],w,w',fr,cs,_,hd,h=>by
  simp only[RunsB]at h;subst h;have e:({fr with defers:=[]}:Frame)=fr:=by cases fr;simp_all
  rw[e];exact Steps.refl P _
 |d::ds,w,w',fr,cs,hm,hd,h=>by
  obtain⟨b,ts,t,ks,v,w1,ht,hi,hr⟩:=h;exact .head (step_put (cs:=cs) hm hd ht hi) (qdh ds w1 w' {fr with defers:=ds} cs hm rfl hr)
def bodyPostB(P:Program)(fn:Func)(R:Ending->World->Prop):Exit->Act->World->Prop
 | .normal,a,w| .ret,a,w=>∃w',RunsB P a.defers w w'/\∃v,(results fn a.tmps).run P w'= .ok v w'/\R (.returned v) w'
 | .outgrown,_,w=>R .outgrown w
 |_,_,_=>False
theorem calls_of_wp_put{P:Program}{f:FuncId}{fn:Func}{c:Code}{args:Array Value}{w:World}{R:Ending->World->Prop}
 (hf:P.funcs[f]?=some fn) (hb:fn.body=some c)
 (h:c.wp P (bodyPostB P fn R) {tmps:=args++Array.replicate (fn.ntmps-args.size) undef,defers:=[]} w):Calls P f args w R:=by
 intro cs;let b:Frame:={(default:Frame)with fn:=f,kind:= .normal}
 have henter:Frame.enter P f args .normal=
  b.at {tmps:=args++Array.replicate (fn.ntmps-args.size) undef,defers:=[]} [.code c]:=by
  simp[Frame.enter,Frame.at,hf,hb,b]
 obtain⟨e,a',w',hq,harr⟩:=h b [] cs;rw[<-henter]at harr;cases e with
 |normal=>
  obtain⟨w'',hr,v,h1,h2⟩:=hq;have hs:=qdh a'.defers w' w'' {b.at a' []with mode:= .returning} cs (by simp) rfl hr;exact⟨.returned v,w'',_,h2,Comes.of_steps (Steps.trans harr (.one step_end)) hs,rfl,rfl,rfl,rfl,fn,hf,h1⟩
 |ret=>
  obtain⟨w'',hr,v,h1,h2⟩:=hq;obtain⟨todo,hs₀⟩:=harr;have hs:=qdh a'.defers w' w'' {b.at a' todo with mode:= .returning} cs (by simp) rfl hr;exact⟨.returned v,w'',_,h2,Comes.of_steps hs₀ hs,rfl,rfl,rfl,rfl,fn,hf,h1⟩
 |panic chain=>exact hq.elim
 |exit id=>exact hq.elim
 |goto l=>exact hq.elim
 |outgrown=>exact⟨.outgrown,w',b,hq,harr.resolve_left (by simp[b]),rfl,trivial⟩
def GD(P:Program)(w0:World)(fn:Func)(R:AVal->AHeap->Prop):Exit->PMap->Act->World->Prop:=fun e Ps a w=>
 e= .ret/\∃w',RunsB P a.defers w w'/\∃v,(results fn a.tmps).run P w'= .ok v w'/\∃χ x h',Ps.le χ/\HRel w0 χ h' w'/\VR χ x v/\R x h'
def retD(P:Program)(w0:World)(rs:List ResultVar)(R:AVal->AHeap->Prop)(ts:Array TypeId)(m i:AVal):Exit->Slots->AHeap->Prop
 | .ret,s,h=>qbF P h ts m i (fun _ h'=>retA P w0 rs R .ret s h')
 |_,_,_=>False
theorem acall_put{P:Program}{w0:World}{f:FuncId}{args:List AVal}{h:AHeap}{R:AVal->AHeap->Prop}{fn:Func}{c:Code}{rs:List ResultVar}{k:Nat}(hf:P.funcs[f]?=some fn)
 (hname:(fn.name== "runtime.NumGoroutine")=false) (hb:fn.body=some c) (hn:fn.ntmps=k) (hrs:fn.results=rs.toArray) (hargs:args.length<=k)
 (hc:Awp P w0 ⟨k,[],GD P w0 fn R⟩ c (retA P w0 rs R) (Qc 0 args) h):ACall P w0 f args h R:=by
 intro fi vals w hr hv;refine .inl ⟨fn,hf,hname,by rw[hb];rfl,?_⟩;have hl:=XC hv;refine calls_of_wp_put hf hb (wp_mono (hc fi _ w hr ⟨?_,rfl,fun i=>?_⟩) fun e a' w' q=>?_)
 ·simp[hn]
  omega
 ·have:=(qbR fi args vals 0 i hv).2 undef (Nat.zero_le i)
  by_cases hi:i<vals.length
  ·have e:(vals.toArray++Array.replicate (fn.ntmps-vals.toArray.size) undef).getD i undef=vals.getD i undef:=by
    simp[Array.getD_eq_getD_getElem?,Array.getElem?_append,hi,List.getD]
   rw[e];simpa using this
  ·have e:(vals.toArray++Array.replicate (fn.ntmps-vals.toArray.size) undef).getD i undef=undef:=by
    simp[Array.getD_eq_getD_getElem?,Array.getElem?_append,hi,Array.getElem?_replicate];split<;>simp
   rw[e];have e2:vals.getD (i-0) undef=undef:=by simp[List.getD,List.getElem?_eq_none (Nat.le_of_not_lt hi)]
   rw[e2]at this;exact this
 ·rcases q with q|⟨_,Ps,hl1,q⟩
  ·obtain⟨Ps,s',h',e1,e2,e3,e4⟩:=q
   cases e<;>simp only[retA]at e4<;>first
    |exact e4.elim
    |skip
   all_goals
    obtain⟨hp,h'',hsub,hR⟩:=e4;have hrs':rs=fn.results.toList:=by rw[hrs]
    rw[hrs']at hp hR;obtain⟨v,f1,f2⟩:=results_ok e2 e3 fn hp;exact⟨w',by rw[e3.defers];rfl,v,f1,v,rfl,Ps,_,h'',e1,e2.forget hsub,f2,hR⟩
  ·obtain⟨rfl,w1,g1,v,g2,χ,x,h',g3,g4,g5,g6⟩:=q
   exact⟨w1,g1,v,g2,v,rfl,χ,x,h',PMap.le_trans hl1 g3,g4,g5,g6⟩
theorem retD_del{P:Program}{w0:World}{rs:List ResultVar}{R:AVal->AHeap->Prop}{ts:Array TypeId}{t kt et:TypeId}{k c j:Nat}{vi x:AVal}{es:List AVal}{s:Slots}{h:AHeap}(h0:ts[0]?=some t)(ht:P.underlying t=some (.map kt et))(hb:h k=some (Xt c es))(hok:UT P kt vi=true)
 (hf:UR vi es 0=some (some (j,x))) (hk:retA P w0 rs R .ret s (h.set k (Xt c (es.eraseIdx j)))):retD P w0 rs R ts (.map k) vi .ret s h:=by
 simp only[retD,qbF,h0,ht,WP hb,hf];exact⟨hok,hk⟩
end Go.AM
namespace Go.AM
open Go.RowKit (Below)
section
variable {P:Program} {w0:World} {n:FrameK}
end
end Go.AM
namespace Go.AM
section
variable {P:Program} {w0:World} {ops rest:List Oper} {s:Slots} {h:AHeap} {K:Slots->AHeap->Prop} {dst:Option Tmp} {ty:TypeId} {pos:String} {af:Array Edge}
theorem vOps_gno{fo:Operand}{args:List Operand}{ts:Array TypeId}{j:Nat}{want:Bool}(hg:gv s ops j= .bool (!want))(hr:ZV P w0 ops rest (putD s dst (.tuple [])) h K):
 ZV P w0 ops (⟨dst, .call ⟨.value fo,args.toArray,ts⟩,ty,pos,af,some (j,want)⟩::rest) s h K:=by
 refine qcl (V:= .dead) (f:=0) (cap:=[]) (xs:=[]) (by rw[hg];rfl) (fun e=>?_) (fun e=>?_) ?_
 ·rw[hg]at e;cases want<;>cases e
 ·rw[hg]at e;cases want<;>cases e
 ·rw[hg];cases want<;>exact hr
theorem fOps_gno{hZ:AHeap}{fo:Operand}{args:List Operand}{ts:Array TypeId}{j:Nat}{want:Bool}(hg:gv s ops j= .bool (!want))(hr:ZF P w0 ops hZ rest (putD s dst (.tuple [])) h K):
 ZF P w0 ops hZ (⟨dst, .call ⟨.value fo,args.toArray,ts⟩,ty,pos,af,some (j,want)⟩::rest) s h K:=by
 refine fOps_gcall (V:= .bool true) (f:=0) (cap:=[]) (xs:=[]) (by rw[hg];rfl) (fun e=>?_) trivial (fun e=>?_) ?_
 ·rw[hg]at e;cases want<;>cases e
 ·rw[hg]at e;cases want<;>cases e
 ·rw[hg];cases want<;>exact hr
theorem aOps_gbuild{t:TypeId}{n:Nat}{ps:List (Nat×Operand)}{cs:List AVal}{j:Nat}{want:Bool}{g:AVal}(hg:gv s ops j=g)(hkn:YR g=true)(hb:QW g want=true->qar P t n (evP s ps)=some cs)
 (hk:∀k H,Sub h H->(QW g want=true->H k=some ⟨cs,0⟩)->QM P w0 ops rest (putD s dst (Qo (QW g want) (.slice (.own k) 0 n (.exact n)))) H K):
 QM P w0 ops (⟨dst, .buildSlice t n ps.toArray,ty,pos,af,some (j,want)⟩::rest) s h K:=by
 subst hg;have h0:qI ops j=none->False:=fun hj=>by unfold gv at hkn;rw[hj]at hkn;cases hkn
 cases hj:qI ops j with
 |none=>exact(h0 hj).elim
 |some d=>
  have e:gv s ops j=s.get d:=by unfold gv;rw[hj]
  rw[e]at hkn hb hk;refine aOps_ge hj rfl hkn (fun q=>?_) (fun q=>?_)
  ·refine QC (hb q) fun k hk'=>?_
   have:=hk k (h.set k ⟨cs,0⟩) (Sub.set hk') (fun _=>AHeap.set_same _ _ _);rw[q,Qo]at this;exact this
  ·have:=hk 0 h (Sub.refl _) (fun z=>by rw[q]at z;cases z)
   rw[q,Qo]at this;exact this
end
theorem awp_put_deleteD{P:Program}{w0:World}{k id:Nat}{l pre:List Oper}{m i:Operand}{ts:Array TypeId}{ty:TypeId}{pos:String}{af:Array Edge}{rest:Code}{s:Slots}{h:AHeap}{fn:Func}{rs:List ResultVar}{R:AVal->AHeap->Prop}{Q:Exit->Slots->AHeap->Prop}{vm vi:AVal}(L:List Nat)
 (hl:l=pre++[⟨none, .defer ⟨.builtin .delete,[m,i].toArray,ts⟩,ty,pos,af,none⟩]) (hd:Xl k l=true) (hrs:fn.results=rs.toArray) (hmx:P.follows .mixedOrders=true) (hB:Region.lexTailB .any l.toArray pre.length=true) (hp:(pre.all fun o=>XO P o.op)=true)
 (hc:∀K:Slots->AHeap->Prop,(∀s h,(∀d,Awp P w0 ⟨k,[d],fun _ _ _ _=>False⟩ rest (retD P w0 rs R ts vm vi) s h)->K s h)->QM P w0 l pre s h (fun s' h'=>ev s' m=vm/\ev s' i=vi/\K (s'.keep L) h')):
 Awp P w0 ⟨k,[],GD P w0 fn R⟩ (.seq (.region id l.toArray true) rest) Q s h:=by
 have hdp:Xl k pre=true:=by
  have:∀(p q:List Oper),Xl k (p++q)=true->Xl k p=true:=by
   intro p q hp;induction p with
   |nil=>rfl
   |cons o p ih=>
    simp only[List.cons_append,Xl,Bool.and_eq_true]at hp|-
    exact⟨hp.1,ih hp.2⟩
  exact this pre _ (hl ▸ hd)
 have hc':=hc (fun s h=>∀d,Awp P w0 ⟨k,[d],fun _ _ _ _=>False⟩ rest (retD P w0 rs R ts vm vi) s h) (fun _ _ hk=>hk);have htake:l.take pre.length=pre:=by rw[hl];simp
 have hdrop:l.drop pre.length=[⟨none, .defer ⟨.builtin .delete,[m,i].toArray,ts⟩,ty,pos,af,none⟩]:=by rw[hl];simp
 intro fi a w hr hs;refine wp_seq (wp_region_still_tail (w:=w) pre.length hmx hB ?_);rw[htake,hdrop];refine still_ok (w:=w.drew) (n:=⟨k,[],GD P w0 fn R⟩) l hd hr.drew _ _ pre [] s a hp hdp (by simpa using hc') hs fun s' a' hs' hk=>?_;obtain⟨em,ei,hk⟩:=hk;simp only[wpList];rw[if_pos (by simp[Region.wanted])];have hvm:=hs'.ev m;have hvi:=hs'.ev i;rw[em]at hvm;rw[ei]at hvi;generalize hdd:({target:= .builtin .delete ts ty (([m,i].toArray).map fun| .const _=>true|_=>false),args:=([m,i].toArray).map a'.eval}:Deferred)=d;have hx:(execOp a'.eval ⟨none, .defer ⟨.builtin .delete,[m,i].toArray,ts⟩,ty,pos,af,none⟩).run P w.drew= .ok (.defer d) w.drew:=by
  subst hdd;simp[execOp,resolve];exact⟨by cases m<;>rfl,by cases i<;>rfl⟩
 refine .inl ?_;show Oper.wp P _ a' w.drew _ _
 simp only[Oper.wp,hx,Oper.upon_defer,Act.put,Exit.then];refine wp_mono (Awp.keep L (hk d) fi _ w.drew hr.drew ⟨hs'.size,by rw[hs'.defers],hs'.val⟩) fun e a'' w'' q=>?_;rcases q with⟨χ,s'',h'',e1,e2,e3,e4⟩|⟨_,χ,_,q⟩
 ·cases e<;>simp only[retD]at e4<;>first
   |exact e4.elim
   |skip
  obtain⟨w3,h3,f1,f2,f3⟩:=delete_ok (ty:=ty) e4 e2 (Ue e1 _ _ hvm) (Ue e1 _ _ hvi);obtain⟨hp,h4,hsub,hR⟩:=f3;have hrs':rs=fn.results.toList:=by rw[hrs]
  rw[hrs']at hp hR;obtain⟨v,g1,g2⟩:=results_ok f2 e3 fn hp;refine .inr ⟨trivial,χ,e1,rfl,w3,?_,v,g1,χ,_,h4,χ.le_refl,f2.forget hsub,g2,hR⟩;rw[e3.defers];subst hdd;exact⟨.delete,ts,ty,_,undef,w3,rfl,by simpa[invoke,builtin]using XT f1,rfl⟩
 ·exact q.elim
theorem awp_put_deleteE{P:Program}{w0:World}{k id:Nat}{l:List Oper}{m i:Operand}{ts:Array TypeId}{ty:TypeId}{pos:String}{af:Array Edge}{rest:Code}{s:Slots}{h:AHeap}{fn:Func}{rs:List ResultVar}{R:AVal->AHeap->Prop}{Q:Exit->Slots->AHeap->Prop}{vm vi:AVal}(L:List Nat)(m0:Nat)
 (hl:l.drop m0=[⟨none, .defer ⟨.builtin .delete,[m,i].toArray,ts⟩,ty,pos,af,none⟩]) (hd:Xl k l=true) (hrs:fn.results=rs.toArray) (hmx:P.follows .mixedOrders=true) (hB:Region.lexTailB .any l.toArray m0=true) (hp:((l.take m0).all fun o=>XO P o.op)=true)
 (hc:∀K:Slots->AHeap->Prop,(∀s h,(∀d,Awp P w0 ⟨k,[d],fun _ _ _ _=>False⟩ rest (retD P w0 rs R ts vm vi) s h)->K s h)->QM P w0 l (l.take m0) s h (fun s' h'=>ev s' m=vm/\ev s' i=vi/\K (s'.keep L) h')):
 Awp P w0 ⟨k,[],GD P w0 fn R⟩ (.seq (.region id l.toArray true) rest) Q s h:=by
 have hlen:(l.take m0).length=m0:=by
  have:=congrArg List.length hl;rw[List.length_drop,List.length_singleton]at this;rw[List.length_take];omega
 exact awp_put_deleteD L (pre:=l.take m0) (by rw[<-hl,List.take_append_drop]) hd hrs hmx (by rw[hlen];exact hB) hp hc
end Go.AM
namespace Go.Cop
open Go.Col (Str FaultC okF)
open Go.Tok
set_option maxRecDepth 100000
def noT:TokC:=⟨0,[],0,0,false⟩
def alike:List TokC->List TokC->Bool
 |[],[]=>true
 |a::l,b::m=>(decide (a.kind=b.kind) && decide (a.text=b.text)) && alike l m
 |_,_=>false
def COPY:Str:=[67,79,80,89]
def BY:Str:=[66,89]
def Uf:Str:=[82,69,80,76,65,67,73,78,71]
structure RepC where
 old:List TokC
 new:List TokC
structure MemC where
 name:Str
 toks:List TokC
def YU(l old:List TokC):Bool:=decide (old.length<=l.length) && alike old (l.take old.length)
def repGo(r:List RepC):Nat->List TokC->List TokC
 |0,_=>[]
 |_+1,[]=>[]
 |f+1,t::l=>match r.find? (fun x=>YU (t::l) x.old)with
  |none=>t::repGo r f l
  |some x=>x.new++repGo r f ((t::l).drop x.old.length)
def qbd(r:List RepC)(l:List TokC):List TokC:=repGo r l.length l
def UB(l:List TokC)(r:List RepC):List TokC×Int:=
 if r.any (fun x=>decide (x.old=[]))=true then([],1)
 else if 65536<(qbd r l).length then([],3)else(qbd r l,0)
def Xw(l:List TokC)(i:Nat)(ks:List UInt8):Bool:=decide (i<l.length) && ks.contains (l.getD i noT).kind
def Zl(l:List TokC)(i:Nat)(s:Str):Bool:=Xw l i [1] && decide ((l.getD i noT).text=s)
structure Opd where
 ok:Bool
 lo:Nat
 hi:Nat
 at_:Nat
def Xy(l:List TokC)(i:Nat):Nat:=i+((l.drop i).takeWhile (fun t=> !decide (t.kind=7))).length
def Qy(l:List TokC)(i:Nat)(empty:Bool):Opd:=
 if Xw l i [1,2,3]=true then⟨true,i,i+1,i+1⟩
 else if Xw l i [7]=false then⟨false,0,0,i⟩
 else if Xy l (i+1)=l.length\/(empty=false/\Xy l (i+1)=i+1)then⟨false,0,0,Xy l (i+1)⟩
 else⟨true,i+1,Xy l (i+1),Xy l (i+1)+1⟩
def Uw(l:List TokC)(i j:Nat):List TokC:=(l.drop i).take (j-i)
structure Pair where
 ok:Bool
 rep:RepC
 at_:Nat
def Zk(l:List TokC)(i:Nat):Pair:=
 let a:=Qy l i false
 if a.ok=false then⟨false,⟨[],[]⟩,a.at_⟩
 else if Zl l a.at_ BY=false then⟨false,⟨[],[]⟩,a.at_⟩
 else
  let b:=Qy l (a.at_+1) true
  ⟨b.ok,⟨Uw l a.lo a.hi,Uw l b.lo b.hi⟩,b.at_⟩
structure Pairs where
 ok:Bool
 reps:List RepC
 at_:Nat
def XR(l:List TokC):Nat->Nat->Bool->List RepC->Pairs
 |0,i,_,acc=>⟨true,acc,i⟩
 |f+1,i,first,acc=>
  if first=true\/(i<l.length/\Xw l i [6]=false)then
   (let p:=Zk l i
   if p.ok=false then⟨false,[],p.at_⟩else XR l f p.at_ false (acc++[p.rep]))
  else⟨true,acc,i⟩
structure Stm where
 ok:Bool
 name:TokC
 reps:List RepC
 at_:Nat
def noStm(i:Nat):Stm:=⟨false,noT,[],i⟩
def ZA(l:List TokC)(name:TokC)(p:Pairs):Stm:=
 if p.ok=false then noStm p.at_
 else if Xw l p.at_ [6]=false then noStm p.at_
 else⟨true,name,p.reps,p.at_+1⟩
def QG(l:List TokC)(i:Nat):Stm:=
 if Xw l i [1,3]=false then noStm i
 else ZA l (l.getD i noT) (if Zl l (i+1) Uf=true then XR l (l.length+2) (i+2) true []else⟨true,[],i+1⟩)
def Xu(l:List TokC)(i:Nat):Nat:=i+((l.drop i).takeWhile (fun t=> !(decide (t.kind=1) && decide (t.text=COPY)))).length
def qcE(l:List TokC)(copies at_:Nat):FaultC:=
 if at_<l.length then⟨4,(l.getD at_ noT).line,(l.getD at_ noT).col⟩else⟨4,(l.getD copies noT).line,(l.getD copies noT).col⟩
def addE(names:List Str)(s:Str):List Str:=if names.contains s=true then names else names++[s]
structure Xs where
 names:List Str
 copies:Nat
inductive Xr where
 |bad (f:FaultC)
 |ok (out:List TokC) (st:Xs)
def qai(lim:Bool)(l:List TokC):Bool:=lim && decide (65536<l.length)
def WZ(lim:Bool)(mem:List MemC)(op:List Str)(rec:List TokC->List Str->Xs->Xr)(s:Stm)(st:Xs):Xr:=
 match mem.find? (fun m=>decide (m.name=s.name.text))with
 |none=> .bad ⟨7,s.name.line,s.name.col⟩
 |some m=>
  if op.contains s.name.text=true then .bad ⟨10,s.name.line,s.name.col⟩
  else if 8<=op.length\/(lim=true/\4096<st.copies+1)then .bad ⟨3,s.name.line,s.name.col⟩
  else match rec m.toks (op++[s.name.text]) ⟨addE st.names s.name.text,st.copies+1⟩with
   | .bad f=> .bad f
   | .ok l st'=>if qai lim l=true then .bad ⟨3,s.name.line,s.name.col⟩else if qai lim (qbd s.reps l)=true then .bad ⟨3,s.name.line,s.name.col⟩else .ok (qbd s.reps l) st'
def Wt(lim:Bool)(mem:List MemC)(op:List Str)(rec:List TokC->List Str->Xs->Xr)(l:List TokC):Nat->Nat->List TokC->Xs->Xr
 |0,_,out,st=> .ok out st
 |f+1,i,out,st=>
  let c:=Xu l i
  if l.length<=c then .ok (out++l.drop i) st
  else
   let s:=QG l (c+1)
   if s.ok=false then .bad (qcE l c s.at_)
   else match WZ lim mem op rec s st with
    | .bad f=> .bad f
    | .ok inner st'=>if qai lim (out++Uw l i c++inner)=true then .bad ⟨3,s.name.line,s.name.col⟩else Wt lim mem op rec l f s.at_ (out++Uw l i c++inner) st'
def qcS(lim:Bool)(mem:List MemC):Nat->List TokC->List Str->Xs->Xr
 |0,l,op,st=>Wt lim mem op (fun _ _ st=> .ok [] st) l (l.length+1) 0 [] st
 |d+1,l,op,st=>Wt lim mem op (qcS lim mem d) l (l.length+1) 0 [] st
def Wu(lim:Bool)(l:List TokC)(mem:List MemC):Xr:=qcS lim mem 8 l [] ⟨[],0⟩
end Go.Cop
namespace Go.Cop
open Go.Col (Str FaultC okF)
open Go.Tok
set_option maxRecDepth 100000
theorem drop_cons{α:Type}(d:α){l:List α}{i:Nat}(hi:i<l.length):l.drop i=l.getD i d::l.drop (i+1):=by
 rw[List.drop_eq_getElem_cons hi];simp[List.getD,hi]
theorem fitsR_len{l o:List TokC}(h:YU l o=true):o.length<=l.length:=by
 unfold YU at h;simp only[Bool.and_eq_true,decide_eq_true_eq]at h;exact h.1
theorem repGo_fuel{r:List RepC}(hr:∀x∈r,x.old≠[]):∀(f g:Nat) (l:List TokC),l.length<=f->l.length<=g->repGo r f l=repGo r g l
 |0,g,l,hf,_=>by
  rw[List.eq_nil_of_length_eq_zero (by omega:l.length=0)];cases g<;>rfl
 |f+1,0,l,_,hg=>by
  rw[List.eq_nil_of_length_eq_zero (by omega:l.length=0)];rfl
 |f+1,g+1,[],_,_=>rfl
 |f+1,g+1,t::l,hf,hg=>by
  simp only[List.length_cons]at hf hg;simp only[repGo];cases hq:r.find? (fun x=>YU (t::l) x.old)with
  |none=>simp only;rw[repGo_fuel hr f g l (by omega) (by omega)]
  |some x=>
   simp only;have hx:0<x.old.length:=List.length_pos_iff.2 (hr x (List.mem_of_find?_eq_some hq));have hd:((t::l).drop x.old.length).length<=l.length:=by simp;omega
   rw[repGo_fuel hr f g _ (by omega) (by omega)]
theorem repE_nil(r:List RepC):qbd r []=[]:=rfl
theorem repE_step{r:List RepC}(hr:∀x∈r,x.old≠[]){l:List TokC}{i:Nat}(hi:i<l.length):qbd r (l.drop i)=match r.find? (fun x=>YU (l.drop i) x.old)with
 |none=>l.getD i noT::qbd r (l.drop (i+1))
 |some x=>x.new++qbd r (l.drop (i+x.old.length)):=by
 unfold qbd;have e:=drop_cons noT hi;rw[show(l.drop i).length=(l.drop (i+1)).length+1 by simp;omega];rw[e];simp only[repGo];rw[<-e];cases hq:r.find? (fun x=>YU (l.drop i) x.old)with
 |none=>rfl
 |some x=>
  simp only;have hx:0<x.old.length:=List.length_pos_iff.2 (hr x (List.mem_of_find?_eq_some hq));rw[List.drop_drop,repGo_fuel hr _ _ (l.drop (i+x.old.length)) (by simp;omega) (Nat.le_refl _)]
theorem find_idx{r:List RepC}{p:RepC->Bool}:(r.findIdx? p=none/\r.find? p=none)\/∃i x,r.findIdx? p=some i/\r.find? p=some x/\i<r.length/\r[i]?=some x:=by
 cases h:r.findIdx? p with
 |none=>
  left;refine⟨rfl,?_⟩;rw[List.findIdx?_eq_none_iff]at h;rw[List.find?_eq_none];intro x hx;simp[h x hx]
 |some i=>
  right;rw[List.findIdx?_eq_some_iff_getElem]at h;obtain⟨h1,h2,h3⟩:=h;refine⟨i,r[i],rfl,?_,h1,by simp[h1]⟩;rw[List.find?_eq_some_iff_getElem];exact⟨h2,i,h1,rfl,fun j hj=>by simpa using h3 j hj⟩
theorem alike_app:∀{l m l' m':List TokC},alike l m=true->alike l' m'=true->alike (l++l') (m++m')=true
 |[],[],_,_,_,h=>h
 |[],_::_,_,_,h,_=>by cases h
 |_::_,[],_,_,h,_=>by cases h
 |a::l,b::m,_,_,h,h'=>by
  simp only[alike,Bool.and_eq_true,List.cons_append]at h|-
  exact⟨h.1,alike_app h.2 h'⟩
theorem repE_same{r:List RepC}(hr:∀x∈r,x.old≠[])(hn:∀x∈r,x.new=x.old):∀(n:Nat) (l:List TokC),l.length<=n->alike (qbd r l) l=true
 |0,l,h=>by rw[List.eq_nil_of_length_eq_zero (by omega:l.length=0)];rfl
 |n+1,l,h=>by
  cases hl:l with
  |nil=>rfl
  |cons t l'=>
   rw[<-hl];have hpos:0<l.length:=by rw[hl];simp
   have hs:=repE_step hr hpos;rw[List.drop_zero]at hs;rw[hs];cases hq:r.find? (fun x=>YU l x.old)with
   |none=>
    simp only[Nat.zero_add];have e:=drop_cons noT hpos;rw[List.drop_zero,Nat.zero_add]at e;conv=>lhs;rhs;rw[e]
    simp only[alike,decide_true,Bool.and_self,Bool.true_and];exact repE_same hr hn n _ (by simp;omega)
   |some x=>
    simp only[Nat.zero_add];have hm:=List.mem_of_find?_eq_some hq;have hf:=List.find?_some hq;have hx:0<x.old.length:=List.length_pos_iff.2 (hr x hm);unfold YU at hf;simp only[Bool.and_eq_true,decide_eq_true_eq]at hf;rw[hn x hm];conv=>lhs;rhs;rw[<-List.take_append_drop x.old.length l]
    exact alike_app hf.2 (repE_same hr hn n _ (by simp;omega))
theorem repE_none(l:List TokC):qbd [] l=l:=by
 have:∀(f:Nat) (l:List TokC),l.length<=f->repGo [] f l=l:=by
  intro f;induction f with
  |zero=>intro l h;rw[List.eq_nil_of_length_eq_zero (by omega:l.length=0)];rfl
  |succ f ih=>
   intro l h;cases l with
   |nil=>rfl
   |cons t l=>simp only[repGo,List.find?_nil];rw[ih l (by simpa using h)]
 exact this _ l (Nat.le_refl _)
theorem ZU{l:List TokC}{i:Nat}{ks:List UInt8}(h:Xw l i ks=true):i<l.length:=by
 unfold Xw at h;simp only[Bool.and_eq_true,decide_eq_true_eq]at h;exact h.1
theorem qbM{α:Type}(p:α->Bool):∀l:List α,(l.takeWhile p).length<=l.length
 |[]=>Nat.le_refl _
 |a::l=>by
  rw[List.takeWhile_cons];split
  ·simp;exact qbM p l
  ·simp
theorem pseudoEnd_le{l:List TokC}{i:Nat}(h:i<=l.length):i<=Xy l i/\Xy l i<=l.length:=by
 unfold Xy;have:=qbM (fun t:TokC=> !decide (t.kind=7)) (l.drop i);rw[List.length_drop]at this;omega
theorem copyAt_le{l:List TokC}{i:Nat}(h:i<=l.length):i<=Xu l i/\Xu l i<=l.length:=by
 unfold Xu;have:=qbM (fun t:TokC=> !(decide (t.kind=1) && decide (t.text=COPY))) (l.drop i);rw[List.length_drop]at this;omega
theorem qac{l:List TokC}{i:Nat}{e:Bool}(h:i<=l.length):i<=(Qy l i e).at_/\(Qy l i e).at_<=l.length/\((Qy l i e).ok=true->i<(Qy l i e).at_/\(Qy l i e).lo<=(Qy l i e).hi/\(Qy l i e).hi<=l.length/\(e=false->(Qy l i e).lo<(Qy l i e).hi)):=by
 unfold Qy;split
 ·rename_i h1
  have:=ZU h1;exact⟨by simp only;omega,by simp only;omega,fun _=>⟨by simp only;omega,by simp only;omega,by simp only;omega,fun _=>by simp only;omega⟩⟩
 ·split
  ·exact⟨Nat.le_refl _,h,fun q=>by cases q⟩
  ·rename_i h2
   have h2':Xw l i [7]=true:=by simpa using h2
   have hl:=ZU h2';obtain⟨p1,p2⟩:=pseudoEnd_le (l:=l) (i:=i+1) (by omega);split
   ·exact⟨by simp only;omega,p2,fun q=>by cases q⟩
   ·rename_i h3
    have hne:Xy l (i+1)≠l.length:=fun q=>h3 (.inl q);refine⟨by simp only;omega,by simp only;omega,fun _=>⟨by simp only;omega,p1,p2,fun he=>?_⟩⟩;simp only;have:Xy l (i+1)≠i+1:=fun q=>h3 (.inr ⟨he,q⟩);omega
theorem pair_at{l:List TokC}{i:Nat}(h:i<=l.length):i<=(Zk l i).at_/\(Zk l i).at_<=l.length/\((Zk l i).ok=true->i<(Zk l i).at_/\(Zk l i).rep.old≠[]):=by
 obtain⟨a1,a2,a3⟩:=qac (e:=false) h;unfold Zk;simp only;split
 ·exact⟨a1,a2,fun q=>by cases q⟩
 ·rename_i h1
  have h1':(Qy l i false).ok=true:=by simpa using h1
  obtain⟨b1,b2,b3,b4⟩:=a3 h1';split
  ·exact⟨a1,a2,fun q=>by cases q⟩
  ·rename_i h2
   have h2':Zl l (Qy l i false).at_ BY=true:=by simpa using h2
   have hl:(Qy l i false).at_<l.length:=by
    unfold Zl at h2';simp only[Bool.and_eq_true]at h2';exact ZU h2'.1
   obtain⟨c1,c2,c3⟩:=qac (l:=l) (i:=(Qy l i false).at_+1) (e:=true) (by omega);refine⟨by simp only;omega,c2,fun _=>⟨by simp only;omega,?_⟩⟩;simp only[Uw];intro q;have:=congrArg List.length q;have:=b4 rfl;simp at*
   omega
theorem pairs_at{l:List TokC}:∀(f i:Nat) (first:Bool) (acc:List RepC),i<=l.length->(∀x∈acc,x.old≠[])->i<=(XR l f i first acc).at_/\(XR l f i first acc).at_<=l.length/\∀x∈(XR l f i first acc).reps,x.old≠[]
 |0,i,first,acc,h,ha=>⟨Nat.le_refl _,h,ha⟩
 |f+1,i,first,acc,h,ha=>by
  rw[XR];split
  ·obtain⟨p1,p2,p3⟩:=pair_at h
   simp only;split
   ·exact⟨p1,p2,fun x hx=>by cases hx⟩
   ·rename_i hok
    obtain⟨p4,p5⟩:=p3 (by simpa using hok);obtain⟨q1,q2,q3⟩:=pairs_at f (Zk l i).at_ false (acc++[(Zk l i).rep]) p2 (fun x hx=>by
     rcases List.mem_append.1 hx with hx|hx
     ·exact ha x hx
     ·rw[List.mem_singleton.1 hx];exact p5)
    exact⟨by omega,q2,q3⟩
  ·exact⟨Nat.le_refl _,h,ha⟩
theorem qaR{l:List TokC}{i:Nat}{s:Str}(h:Zl l i s=true):i<l.length:=by
 unfold Zl at h;simp only[Bool.and_eq_true]at h;exact ZU h.1
theorem qaI{l:List TokC}{i:Nat}(h:i<=l.length):i<=(QG l i).at_/\(QG l i).at_<=l.length/\((QG l i).ok=true->i<(QG l i).at_)/\∀x∈(QG l i).reps,x.old≠[]:=by
 unfold QG;split
 ·exact⟨Nat.le_refl _,h,(fun q=>by cases q),(fun x hx=>by cases hx)⟩
 ·rename_i h1
  have hl:=ZU (show Xw l i [1,3]=true by simpa using h1);have key:∀p:Pairs,i+1<=p.at_->p.at_<=l.length->(∀x∈p.reps,x.old≠[])->i<=(ZA l (l.getD i noT) p).at_/\(ZA l (l.getD i noT) p).at_<=l.length/\((ZA l (l.getD i noT) p).ok=true->i<(ZA l (l.getD i noT) p).at_)/\∀x∈(ZA l (l.getD i noT) p).reps,x.old≠[]:=by
   intro p p1 p2 p3;unfold ZA;split
   ·exact⟨by simp only[noStm];omega,p2,(fun q=>by cases q),(fun x hx=>by cases hx)⟩
   ·split
    ·exact⟨by simp only[noStm];omega,p2,(fun q=>by cases q),(fun x hx=>by cases hx)⟩
    ·rename_i h3
     have:=ZU (show Xw l p.at_ [6]=true by simpa using h3);exact⟨by simp only;omega,by simp only;omega,fun _=>by simp only;omega,p3⟩
  split
  ·rename_i h2
   have hw:=qaR h2;obtain⟨q1,q2,q3⟩:=pairs_at (l:=l) (l.length+2) (i+2) true [] (by omega) (fun x hx=>by cases hx);exact key _ (by omega) q2 q3
  ·exact key _ (Nat.le_refl _) (by simp only;omega) (fun x hx=>by cases hx)
end Go.Cop
namespace Go.Cop
open Go.Col (Str FaultC okF)
open Go.Tok
set_option maxRecDepth 100000
theorem faultAt_ne(l:List TokC)(c a:Nat):qcE l c a≠okF:=by
 unfold qcE;split<;>simp[okF]
section
variable {lim:Bool} {mem:List MemC}
end
end Go.Cop
namespace Go.Cop
open Go.Col (Str FaultC okF)
open Go.Tok
set_option maxRecDepth 100000
section
variable {lim:Bool} {mem:List MemC}
def memOf(mem:List MemC)(s:Str):Option MemC:=mem.find? (fun m=>decide (m.name=s))
end
end Go.Cop
namespace Go.Cop
open Go.Col (Str FaultC okF)
open Go.Tok
set_option maxRecDepth 100000
def isCopy(t:TokC):Bool:=decide (t.kind=1) && decide (t.text=COPY)
def NoCopy(l:List TokC):Prop:=∀t∈l,isCopy t=false
theorem nocopy_at{l:List TokC}(h:NoCopy l):Xu l 0=l.length:=by
 unfold Xu;rw[List.drop_zero,Nat.zero_add];congr 1;induction l with
 |nil=>rfl
 |cons a l ih=>
  rw[List.takeWhile_cons];have ha:=h a List.mem_cons_self;unfold isCopy at ha;rw[if_pos (by rw[ha];rfl),ih fun t ht=>h t (List.mem_cons_of_mem _ ht)]
theorem list_plain{lim:Bool}{mem:List MemC}{op:List Str}{st:Xs}{l:List TokC}(h:NoCopy l)(d:Nat):qcS lim mem d l op st= .ok l st:=by
 have e:=nocopy_at h;cases d<;>rw[qcS,Wt]<;>simp only[e]<;>rw[if_pos (Nat.le_refl _)]<;>simp
section
variable {lim:Bool} {mem:List MemC}
end
end Go.Cop
namespace Go.Cop
open Go.Col (Str FaultC okF)
open Go.Tok
set_option maxRecDepth 100000
theorem getD_shift(a b:List TokC)(i:Nat):(a++b).getD (a.length+i) noT=b.getD i noT:=by
 simp only[List.getD];rw[List.getElem?_append_right (by omega),Nat.add_sub_cancel_left]
theorem Ua(a b:List TokC)(i:Nat)(ks:List UInt8):Xw (a++b) (a.length+i) ks=Xw b i ks:=by
 unfold Xw;rw[getD_shift,List.length_append];congr 1;exact decide_eq_decide.2 (by omega)
theorem wordAt_shift(a b:List TokC)(i:Nat)(s:Str):Zl (a++b) (a.length+i) s=Zl b i s:=by
 unfold Zl;rw[Ua,getD_shift]
theorem drop_shift{α:Type}(a b:List α)(i:Nat):(a++b).drop (a.length+i)=b.drop i:=by
 rw[List.drop_append,List.drop_of_length_le (by omega),List.nil_append,Nat.add_sub_cancel_left]
theorem pseudoEnd_shift(a b:List TokC)(i:Nat):Xy (a++b) (a.length+i)=a.length+Xy b i:=by
 unfold Xy;rw[drop_shift];omega
theorem copyAt_shift(a b:List TokC)(i:Nat):Xu (a++b) (a.length+i)=a.length+Xu b i:=by
 unfold Xu;rw[drop_shift];omega
theorem cut_shift(a b:List TokC)(i j:Nat):Uw (a++b) (a.length+i) (a.length+j)=Uw b i j:=by
 unfold Uw;rw[drop_shift];congr 1;omega
theorem operand_shift(a b:List TokC)(i:Nat)(e:Bool):Qy (a++b) (a.length+i) e=if (Qy b i e).ok=true then⟨true,a.length+(Qy b i e).lo,a.length+(Qy b i e).hi,a.length+(Qy b i e).at_⟩else⟨false,0,0,a.length+(Qy b i e).at_⟩:=by
 unfold Qy;rw[Ua,Ua,Nat.add_assoc,pseudoEnd_shift,List.length_append];by_cases h1:Xw b i [1,2,3]=true
 ·simp[h1]
 ·rw[if_neg h1,if_neg h1]
  by_cases h2:Xw b i [7]=false
  ·simp[h2]
  ·rw[if_neg h2,if_neg h2]
   by_cases h3:Xy b (i+1)=b.length\/(e=false/\Xy b (i+1)=i+1)
   ·rw[if_pos h3,if_pos (h3.imp (fun q=>by omega) (fun q=>⟨q.1,by omega⟩))]
    simp
   ·rw[if_neg h3,if_neg (fun q=>h3 (q.imp (fun q=>by omega) (fun q=>⟨q.1,by omega⟩)))]
    simp[Nat.add_assoc]
theorem pair_shift(a b:List TokC)(i:Nat):(Zk (a++b) (a.length+i)).ok=(Zk b i).ok/\(Zk (a++b) (a.length+i)).at_=a.length+(Zk b i).at_/\((Zk b i).ok=true->(Zk (a++b) (a.length+i)).rep=(Zk b i).rep):=by
 unfold Zk;simp only[operand_shift a b i false];by_cases h1:(Qy b i false).ok=true
 ·rw[if_pos h1]
  simp only[wordAt_shift,Nat.add_assoc,operand_shift,h1];by_cases h2:Zl b (Qy b i false).at_ BY=true
  ·simp only[h2]
   by_cases h3:(Qy b ((Qy b i false).at_+1) true).ok=true
   ·simp[h3,cut_shift]
   ·simp[h3]
  ·simp[h2]
 ·rw[if_neg h1]
  simp[h1]
theorem pairs_shift(a b:List TokC):∀(f i:Nat) (first:Bool) (acc:List RepC),XR (a++b) f (a.length+i) first acc=⟨(XR b f i first acc).ok,(XR b f i first acc).reps,a.length+(XR b f i first acc).at_⟩
 |0,i,first,acc=>rfl
 |f+1,i,first,acc=>by
  rw[XR,XR];rw[Ua,List.length_append];obtain⟨p1,p2,p3⟩:=pair_shift a b i;by_cases h:first=true\/(i<b.length/\Xw b i [6]=false)
  ·rw[if_pos h,if_pos (h.imp (fun q=>q) (fun q=>⟨by omega,q.2⟩))]
   simp only[p1,p2];by_cases h2:(Zk b i).ok=true
   ·rw[if_neg (by simp[h2]),if_neg (by simp[h2]),p3 h2,pairs_shift a b f]
   ·have h2':(Zk b i).ok=false:=by simpa using h2
    rw[if_pos h2',if_pos h2']
  ·rw[if_neg h,if_neg (fun q=>h (q.imp (fun q=>q) (fun q=>⟨by omega,q.2⟩)))]
theorem qaa(l:List TokC):∀(f g i:Nat) (first:Bool) (acc:List RepC),i<=l.length->l.length+1<=f+i->l.length+1<=g+i->XR l f i first acc=XR l g i first acc
 |0,g,i,first,acc,h,hf,hg=>by omega
 |f+1,0,i,first,acc,h,hf,hg=>by omega
 |f+1,g+1,i,first,acc,h,hf,hg=>by
  rw[XR,XR];split
  ·obtain⟨p1,p2,p3⟩:=pair_at h
   simp only;split
   ·rfl
   ·rename_i hok
    obtain⟨p4,_⟩:=p3 (by simpa using hok);exact qaa l f g _ _ _ p2 (by omega) (by omega)
  ·rfl
theorem behind_shift(a b:List TokC)(n:TokC)(p:Pairs):ZA (a++b) n ⟨p.ok,p.reps,a.length+p.at_⟩=⟨(ZA b n p).ok,(ZA b n p).name,(ZA b n p).reps,a.length+(ZA b n p).at_⟩:=by
 unfold ZA;simp only[Ua];split
 ·rfl
 ·split
  ·rfl
  ·simp[Nat.add_assoc]
theorem statement_shift(a b:List TokC)(i:Nat)(hi:i<=b.length):QG (a++b) (a.length+i)=⟨(QG b i).ok,(QG b i).name,(QG b i).reps,a.length+(QG b i).at_⟩:=by
 unfold QG;rw[Ua];split
 ·rfl
 ·rename_i h1
  rw[getD_shift,Nat.add_assoc,wordAt_shift];split
  ·rename_i h2
   have:=qaR h2;rw[Nat.add_assoc,qaa (a++b) _ (b.length+2) (a.length+(i+2)) true [] (by rw[List.length_append];omega) (by rw[List.length_append];omega) (by rw[List.length_append];omega),pairs_shift,behind_shift]
  ·exact behind_shift a b _ ⟨true,[],i+1⟩
section
variable {c b:List TokC}
theorem getD_front{i:Nat}(h:i<c.length):(c++b).getD i noT=c.getD i noT:=by
 simp only[List.getD];rw[List.getElem?_append_left h]
theorem YG{i:Nat}(h:i<c.length)(ks:List UInt8):Xw (c++b) i ks=Xw c i ks:=by
 unfold Xw;rw[getD_front h,List.length_append,decide_eq_true (by omega),decide_eq_true h]
theorem qcj{i:Nat}(h:i<c.length)(s:Str):Zl (c++b) i s=Zl c i s:=by
 unfold Zl;rw[YG h,getD_front h]
theorem takeWhile_app{α:Type}{p:α->Bool}:∀{l m:List α},(l.takeWhile p).length<l.length->(l++m).takeWhile p=l.takeWhile p
 |[],_,h=>by simp at h
 |x::l,m,h=>by
  rw[List.cons_append,List.takeWhile_cons,List.takeWhile_cons];rw[List.takeWhile_cons]at h;split
  ·rename_i hx
   rw[if_pos hx]at h;rw[takeWhile_app (by simpa using h)]
  ·rfl
theorem pseudoEnd_front{i:Nat}(hi:i<=c.length)(h:Xy c i<c.length):Xy (c++b) i=Xy c i:=by
 unfold Xy at h|-
 rw[List.drop_append_of_le_length hi,takeWhile_app (by rw[List.length_drop];omega)]
theorem cut_front{i j:Nat}(h:j<=c.length):Uw (c++b) i j=Uw c i j:=by
 unfold Uw;by_cases hi:i<=c.length
 ·rw[List.drop_append_of_le_length hi,List.take_append_of_le_length (by rw[List.length_drop];omega)]
 ·rw[show j-i=0 by omega]
  rfl
theorem operand_front{i:Nat}{e:Bool}(hi:i<=c.length)(h:(Qy c i e).ok=true):Qy (c++b) i e=Qy c i e:=by
 unfold Qy at h|-
 split at h
 ·rename_i h1
  rw[YG (ZU h1),if_pos h1,if_pos h1]
 ·rename_i h1
  split at h
  ·cases h
  ·rename_i h2
   have h2':Xw c i [7]=true:=by simpa using h2
   have hl:=ZU h2';rw[YG hl,YG hl,if_neg h1,if_neg h2,if_neg h1,if_neg h2];split at h
   ·cases h
   ·rename_i h3
    obtain⟨p1,p2⟩:=pseudoEnd_le (l:=c) (i:=i+1) (by omega);have h4:Xy c (i+1)<c.length:=by omega
    rw[pseudoEnd_front (by omega) h4,if_neg h3,if_neg (by rw[List.length_append];exact fun q=>h3 (q.imp (fun q=>by omega) (fun q=>q)))]
theorem pair_front{i:Nat}(hi:i<=c.length)(h:(Zk c i).ok=true):Zk (c++b) i=Zk c i:=by
 unfold Zk at h|-
 simp only at h|-
 split at h
 ·cases h
 ·rename_i h1
  have h1':(Qy c i false).ok=true:=by simpa using h1
  split at h
  ·cases h
  ·rename_i h2
   have h2':Zl c (Qy c i false).at_ BY=true:=by simpa using h2
   have hl:=qaR h2';obtain⟨_,_,q⟩:=qac (e:=false) hi;obtain⟨_,q1,q2,_⟩:=q h1';obtain⟨_,_,r⟩:=qac (l:=c) (i:=(Qy c i false).at_+1) (e:=true) (by omega);obtain⟨_,r1,r2,_⟩:=r h;rw[operand_front hi h1',if_neg h1,if_neg h1,qcj hl,if_neg h2,if_neg h2,operand_front (by omega) h,cut_front q2,cut_front r2]
theorem pairs_front:∀(f i:Nat) (first:Bool) (acc:List RepC),i<=c.length->(XR c f i first acc).ok=true->Xw c (XR c f i first acc).at_ [6]=true->XR (c++b) f i first acc=XR c f i first acc
 |0,i,first,acc,_,_,_=>rfl
 |f+1,i,first,acc,hi,h,h6=>by
  rw[XR]at h h6;rw[XR,XR];by_cases hc:first=true\/(i<c.length/\Xw c i [6]=false)
  ·rw[if_pos hc]at h h6
   simp only at h h6;have hok:(Zk c i).ok=true:=by
    by_cases q:(Zk c i).ok=true
    ·exact q
    ·rw[if_pos (by simpa using q)]at h
     cases h
   rw[if_neg (by simp[hok])]at h h6;obtain⟨p1,p2,_⟩:=pair_at hi;rw[if_pos hc,if_pos (by
    rcases hc with q|⟨q1,q2⟩
    ·exact .inl q
    ·exact .inr ⟨by rw[List.length_append];omega,by rw[YG q1];exact q2⟩)]
   simp only;rw[pair_front hi hok,if_neg (by simp[hok]),if_neg (by simp[hok])];exact pairs_front f _ _ _ p2 h h6
  ·rw[if_neg hc]at h h6
   simp only at h6;have hl:=ZU h6;rw[if_neg hc,if_neg (by
    rintro(q|⟨_,q2⟩)
    ·exact hc (.inl q)
    ·rw[YG hl,h6]at q2
     cases q2)]
theorem statement_front{i:Nat}(hi:i<=c.length)(h:(QG c i).ok=true):QG (c++b) i=QG c i:=by
 unfold QG at h|-
 split at h
 ·cases h
 ·rename_i h1
  have h1':Xw c i [1,3]=true:=by simpa using h1
  have hl:=ZU h1';rw[YG hl,if_neg h1,if_neg h1,getD_front hl];have key:∀(p p':Pairs),(ZA c (c.getD i noT) p).ok=true->((p.ok=true/\Xw c p.at_ [6]=true)->p'=p)->ZA (c++b) (c.getD i noT) p'=ZA c (c.getD i noT) p:=by
   intro p p' hb hp;have hb':=hb;unfold ZA at hb;split at hb
   ·cases hb
   ·rename_i g1
    split at hb
    ·cases hb
    ·rename_i g2
     have g2':Xw c p.at_ [6]=true:=by simpa using g2
     rw[hp ⟨by simpa using g1,g2'⟩];unfold ZA;rw[YG (ZU g2')]
  split at h
  ·rename_i h2
   have hw:=qaR h2;rw[qcj hw,if_pos h2,if_pos h2];refine key _ _ h fun⟨g1,g2⟩=>?_;rw[qaa (c++b) _ ((c++b).length+c.length+2) (i+2) true [] (by rw[List.length_append];omega) (by omega) (by omega)];have e:=qaa c (c.length+2) ((c++b).length+c.length+2) (i+2) true [] (by omega) (by omega) (by omega);rw[e]at g1 g2|-
   exact pairs_front _ _ _ _ (by omega) g1 g2
  ·rename_i h2
   have hlt:i+1<c.length:=by
    unfold ZA at h;simp only at h;split at h
    ·cases h
    ·split at h
     ·cases h
     ·rename_i g
      exact ZU (by simpa using g)
   rw[qcj hlt,if_neg h2,if_neg h2];exact key ⟨true,[],i+1⟩ _ h fun _=>rfl
end
end Go.Cop
namespace Go.Cop
open Go.Col (Str FaultC okF)
open Go.Tok
set_option maxRecDepth 100000
def wd(s:Str):TokC:=⟨1,s,0,0,false⟩
def perC:TokC:=⟨6,[46],0,0,false⟩
def psC:TokC:=⟨7,[61,61],0,0,false⟩
def numC:TokC:=⟨2,[53],0,0,false⟩
def quoC(s:Str):TokC:=⟨3,s,0,0,false⟩
def plainC:List TokC:=[wd [65],wd [66],wd [67],wd BY,numC,quoC [65],perC,⟨5,[40],0,0,false⟩]
def pairsC:List (List TokC):=[
 [wd [65],wd BY,wd [66]],
 [wd [66],wd BY,wd [65],wd [65],wd BY,wd [67]],
 [psC,wd [65],wd [66],psC,wd BY,psC,psC],
 [psC,wd [65],psC,wd BY,psC,wd [65],wd [65],psC],
 [numC,wd BY,psC,wd COPY,wd [77,49],perC,psC],
 [psC,perC,psC,wd BY,quoC [88],psC,wd [67],psC,wd BY,wd [67]]]
def nameC(n:Nat):Str:=if n=255 then[77,57]else[77,UInt8.ofNat (48+n%8)]
def chunkC(n:Nat):List TokC:=
 if n<160 then[plainC.getD (n%8) noT]
 else wd COPY::wd (nameC n)::((if 200<=n then wd Uf::pairsC.getD (n%6) []else[])++(if n=254 then[]else[perC]))
def rawC(ns:List Nat):List TokC:=ns.flatMap chunkC
def clsT(t:TokC):Bool:=(decide (t.kind=1) && [[65],[66],[67],BY].contains t.text)||(decide (t.kind=2) && decide (t.text=[53]))||(decide (t.kind=3) && decide (t.text=[65]))
def W:Nat->TokC->Nat
 |0,_=>1
 |j+1,t=>if clsT t=true then 3*2^j else 1
end Go.Cop
namespace Go.Cop
open Go.Col (Str FaultC okF)
open Go.Tok
set_option maxRecDepth 100000
end Go.Cop
namespace Go.Cop
open Go.Col (Str FaultC okF)
open Go.Tok
set_option maxRecDepth 100000
def strip(t:TokC):TokC:=⟨t.kind,t.text,0,0,false⟩
section
variable (l:List TokC)
end
def X:Nat->Nat
 |0=>6144
 |1=>768
 |2=>96
 |_=>12
def Y:Nat->Nat
 |0=>73
 |1=>9
 |2=>1
 |_=>0
structure Lib(mem:List MemC):Prop where
 few:∀op:List Str,op.Nodup->(∀x∈op,memOf mem x≠none)->op.length<=3
 raw:∀n m,memOf mem n=some m->∃ns,m.toks.map strip=rawC ns/\ns.length<=8/\∀n∈ns,n<256
theorem copyAt_head{t:TokC}{b:List TokC}(h:isCopy t=true):Xu (t::b) 0=0:=by
 unfold Xu;unfold isCopy at h;rw[List.drop_zero,List.takeWhile_cons,if_neg (by rw[h];simp)];rfl
section
variable {mem:List MemC} (hL:Lib mem)
include hL
end
end Go.Cop
namespace Go.Cop
open Go.Col (Str FaultC okF)
open Go.Tok
set_option maxRecDepth 100000
end Go.Cop
namespace Go.Cop
open Go.Col (Str FaultC okF sp)
open Go.Tok
set_option maxRecDepth 100000
def Uh(one:List TokC)(k:Nat):List TokC:=(List.replicate k one).flatten
theorem many_succ(one:List TokC)(k:Nat):Uh one (k+1)=one++Uh one k:=by unfold Uh;rw[List.replicate_succ,List.flatten_cons]
theorem qdu(one:List TokC):∀k,(Uh one k).length=k*one.length
 |0=>by simp[Uh]
 |k+1=>by rw[many_succ,List.length_append,qdu one k,Nat.succ_mul];omega
theorem many_app(one:List TokC)(k:Nat):Uh one k++one=Uh one (k+1):=by
 unfold Uh;rw[List.replicate_succ',List.flatten_append];simp
section
variable {c n p:TokC} (hc:isCopy c=true) (hst:QG [c,n,p] 1=⟨true,n,[],3⟩)
include hc hst
theorem limits_go{op:List Str}{rec:List TokC->List Str->Xs->Xr}{E:Str}(hn:n.text=E)(hop:op=[])(hrec:∀st,rec [] [E] st= .ok [] st):
 ∀(j:Nat) (a:List TokC) (f:Nat) (st:Xs),j<f->(st.names=[E]\/(st.names=[]/\st.copies=0))->Wt true [⟨E,[]⟩] op rec (a++Uh [c,n,p] j) f a.length [] st=
  if st.copies+j<=4096 then .ok [] ⟨if j=0 then st.names else[E],st.copies+j⟩else if st.copies<=4096 then .bad ⟨3,n.line,n.col⟩else Wt true [⟨E,[]⟩] op rec (a++Uh [c,n,p] j) f a.length [] st
 |0,a,f,st,hf,hs=>by
  by_cases h4:st.copies+0<=4096
  ·rw[if_pos h4]
   obtain⟨f,rfl⟩:∃g,f=g+1:=⟨f-1,by omega⟩
   rw[show Uh [c,n,p] 0=[]from rfl,List.append_nil,Wt];simp only;rw[if_pos (copyAt_le (Nat.le_refl _)).1];simp
  ·rw[if_neg h4,if_neg (by omega)]
 |j+1,a,f,st,hf,hs=>by
  by_cases h00:¬st.copies<=4096
  ·rw[if_neg (by omega),if_neg h00]
  have h0:st.copies<=4096:=by omega
  clear h00;obtain⟨f,rfl⟩:∃g,f=g+1:=⟨f-1,by omega⟩
  rw[if_pos h0,many_succ,Wt];have e1:=copyAt_shift a ([c,n,p]++Uh [c,n,p] j) 0;rw[Nat.add_zero,List.cons_append,copyAt_head hc,Nat.add_zero,<-List.cons_append]at e1;have e2:=statement_shift a ([c,n,p]++Uh [c,n,p] j) 1 (by simp);rw[statement_front (c:=[c,n,p]) (b:=Uh [c,n,p] j) (i:=1) (by simp) (by rw[hst]),hst]at e2;simp only[e1,e2];rw[if_neg (by simp),if_neg (by simp)];have hcut:Uw (a++([c,n,p]++Uh [c,n,p] j)) a.length a.length=[]:=by unfold Uw;rw[Nat.sub_self];rfl
  have hm:WZ true [⟨E,[]⟩] op rec ⟨true,n,[],a.length+3⟩ st=if 4096<st.copies+1 then .bad ⟨3,n.line,n.col⟩else .ok [] ⟨[E],st.copies+1⟩:=by
   unfold WZ;simp only[hn,hop,List.find?_cons,decide_true,List.contains_nil,Bool.false_eq_true,if_false,List.length_nil,List.nil_append];by_cases q:4096<st.copies+1
   ·rw[if_pos (.inr ⟨trivial,q⟩),if_pos q]
   ·rw[if_neg (by rintro(z|⟨_,z⟩)<;>omega),if_neg q,hrec]
    simp only[repE_none];have ha:addE st.names E=[E]:=by
     rcases hs with z|⟨z,_⟩<;>rw[z]<;>simp[addE]
    rw[ha];rfl
  rw[hm];by_cases q:4096<st.copies+1
  ·rw[if_pos q,if_neg (by omega)]
  ·rw[if_neg q]
   simp only[hcut,List.append_nil];rw[if_neg (by simp[qai])];have ih:=limits_go hn hop hrec j (a++[c,n,p]) f ⟨[E],st.copies+1⟩ (by omega) (.inl rfl);rw[List.length_append,List.append_assoc]at ih;simp only[List.length_cons,List.length_nil,Nat.zero_add,Nat.reduceAdd]at ih;rw[ih];by_cases h:st.copies+(j+1)<=4096
   ·rw[if_pos (by omega),if_pos h,if_neg (show ¬j+1=0 by omega)]
    congr 2
    ·split<;>rfl
    ·omega
   ·rw[if_neg (by omega),if_pos (by omega),if_neg h]
theorem limits_many{E:Str}(hn:n.text=E)(k:Nat)(hk:1<=k):Wu true (Uh [c,n,p] k) [⟨E,[]⟩]=if k<=4096 then .ok [] ⟨[E],k⟩else .bad ⟨3,n.line,n.col⟩:=by
 have:=limits_go hc hst (rec:=qcS true [⟨E,[]⟩] 7) (op:=[]) hn rfl (fun st=>list_plain (fun t ht=>by cases ht) 7) k [] ((Uh [c,n,p] k).length+1) ⟨[],0⟩ (by rw[qdu];simp;omega) (.inr ⟨rfl,rfl⟩);rw[List.nil_append]at this;unfold Wu;rw[qcS,List.length_nil]at*
 rw[this];simp only[Nat.zero_add];by_cases h:k<=4096
 ·rw[if_pos h,if_pos h,if_neg (by omega)]
 ·rw[if_neg h,if_neg h,if_pos (Nat.zero_le _)]
theorem limits_large{E:Str}(hn:n.text=E){large:List TokC}(hl:NoCopy large):Wu true [c,n,p] [⟨E,large⟩]=if 65536<large.length then .bad ⟨3,n.line,n.col⟩else .ok large ⟨[E],1⟩:=by
 unfold Wu;rw[qcS,Wt];have e1:Xu [c,n,p] 0=0:=copyAt_head hc;simp only[e1,Nat.zero_add,hst];rw[if_neg (by simp),if_neg (by simp)];have hm:WZ true [⟨E,large⟩] [] (qcS true [⟨E,large⟩] 7) ⟨true,n,[],3⟩ ⟨[],0⟩=if 65536<large.length then .bad ⟨3,n.line,n.col⟩else .ok large ⟨[E],1⟩:=by
  unfold WZ;simp only[hn,List.find?_cons,decide_true,List.contains_nil,Bool.false_eq_true,if_false,List.length_nil,List.nil_append];rw[if_neg (by rintro(z|⟨_,z⟩)<;>omega),list_plain hl 7];simp only[repE_none,qai,Bool.true_and,decide_eq_true_eq,Nat.zero_add];have ha:addE [] E=[E]:=by simp[addE]
  rw[ha];by_cases q:65536<large.length
  ·rw[if_pos q,if_pos q]
  ·rw[if_neg q,if_neg q]
 rw[hm];by_cases q:65536<large.length
 ·rw[if_pos q]
 ·rw[if_neg q]
  have hcut:Uw [c,n,p] 0 0=[]:=rfl;simp only[hcut,List.nil_append,qai,Bool.true_and,decide_eq_true_eq];rw[if_neg q];show Wt true [⟨E,large⟩] [] (qcS true [⟨E,large⟩] 7) [c,n,p] (2+1) 3 large ⟨[E],1⟩=_
  rw[Wt];have e3:Xu [c,n,p] 3=3:=rfl;simp only[e3,List.length_cons,List.length_nil,Nat.zero_add,Nat.reduceAdd];rw[if_pos (Nat.le_refl _)];simp
end
theorem large_replace{large:List TokC}:UB large []=if 65536<large.length then([],3)else(large,0):=by
 unfold UB;simp only[List.any_nil,Bool.false_eq_true,if_false,repE_none]
end Go.Cop
namespace Go.Cop
open Go.Col (Str FaultC okF sp)
open Go.Tok
set_option maxRecDepth 100000
def qaD(s:Str):List TokC:=(sourceE (sp 11++s) false).1
def qcd:List MemC:=[⟨[65],qaD [48,53,32,88,32,80,73,67,32,57,40,51,41,46]⟩,⟨[66],qaD [48,49,32,82,46,32,67,79,80,89,32,65,32,82,69,80,76,65,67,73,78,71,32,88,32,66,89,32,89,46]⟩]
end Go.Cop
namespace Go.Cop
open Go.Col Go.Tok
end Go.Cop
namespace Go.Proofs.YtlhhaagmakhilaaGreatDoor
open Go.AM
open Go.Proofs
open Go.Col
open Go.Tok
open Go.Cop
open Go.RowKit (Below)
set_option maxRecDepth 100000
theorem noT_bad:noT=UL:=rfl
def kinC(k:UInt8):List AVal:=[.int .u8 k.toNat]
theorem kin_len{w0:World}{h:AHeap}{v:AVal}{ks:List UInt8}(hv:IsL w0 h 1 v (ks.map kinC)):∀H:AHeap,ZE Tryz.prog H 159 v=⟨True, .int .i64 ks.length⟩:=by
 have:=hv.len Tryz.underlying159
 rwa [List.length_map]at this
theorem kin_open{w0:World}{h:AHeap}{v:AVal}{ks:List UInt8}(hv:IsL w0 h 1 v (ks.map kinC))(hn:0<ks.length):∃lc o c,v= .slice lc o ks.length c:=by
 obtain⟨lc,o,c,e⟩:=hv.open (fun e=>by rw[List.map_eq_nil_iff]at e;subst e;simp at hn);rw[List.length_map]at e;exact⟨lc,o,c,e⟩
theorem kin_at{w0:World}{h:AHeap}{ks:List UInt8}{lc:AM.Loc}{o:Nat}{c:Cap}(hv:IsL w0 h 1 (.slice lc o ks.length c) (ks.map kinC)){i:Nat}(hi:i<ks.length):rd w0 h lc (o+i*1)= .int .u8 (ks.getD i 0).toNat:=by
 have he:=hv.at0 (i:=i) (by rw[List.length_map];exact hi) (by decide);rw[getD_map (ys:=ks) 0 hi]at he;exact he
theorem c_indexK(w0:World)(h:AHeap)(v:AVal)(ks:List UInt8)(x:UInt8)(hv:IsL w0 h 1 v (ks.map kinC))(hl:ks.length<=1000):
 ACall Tryz.prog w0 114 [v, .int .u8 x.toNat] h (fun r h'=>(∃n:Int,r= .int .i64 n/\decide (0<=n)=ks.contains x)/\h'=h):=by
 have hlv:=hv.live;have nv:=kin_len hv;refine qR (n:=19) (rs:=[.tmp 4]) Tryz.func114 rfl rfl rfl rfl (Nat.le_of_ble_eq_true rfl) ?_;simp only[Qc];refine awp_rseq [0,1] (by rfl) fun K hK=>?_;simp+decide only[qa,ev,qJ,qG,putD,Slots.put,Slots.keep,if_true,if_false,true_and,↓qd,qb,Nat.zero_add];apply hK;clear hK K;refine qO ?_;refine awp_rseq [0,1,7,8] (by rfl) fun K hK=>?_;simp+decide only[qa,ev,qJ,qG,putD,Slots.put,Slots.get,Slots.keep,if_true,if_false,true_and,↓qj,qf,↓XA,QK,nv];apply hK;clear hK K;refine QB ?_;refine XH [0,1,7,8] (fun i:Nat=>[(0,v),(1, .int .u8 x.toNat),(7, .int .i64 ks.length),(8, .int .i64 i)]) (fun i:Nat=>h) (fun i:Nat=>i<=ks.length/\(ks.take i).contains x=false) (fun i:Nat=>ks.length-i) 0 (by rfl) (Sub.refl _) ⟨Nat.zero_le _,by simp⟩ ?_;rintro i ⟨hi,hq⟩;refine awp_rseq [0,1,7,8,9] (by rfl) fun K hK=>?_;simp+decide only[qa,ev,putD,Slots.put,Slots.get,Slots.keep,if_true,if_false,true_and,↓qC,qo,qZ,cond_false,qz,Zd];apply hK;clear hK K;refine qO (qL (b:=_) rfl (fun hb1=>?_) (fun hb1=>?_))
 ·try simp only[decide_eq_true_eq]at hb1
  have hi':i<ks.length:=by omega
  obtain⟨lc,o,c,rfl⟩:=kin_open hv (by omega);have e0:=kin_at hv hi';rw[Nat.mul_one]at e0;refine Qa ?_;change Awp _ _ _ _ _ _ _;refine qO ?_;refine QB ?_;refine awp_rseq [0,1,5,7,8] (by rfl) fun K hK=>?_;simp+decide only[qa,ev,putD,Slots.put,Slots.get,Slots.keep,if_true,if_false,true_and,↓qj,qf,↓qd,qb];apply hK;clear hK K;refine awp_rseq [0,1,5,7,8,16] (by rfl) fun K hK=>?_;simp+decide only[qa,ev,putD,Slots.put,Slots.get,Slots.keep,if_true,if_false,true_and,↓qj,qf,↓Xi,Qb,Qs Tryz.underlying159 sz52,↓qF,qy ag52,↓qC,qo,qZ,cond_false,qz,XD,qh,e0,Int.toNat_natCast,Nat.mul_one];repeat (with_reducible refine And.intro ?_ ?_;· first|trivial|omega|(intro hg;simp only[Bool.and_eq_true,Bool.or_eq_true,Bool.not_eq_true',Bool.and_eq_false_iff,Bool.or_eq_false_iff,Bool.not_eq_false',decide_eq_true_eq,decide_eq_false_iff_not,Zt]at hg;omega))
  apply hK;clear hK K;refine qL (b:=_) rfl (fun hb2=>?_) (fun hb2=>?_)
  ·try simp only[decide_eq_true_eq]at hb2
   refine awp_rseq [4] (by rfl) fun K hK=>?_;simp+decide only[qa,ev,putD,Slots.put,Slots.get,Slots.keep,if_true,if_false,true_and,↓qj,qf,↓qd,qb];apply hK;clear hK K;refine qN ?_;try simp only[Qf,Qr]
   refine qU h (by repeat (first|exact Sub.refl _|assumption|refine Sub.trans_set ?_ (by assumption))) (qY (Qe)) ?_;simp+decide only[Slots.get,if_true,and_true,Qv];refine⟨i,rfl,?_⟩;have hx:x=ks.getD i 0:=UInt8.toNat_inj.1 (by omega);have hm:ks.contains x=true:=by
    rw[List.contains_iff_mem,hx,List.getD,List.getElem?_eq_getElem hi'];exact List.getElem_mem hi'
   rw[hm,decide_eq_true_eq];omega
  ·try simp only[decide_eq_false_iff_not]at hb2
   refine Qa ?_;change Awp _ _ _ _ _ _ _;refine XK [0,1,7,8] (by rfl) ?_;simp+decide only[qa,ev,qJ,qG,putD,Slots.put,Slots.get,Slots.keep,if_true,if_false,true_and,↓qC,qo,qD,cond_false,qz,Xf,↓qj,qf];try simp(disch:=omega)only[wrap_i64]
   try simp only[Ql]
   refine⟨i+1,rfl,Sub.refl _,⟨hi',?_⟩,by omega⟩;rw[List.take_add_one,List.getElem?_eq_getElem hi'];have hx:ks[i]≠x:=fun e=>hb2 (by rw[List.getD,List.getElem?_eq_getElem hi',<-e];rfl);simp only[Option.toList_some,List.contains_eq_mem,List.mem_append,List.mem_singleton,decide_eq_false_iff_not,not_or]at hq|-
   exact⟨hq,fun e=>hx e.symm⟩
 ·try simp only[decide_eq_false_iff_not]at hb1
  refine XL ?_;change Awp _ _ _ _ _ _ _;refine awp_rseq [4] (by rfl) fun K hK=>?_;simp+decide only[qa,ev,qJ,qG,putD,Slots.put,Slots.keep,if_true,if_false,true_and,↓qd,qb];apply hK;clear hK K;refine qN ?_;refine qU h (by repeat (first|exact Sub.refl _|assumption|refine Sub.trans_set ?_ (by assumption))) (qY (Qe)) ?_;simp+decide only[Slots.get,if_true,and_true,Qv];refine⟨-1,rfl,?_⟩;rw[List.take_of_length_le (by omega)]at hq;rw[hq];rfl
theorem c_containsK(w0:World)(h:AHeap)(v:AVal)(ks:List UInt8)(x:UInt8)(hv:IsL w0 h 1 v (ks.map kinC))(hl:ks.length<=1000):
 ACall Tryz.prog w0 84 [v, .int .u8 x.toNat] h (fun r h'=>r= .bool (ks.contains x)/\h'=h):=by
 have hlv:=hv.live;refine qR (n:=9) (rs:=[.tmp 4]) Tryz.func84 rfl rfl rfl rfl (Nat.le_of_ble_eq_true rfl) ?_;simp only[Qc];refine awp_rseq [0,1] (by rfl) fun K hK=>?_;simp+decide only[qa,ev,qJ,qG,putD,Slots.put,Slots.keep,if_true,if_false,true_and,↓qd,qb,Nat.zero_add];apply hK;clear hK K;refine awp_rseq [4] (by rfl) fun K hK=>?_;simp+decide only[ev,putD,Slots.put,Slots.get,if_true,if_false,true_and,↓qj,qf];refine QI (by rfl) (by rfl) (c_indexK w0 _ v ks x hv hl) fun x1q2 h1q2 hx1q2=>?_;obtain⟨⟨n,rfl,hn⟩,he⟩:=hx1q2;subst h1q2;simp+decide only[qa,ev,qJ,qG,putD,Slots.put,Slots.get,Slots.keep,if_true,if_false,true_and,↓qC,qo,qD,cond_false,qz,qaw,↓qd,qb];apply hK;clear hK K;refine qN ?_;refine qU h (by repeat (first|exact Sub.refl _|assumption|refine Sub.trans_set ?_ (by assumption))) (qY (Qe)) ?_;simp+decide only[Slots.get,if_true,and_true,Qv];rw[<-hn]
def parB(v:AVal)(i:Nat):Blk:=⟨[v, .int .i64 i],0⟩
theorem c_isIn(w0:World)(h:AHeap)(kp:Nat)(v:AVal)(l:List TokC)(i:Nat)(kv:AVal)(ks:List UInt8)(hk:h kp=some (parB v i))(hv:IsL w0 h 5 v (l.map Xv))(hkv:IsL w0 h 1 kv (ks.map kinC))(hks:ks.length<=1000)(hi:i<l.length):
 ACall Tryz.prog w0 66 [.ptr (.own kp) 0,kv] h (fun r h'=>r= .bool (Xw l i ks)/\h'=h):=by
 have rx:=fun o=>Qp w0 hk o;unfold parB at rx;have hlv:=hv.live;have hlk:=hkv.live;have nv:=Za hv;obtain⟨lc,o,c,rfl⟩:=qan hv (by omega);obtain⟨e0,-,-,-,-⟩:=qcn hv hi;have hki:Xw l i ks=ks.contains (l.getD i noT).kind:=by unfold Xw;rw[decide_eq_true hi,Bool.true_and]
 rw[hki,noT_bad];refine qR (n:=30) (rs:=[.tmp 4]) Tryz.func66 rfl rfl rfl rfl (Nat.le_of_ble_eq_true rfl) ?_;simp only[Qc];refine awp_rseq [0,1] (by rfl) fun K hK=>?_;simp+decide only[qa,ev,qJ,qG,putD,Slots.put,Slots.keep,if_true,if_false,true_and,↓qd,qb,Nat.zero_add];apply hK;clear hK K;refine Wv [4] mixed (by kernel_rfl) (by rfl) fun K hK=>?_;simp+decide only[ev,putD,Slots.put,Slots.get,if_true,if_false,true_and,↓qck,qf,↓qbz,qK,Qj,↓WV,ql,Yu,↓vp_load,Zr,qy ag3,Us,qy UK,↓vp_len,QK,XV Tryz.underlying26,↓vp_binOp,qo,qZ,cond_false,qz,Zd,↓vg_move,vgP,qbU,qI,qH,qw,implies_true,↓qcW,qbr,qbs,↓Uy,Zv,Zw,↓vg_load,Ui,cv_load,cp_load,↓vg_indexAddr,Qs Tryz.underlying26 Xg,cv_iaddrl,cv_iaddrr,cp_iaddrl,cp_iaddrr,fa54_0,qy ag52,List.getD_cons_zero,List.getD_cons_succ,Nat.zero_add,qh,rx,hlv,e0,Int.toNat_natCast,Nat.add_zero];repeat (with_reducible refine And.intro ?_ ?_;· first|trivial|omega|(intro hg;simp only[Bool.and_eq_true,Bool.or_eq_true,Bool.not_eq_true',Bool.and_eq_false_iff,Bool.or_eq_false_iff,Bool.not_eq_false',decide_eq_true_eq,decide_eq_false_iff_not,Zt]at hg;omega))
 refine qcl (V:= .bool (ks.contains (l.getD i UL).kind)) (f:=_) (cap:=_) (xs:=_) (by first|rfl|(simp+decide only[gv,qI,Slots.get,if_true,if_false,QO,qH])) (fun hg=>⟨rfl,?_⟩) (fun hg=>c_containsK w0 _ kv ks _ hkv hks) ?_
 ·try simp+decide only[gv,qI,Slots.get,if_true,if_false,qw]at hg
  simp+decide only[evs,ev,Slots.get,if_true,if_false,hg,Qm,List.append_nil,List.map_cons,List.map_nil]
 simp+decide only[qaY,ev,qJ,qG,putD,Slots.put,Slots.get,Slots.keep,if_true,if_false,true_and,gv,qI,qw,↓vp_pick,Qt,Qg,Xj,Xk,↓qbT,qb];apply hK;clear hK K;refine qN ?_;refine qU h (by repeat (first|exact Sub.refl _|assumption|refine Sub.trans_set ?_ (by assumption))) (qY (Qe)) ?_;simp+decide only[Slots.get,if_true,and_true,Qv];rw[decide_eq_true (by omega),Bool.true_and]
theorem c_isOut(w0:World)(h:AHeap)(kp:Nat)(v:AVal)(l:List TokC)(i:Nat)(kv:AVal)(ks:List UInt8)(hk:h kp=some (parB v i))(hv:IsL w0 h 5 v (l.map Xv))(hlk:kv.live=true)(hi:¬i<l.length):
 ACall Tryz.prog w0 66 [.ptr (.own kp) 0,kv] h (fun r h'=>r= .bool (Xw l i ks)/\h'=h):=by
 have rx:=fun o=>Qp w0 hk o;unfold parB at rx;have hlv:=hv.live;have nv:=Za hv;have hki:Xw l i ks=false:=by unfold Xw;rw[decide_eq_false hi,Bool.false_and]
 rw[hki];have hge:¬((i:Int)<l.length):=by omega
 refine qR (n:=30) (rs:=[.tmp 4]) Tryz.func66 rfl rfl rfl rfl (Nat.le_of_ble_eq_true rfl) ?_;simp only[Qc];refine awp_rseq [0,1] (by rfl) fun K hK=>?_;simp+decide only[qa,ev,qJ,qG,putD,Slots.put,Slots.keep,if_true,if_false,true_and,↓qd,qb,Nat.zero_add];apply hK;clear hK K;refine Wv [4] mixed (by kernel_rfl) (by rfl) fun K hK=>?_;simp+decide only[ev,putD,Slots.put,Slots.get,if_true,if_false,true_and,↓qck,qf,↓qbz,qK,Qj,↓WV,ql,Yu,↓vp_load,Zr,qy ag3,Us,qy UK,↓vp_len,QK,↓vp_binOp,qo,qZ,cond_false,qz,Zd,↓vg_move,vgP,qbU,qI,qH,qw,implies_true,decide_false,Zo,false_implies,↓qcW,↓Uy,↓vg_load,Ui,↓vg_indexAddr,List.getD_cons_zero,List.getD_cons_succ,Nat.zero_add,qh,rx,hlv,nv,hge];refine vOps_gno (by rfl) ?_;simp+decide only[qaY,ev,qJ,qG,putD,Slots.put,Slots.get,Slots.keep,if_true,if_false,true_and,↓vp_pick,Qt,Qg,↓qbT,qb];apply hK;clear hK K;refine qN ?_;refine qU h (by repeat (first|exact Sub.refl _|assumption|refine Sub.trans_set ?_ (by assumption))) (qY (Qe)) ?_;simp+decide only[Slots.get,if_true,and_true,Qv];all_goals first|rfl|exact⟨rfl,rfl⟩|(simp+decide only[if_true,if_false, *];done)|(trace_state;fail)
theorem c_is(w0:World)(h:AHeap)(kp:Nat)(v:AVal)(l:List TokC)(i:Nat)(kv:AVal)(ks:List UInt8)(hk:h kp=some (parB v i))(hv:IsL w0 h 5 v (l.map Xv))(hkv:IsL w0 h 1 kv (ks.map kinC))(hks:ks.length<=1000):
 ACall Tryz.prog w0 66 [.ptr (.own kp) 0,kv] h (fun r h'=>r= .bool (Xw l i ks)/\h'=h):=by
 by_cases hi:i<l.length
 ·exact c_isIn w0 h kp v l i kv ks hk hv hkv hks hi
 ·exact c_isOut w0 h kp v l i kv ks hk hv hkv.live hi
end Go.Proofs.YtlhhaagmakhilaaGreatDoor
namespace Go.Proofs.YtlhhaagmakhilaaGreatDoor
open Go.AM
open Go.Proofs
open Go.Col
open Go.Tok
open Go.Cop
open Go.RowKit (Below)
set_option maxRecDepth 100000
theorem set_id{h:AHeap}{k:Nat}{b:Blk}(hk:h k=some b):h.set k b=h:=by
 funext j;by_cases e:j=k
 ·subst e;rw[AHeap.set_same,hk]
 ·rw[AHeap.set_ne _ _ e]
theorem qaL{w0:World}{H:AHeap}{k:Nat}{ks:List UInt8}(hk:H k=some ⟨byteCells ks,0⟩):IsL w0 H 1 (.slice (.own k) 0 ks.length (.exact ks.length)) (ks.map kinC):=by
 have hw:∀x∈ks.map kinC,x.length=1:=fun x hx=>by obtain⟨y,_,rfl⟩:=List.mem_map.1 hx;rfl
 have hc:byteCells ks=(ks.map kinC).flatten:=by
  clear hk hw;induction ks with
  |nil=>rfl
  |cons k ks ih=>rw[List.map_cons,List.flatten_cons,<-ih];rfl
 have:=IsL.own (w0:=w0) (es:=1) (xs:=ks.map kinC) hk hw hc (by rw[Yd];intro x hx;obtain⟨y,_,rfl⟩:=List.mem_map.1 hx;rfl) (.exact ks.length) (by simp)
 rwa [List.length_map]at this
theorem c_wordPIn(w0:World)(h:AHeap)(kp:Nat)(v:AVal)(l:List TokC)(i:Nat)(s:Str)(eb_p:h kp=some ⟨[v, .int .i64 i],0⟩)(hv:IsL w0 h 5 v (l.map Xv))(hl:l.length<=1099511627776)(hi:i<l.length):
 ACall Tryz.prog w0 51 [.ptr (.own kp) 0, .str s] h (fun r h'=>r= .bool (Zl l i s)/\h'=h.set kp ⟨[v, .int .i64 ((if Zl l i s=true then i+1 else i:Nat):Int)],0⟩):=by
 have hs_h:Sub h h:=Sub.refl h;have hlv:=hv.live;have nv:=Za hv;obtain⟨lc,o,c,rfl⟩:=qan hv (by omega);have hki:Zl l i s=(Xw l i [1] && decide ((l.getD i UL).text=s)):=rfl;obtain⟨kb,hkb⟩:∃kb,kb=Xw l i [1]:=⟨_,rfl⟩
 rw[<-hkb]at hki;rw[hki];refine qR (n:=31) (rs:=[.tmp 4]) Tryz.func51 rfl rfl rfl rfl (Nat.le_of_ble_eq_true rfl) ?_;simp only[Qc];refine awp_rseq [0,1] (by rfl) fun K hK=>?_;simp+decide only[qa,ev,qJ,qG,putD,Slots.put,Slots.keep,if_true,if_false,true_and,↓qd,qb,Nat.zero_add];apply hK;clear hK K;refine qO ?_;refine qcM [0,1,2,3,4,5,6,7,8,9,10,11,12,13,14,15,16,17,18] [none,none,some 1,some 2,some 3,some 4,some 5,some 6,some 7,some 4,some 9,some 10,some 11,some 8,some 13,some 14,some 4,some 15,some 4] 19 [0,23] mixed (by kernel_rfl) (by rfl) fun K hK=>?_;simp only[Ut,List.filterMap_cons,List.filterMap_nil,List.getElem?_cons_zero,List.getElem?_cons_succ];simp+decide only[qa,ev,putD,Slots.put,Slots.get,if_true,if_false,true_and,qaU,qbn,qas,↓qj,qf];refine QC (cs:=byteCells [1]) (by kernel_rfl) fun k1q1 hk1q1=>?_;have hn_1q1:h k1q1=none:=by first|assumption|(simp only[AHeap.set_none]at hk1q1;simp only[hk1q1])
 have hf_1q1:h k1q1=none:=Sub.none hs_h hn_1q1;have ne_1q1_p:k1q1≠kp:=AHeap.ne_some hn_1q1 eb_p;rw[qa];refine And.intro (by first|exact Sub.refl _|assumption|exact Sub.set (by assumption)) ?_;simp+decide only[putD,Slots.put,if_false];refine qM (V:= .bool kb) (by rfl) (by rfl) (by rw[hkb];exact c_is w0 _ kp _ l i _ [1] (by repeat (first|exact AHeap.set_same _ _ _|assumption|refine(AHeap.set_ne _ _ (by first|assumption|exact Ne.symm (by assumption))).trans ?_)) (hv.mono (by repeat (first|exact Sub.refl _|assumption|refine Sub.set_both ?_ _ _|refine Sub.trans_set ?_ (by repeat (first|assumption|refine(AHeap.set_ne _ _ (by first|assumption|exact Ne.symm (by assumption))).trans ?_))))) (qaL (k:=k1q1) (ks:=[1]) (by repeat (first|exact AHeap.set_same _ _ _|assumption|refine(AHeap.set_ne _ _ (by first|assumption|exact Ne.symm (by assumption))).trans ?_))) (by decide)) ?_;rw[qa];refine And.intro (by first|exact Sub.refl _|assumption|exact Sub.set (by assumption)) ?_;simp+decide only[qa,ev,qJ,qG,putD,Slots.put,Slots.get,Slots.keep,if_true,if_false,true_and,qas,↓Yi,XE,ZY,qf,↓Xc,agP,Qu,qI,qH,Qd,implies_true,Bool.not_not,↓ZZ,qK,Qj,qbr,qbs,↓Xn,ql,Us,Zv,Zw,↓Zb,XI,Wy,agL_ld5,qy UK,Yu,qy ag3,↓Yo,agL_il5,agL_ir5,Qs Tryz.underlying26 Xg,qae,qy ag9,↓Xd,qo,qZ,cond_false,Zf,qbG,Zg,qbH,Zp,pS_neq,↓QP,Qt,Qg,pickV_cond_rn,ZR,QU,ne_eq,not_false_eq_true,ne_1q1_p.symm,Qp w0 eb_p,List.getD_cons_zero,List.getD_cons_succ,Nat.zero_add,qh,qE,hlv,Int.toNat_natCast,Nat.add_zero,(qcn (hv.mono (Sub.set hn_1q1)) hi).2.1];repeat (with_reducible refine And.intro ?_ ?_;· first|trivial|omega|(intro hg;simp only[Bool.and_eq_true,Bool.or_eq_true,Bool.not_eq_true',Bool.and_eq_false_iff,Bool.or_eq_false_iff,Bool.not_eq_false',decide_eq_true_eq,decide_eq_false_iff_not,Zt]at hg;omega))
 apply hK;clear hK K;refine qL (b:=_) rfl (fun hb1=>?_) (fun hb1=>?_)
 ·try simp only[decide_eq_false_iff_not,Bool.not_eq_true',Bool.or_eq_true]at hb1
  refine awp_rseq [4] (by rfl) fun K hK=>?_;simp+decide only[qa,ev,qJ,qG,putD,Slots.put,Slots.keep,if_true,if_false,true_and,↓qd,qb];apply hK;clear hK K;refine qN ?_;try simp only[Qf]
  refine QN (qY (Qe)) ?_;simp+decide only[Slots.get,if_true,Qv];have hf:(kb && decide ((l.getD i UL).text=s))=false:=by
   rcases hb1 with q|q
   ·rw[q];rfl
   ·rw[decide_eq_false q,Bool.and_false]
  exact⟨h,Sub.set hn_1q1,by rw[hf],by rw[hf];exact(set_id eb_p).symm⟩
 ·try simp only[decide_eq_true_eq,Bool.not_eq_false',Bool.or_eq_false_iff]at hb1
  refine Qa ?_;change Awp _ _ _ _ _ _ _;refine awp_rseq [] (by rfl) fun K hK=>?_;simp+decide only[ev,qJ,qG,putD,Slots.put,Slots.get,if_true,if_false,true_and,↓qj,qf,↓Qh,qK,Qj,↓qA,ql,Yu,↓qF,Qb,qy ag3,↓qC,qo,qD,cond_false,qz,Xf,QU,ne_eq,not_false_eq_true,ne_1q1_p.symm,Qp w0 eb_p,List.getD_cons_zero,List.getD_cons_succ,Nat.zero_add,qh];try simp(disch:=omega)only[wrap_i64]
  refine qm (by rfl) (by rfl) (by repeat (first|exact AHeap.set_same _ _ _|assumption|refine(AHeap.set_ne _ _ (by first|assumption|exact Ne.symm (by assumption))).trans ?_)) sz3 (by rfl) (by rfl) (by first|exact Nat.le_refl _|decide|(simp;done)|(simp;omega)) (Nat.zero_le _) (by rfl) ?_;simp only[AVal.cells];simp+decide only[qa,ev,putD,Slots.get,Slots.keep,if_true,if_false,setAt,List.set_cons_zero,List.set_cons_succ];apply hK;clear hK K;refine awp_rseq [4] (by rfl) fun K hK=>?_;simp+decide only[qa,ev,qJ,qG,putD,Slots.put,Slots.keep,if_true,true_and,↓qd,qb];apply hK;clear hK K;refine qN ?_;refine QN (qY (Qe)) ?_;simp+decide only[Slots.get,if_true,Qv];have hf:(kb && decide ((l.getD i UL).text=s))=true:=by
   simp only[Bool.and_eq_true,decide_eq_true_eq];simpa using hb1
  exact⟨h.set kp ⟨[.slice lc o l.length c, .int .i64 ((i+1:Nat):Int)],0⟩,Sub.set_both (Sub.set hn_1q1) _ _,by rw[hf],by rw[hf];rfl⟩
theorem c_wordPOut(w0:World)(h:AHeap)(kp:Nat)(v:AVal)(l:List TokC)(i:Nat)(s:Str)(eb_p:h kp=some ⟨[v, .int .i64 i],0⟩)(hv:IsL w0 h 5 v (l.map Xv))(hi:¬i<l.length):
 ACall Tryz.prog w0 51 [.ptr (.own kp) 0, .str s] h (fun r h'=>r= .bool (Zl l i s)/\h'=h.set kp ⟨[v, .int .i64 ((if Zl l i s=true then i+1 else i:Nat):Int)],0⟩):=by
 have hs_h:Sub h h:=Sub.refl h;have hlv:=hv.live;have nv:=Za hv;have hk0:Xw l i [1]=false:=by unfold Xw;rw[decide_eq_false hi,Bool.false_and]
 have hki:Zl l i s=false:=by unfold Zl;rw[hk0,Bool.false_and]
 rw[hki];refine qR (n:=31) (rs:=[.tmp 4]) Tryz.func51 rfl rfl rfl rfl (Nat.le_of_ble_eq_true rfl) ?_;simp only[Qc];refine awp_rseq [0,1] (by rfl) fun K hK=>?_;simp+decide only[qa,ev,qJ,qG,putD,Slots.put,Slots.keep,if_true,if_false,true_and,↓qd,qb,Nat.zero_add];apply hK;clear hK K;refine qO ?_;refine qcM [0,1,2,3,4,5,6,7,8,9,10,11,12,13,14,15,16,17,18] [none,none,some 1,some 2,some 3,some 4,some 5,some 6,some 7,some 4,some 9,some 10,some 11,some 8,some 13,some 14,some 4,some 15,some 4] 19 [0,23] mixed (by kernel_rfl) (by rfl) fun K hK=>?_;simp only[Ut,List.filterMap_cons,List.filterMap_nil,List.getElem?_cons_zero,List.getElem?_cons_succ];simp+decide only[qa,ev,putD,Slots.put,Slots.get,if_true,if_false,true_and,qaU,qbn,qas,↓qj,qf];refine QC (cs:=byteCells [1]) (by kernel_rfl) fun k1q1 hk1q1=>?_;have hn_1q1:h k1q1=none:=by first|assumption|(simp only[AHeap.set_none]at hk1q1;simp only[hk1q1])
 have hf_1q1:h k1q1=none:=Sub.none hs_h hn_1q1;have ne_1q1_p:k1q1≠kp:=AHeap.ne_some hn_1q1 eb_p;rw[qa];refine And.intro (by first|exact Sub.refl _|assumption|exact Sub.set (by assumption)) ?_;simp+decide only[putD,Slots.put,if_false];refine qM (V:= .bool false) (by rfl) (by rfl) (by rw[<-hk0];exact c_is w0 _ kp _ l i _ [1] (by repeat (first|exact AHeap.set_same _ _ _|assumption|refine(AHeap.set_ne _ _ (by first|assumption|exact Ne.symm (by assumption))).trans ?_)) (hv.mono (by repeat (first|exact Sub.refl _|assumption|refine Sub.set_both ?_ _ _|refine Sub.trans_set ?_ (by repeat (first|assumption|refine(AHeap.set_ne _ _ (by first|assumption|exact Ne.symm (by assumption))).trans ?_))))) (qaL (k:=k1q1) (ks:=[1]) (by repeat (first|exact AHeap.set_same _ _ _|assumption|refine(AHeap.set_ne _ _ (by first|assumption|exact Ne.symm (by assumption))).trans ?_))) (by decide)) ?_;rw[qa];refine And.intro (by first|exact Sub.refl _|assumption|exact Sub.set (by assumption)) ?_;simp+decide only[qa,ev,qJ,qG,putD,Slots.put,Slots.get,Slots.keep,if_true,if_false,true_and,qas,↓Yi,XE,ZY,qf,↓Xc,agP,Qu,qI,qH,Qd,implies_true,Bool.not_false,Bool.not_true,Zo,false_implies,qcz,agL_deadT,↓ZZ,qK,↓Xn,ql,↓Zb,XI,↓Yo,↓Xd,qo,qZ,cond_false,↓QP,Qt,Qg];apply hK;clear hK K;refine qL (b:=_) rfl (fun hb1=>?_) (fun hb1=>?_)
 ·try simp only at hb1
  refine awp_rseq [4] (by rfl) fun K hK=>?_;simp+decide only[qa,ev,qJ,qG,putD,Slots.put,Slots.keep,if_true,if_false,true_and,↓qd,qb];apply hK;clear hK K;refine qN ?_;try simp only[Qf]
  refine qU h (by repeat (first|exact Sub.refl _|assumption|refine Sub.trans_set ?_ (by assumption))) (qY (Qe)) ?_;simp+decide only[Slots.get,if_true,if_false,true_and,Qv];exact(set_id eb_p).symm
 ·exact absurd hb1 (by decide)
theorem c_wordP(w0:World)(h:AHeap)(kp:Nat)(v:AVal)(l:List TokC)(i:Nat)(s:Str)(eb_p:h kp=some ⟨[v, .int .i64 i],0⟩)(hv:IsL w0 h 5 v (l.map Xv))(hl:l.length<=1099511627776):
 ACall Tryz.prog w0 51 [.ptr (.own kp) 0, .str s] h (fun r h'=>r= .bool (Zl l i s)/\h'=h.set kp ⟨[v, .int .i64 ((if Zl l i s=true then i+1 else i:Nat):Int)],0⟩):=by
 by_cases hi:i<l.length
 ·exact c_wordPIn w0 h kp v l i s eb_p hv hl hi
 ·exact c_wordPOut w0 h kp v l i s eb_p hv hi
end Go.Proofs.YtlhhaagmakhilaaGreatDoor
namespace Go.Proofs.YtlhhaagmakhilaaGreatDoor
open Go.AM
open Go.Proofs
open Go.Col
open Go.Tok
open Go.Cop
open Go.RowKit (Below)
set_option maxRecDepth 100000
def operV(v:AVal)(o:Opd):AVal:=if o.ok=true then subL 5 v o.lo o.hi else .nilSlice
theorem pseudo_step{l:List TokC}{i:Nat}(hi:i<l.length):(Xy l i=if (l.getD i noT).kind=7 then i else Xy l (i+1)):=by
 unfold Xy;rw[drop_cons noT hi,List.takeWhile_cons];split
 ·rename_i h
  rw[if_neg (by simpa using h),List.length_cons];omega
 ·rename_i h
  rw[if_pos (by simpa using h)];rfl
theorem pseudo_end{l:List TokC}{i:Nat}(hi:l.length<=i):Xy l i=i:=by
 unfold Xy;rw[List.drop_eq_nil_of_le hi];rfl
theorem kind_seven{l:List TokC}{i:Nat}(hi:i<l.length):Xw l i [7]=decide ((l.getD i noT).kind=7):=by
 unfold Xw;rw[decide_eq_true hi,Bool.true_and];simp
set_option maxHeartbeats 1000000 in
theorem c_operandB(w0:World)(B:AHeap)(kp:Nat)(v:AVal)(l:List TokC)(i:Nat)(e:Bool)(hb:B kp=none)(hv:IsL w0 B 5 v (l.map Xv))(hl:l.length<=1099511627776)(hi:i<=l.length):
 ACall Tryz.prog w0 85 [.ptr (.own kp) 0, .bool e] (B.set kp ⟨[v, .int .i64 i],0⟩) (fun r h'=>r= .tuple [operV v (Qy l i e), .bool (Qy l i e).ok]/\h'=B.set kp ⟨[v, .int .i64 (Qy l i e).at_],0⟩):=by
 have hlv:=hv.live;have nv:=Za hv;obtain⟨H0,hH0⟩:∃H0,H0=B.set kp ⟨[v, .int .i64 i],0⟩:=⟨_,rfl⟩
 have hs_H0:Sub B H0:=by rw[hH0];exact Sub.set hb
 have eb_p:H0 kp=some ⟨[v, .int .i64 i],0⟩:=by rw[hH0];exact AHeap.set_same _ _ _
 rw[<-hH0];obtain⟨k1,hk1⟩:∃k,k=Xw l i [1,2,3]:=⟨_,rfl⟩
 obtain⟨k2,hk2⟩:∃k,k=Xw l i [7]:=⟨_,rfl⟩
 obtain⟨O,ho⟩:∃O,O=Qy l i e:=⟨_,rfl⟩
 rw[<-ho];unfold Qy at ho;rw[<-hk1,<-hk2]at ho;refine qR (n:=107) (rs:=[.tmp 4, .tmp 5]) Tryz.func85 rfl rfl rfl rfl (Nat.le_of_ble_eq_true rfl) ?_;simp only[Qc];refine awp_rseq [0,1] (by rfl) fun K hK=>?_;simp+decide only[qa,ev,qJ,qG,putD,Slots.put,Slots.keep,if_true,if_false,true_and,↓qd,qb,Nat.zero_add];apply hK;clear hK K;refine awp_rseq [0,1,6] (by rfl) fun K hK=>?_;simp+decide only[qa,ev,putD,Slots.put,Slots.get,Slots.keep,if_true,if_false,true_and,↓qj,qf,↓Qh,qK,Qj,↓qA,ql,Yu,↓qF,Qb,qy ag3,↓qd,qb,Qp w0 eb_p,List.getD_cons_zero,List.getD_cons_succ,Nat.zero_add,qh];apply hK;clear hK K;refine qO ?_;refine awp_rseq [0,1,6,13] (by rfl) fun K hK=>?_;simp+decide only[ev,putD,Slots.put,Slots.get,if_true,if_false,true_and,↓qj,qf];refine QC (cs:=byteCells [1,2,3]) (by kernel_rfl) fun k2q1 hk2q1=>?_;have hn_2q1:H0 k2q1=none:=by first|assumption|(simp only[AHeap.set_none]at hk2q1;simp only[hk2q1])
 have hf_2q1:B k2q1=none:=Sub.none hs_H0 hn_2q1;have ne_2q1_p:k2q1≠kp:=AHeap.ne_some hn_2q1 eb_p;refine qM (V:= .bool k1) (by rfl) (by rfl) (by rw[hk1];exact c_is w0 _ kp _ l i _ [1,2,3] (by repeat (first|exact AHeap.set_same _ _ _|assumption|refine(AHeap.set_ne _ _ (by first|assumption|exact Ne.symm (by assumption))).trans ?_)) (hv.mono (by repeat (first|exact Sub.refl _|assumption|refine Sub.set_both ?_ _ _|refine Sub.trans_set ?_ (by repeat (first|assumption|refine(AHeap.set_ne _ _ (by first|assumption|exact Ne.symm (by assumption))).trans ?_))))) (qaL (k:=k2q1) (ks:=[1,2,3]) (by repeat (first|exact AHeap.set_same _ _ _|assumption|refine(AHeap.set_ne _ _ (by first|assumption|exact Ne.symm (by assumption))).trans ?_))) (by decide)) ?_;simp+decide only[qa,putD,Slots.put,Slots.keep,if_true,if_false];apply hK;clear hK K;refine qL (b:=_) rfl (fun hb1=>?_) (fun hb1=>?_)
 ·skip
  have hlt:i<l.length:=ZU (hk1.symm.trans hb1);have hsl:=hv.slice Tryz.underlying26 Xg (some (.int .i64 i)) (some (.int .i64 ((i:Int)+1))) (l:=i) (r:=(i:Int)+1) rfl rfl (by omega) (by omega) (by rw[List.length_map];omega);refine awp_rseq [0,6] (by rfl) fun K hK=>?_;simp+decide only[ev,qJ,qG,putD,Slots.put,Slots.get,if_true,if_false,true_and,↓qj,qf,↓Qh,qK,Qj,↓qA,ql,Yu,↓qF,Qb,qy ag3,↓qC,qo,qD,cond_false,qz,Xf,QU,ne_eq,not_false_eq_true,ne_2q1_p.symm,Qp w0 eb_p,List.getD_cons_zero,List.getD_cons_succ,Nat.zero_add,qh];try simp(disch:=omega)only[wrap_i64]
  refine qm (by rfl) (by rfl) (by repeat (first|exact AHeap.set_same _ _ _|assumption|refine(AHeap.set_ne _ _ (by first|assumption|exact Ne.symm (by assumption))).trans ?_)) sz3 (by rfl) (by rfl) (by first|exact Nat.le_refl _|decide|(simp;done)|(simp;omega)) (Nat.zero_le _) (by rfl) ?_;simp only[AVal.cells];simp+decide only[qa,ev,putD,Slots.get,Slots.keep,if_true,if_false,setAt,List.set_cons_zero,List.set_cons_succ];apply hK;clear hK K;refine Zh [4,5] mixed (by kernel_rfl) (by rfl) (by rfl) fun K hK=>?_;simp+decide only[qa,ev,qJ,qG,putD,Slots.put,Slots.get,Slots.keep,if_true,if_false,true_and,↓qj,qf,↓Qh,qK,Qj,↓qA,ql,Us,↓qF,Qb,qy UK,Yu,qy ag3,↓UJ,ZK,evO,↓qd,qb,QV,List.getD_cons_zero,List.getD_cons_succ,Nat.zero_add,qh,hlv,hsl];apply hK;clear hK K;refine qN ?_;try simp only[Qf]
  refine QN (qY (qY (Qe))) ?_;simp+decide only[Slots.get,if_true,if_false,Wd];rw[if_pos hb1]at ho;refine⟨B.set kp ⟨[v, .int .i64 ((i:Int)+1)],0⟩,?_,?_,?_⟩
  ·exact Sub.set_both (by repeat (first|exact Sub.refl _|assumption|refine Sub.set_both ?_ _ _|refine Sub.trans_set ?_ (by repeat (first|assumption|refine(AHeap.set_ne _ _ (by first|assumption|exact Ne.symm (by assumption))).trans ?_)))) _ _
  ·rw[ho];rfl
  ·rw[ho];rfl
 ·skip
  refine Qa ?_;change Awp _ _ _ _ _ _ _;refine qO ?_;refine awp_rseq [0,1,6,34] (by rfl) fun K hK=>?_;simp+decide only[ev,putD,Slots.put,Slots.get,if_true,if_false,true_and,↓qj,qf];refine QC (cs:=byteCells [7]) (by kernel_rfl) fun k5q1 hk5q1=>?_;have ne_5q1_2q1:k5q1≠k2q1:=by simp only[AHeap.set_none]at hk5q1;simp only[hk5q1,ne_eq,not_false_eq_true]
  have hn_5q1:H0 k5q1=none:=by first|assumption|(simp only[AHeap.set_none]at hk5q1;simp only[hk5q1])
  have hf_5q1:B k5q1=none:=Sub.none hs_H0 hn_5q1;have ne_5q1_p:k5q1≠kp:=AHeap.ne_some hn_5q1 eb_p;refine qM (V:= .bool k2) (by rfl) (by rfl) (by rw[hk2];exact c_is w0 _ kp _ l i _ [7] (by repeat (first|exact AHeap.set_same _ _ _|assumption|refine(AHeap.set_ne _ _ (by first|assumption|exact Ne.symm (by assumption))).trans ?_)) (hv.mono (by repeat (first|exact Sub.refl _|assumption|refine Sub.set_both ?_ _ _|refine Sub.trans_set ?_ (by repeat (first|assumption|refine(AHeap.set_ne _ _ (by first|assumption|exact Ne.symm (by assumption))).trans ?_))))) (qaL (k:=k5q1) (ks:=[7]) (by repeat (first|exact AHeap.set_same _ _ _|assumption|refine(AHeap.set_ne _ _ (by first|assumption|exact Ne.symm (by assumption))).trans ?_))) (by decide)) ?_;simp+decide only[qa,ev,putD,Slots.put,Slots.get,Slots.keep,if_true,if_false,true_and,↓Yi,XE,ZY];apply hK;clear hK K;refine qL (b:=_) rfl (fun hb2=>?_) (fun hb2=>?_)
  ·try simp only[Bool.not_eq_true']at hb2
   refine awp_rseq [4,5] (by rfl) fun K hK=>?_;simp+decide only[qa,ev,qJ,qG,putD,Slots.put,Slots.keep,if_true,if_false,true_and,↓qd,qb];apply hK;clear hK K;refine qN ?_;try simp only[Qf]
   refine QN (qY (qY (Qe))) ?_;simp+decide only[Slots.get,if_true,if_false,Wd];rw[if_neg (by rw[hb1];decide),if_pos (by simpa using hb2)]at ho;refine⟨H0,(by repeat (first|exact Sub.refl _|assumption|refine Sub.set_both ?_ _ _|refine Sub.trans_set ?_ (by repeat (first|assumption|refine(AHeap.set_ne _ _ (by first|assumption|exact Ne.symm (by assumption))).trans ?_)))),?_,?_⟩
   ·rw[ho];rfl
   ·rw[ho];exact hH0
  ·try simp only[Bool.not_eq_false']at hb2
   have hlt:i<l.length:=ZU (ks:=[7]) (by rw[<-hk2];simpa using hb2);rw[if_neg (by rw[hb1];decide),if_neg (by simpa using hb2)]at ho;refine Qa ?_;change Awp _ _ _ _ _ _ _;refine awp_rseq [0,1,6] (by rfl) fun K hK=>?_;simp+decide only[ev,qJ,qG,putD,Slots.put,Slots.get,if_true,if_false,true_and,↓qj,qf,↓Qh,qK,Qj,↓qA,ql,Yu,↓qF,Qb,qy ag3,↓qC,qo,qD,cond_false,qz,Xf,QU,ne_eq,not_false_eq_true,ne_2q1_p.symm,ne_5q1_p.symm,Qp w0 eb_p,List.getD_cons_zero,List.getD_cons_succ,Nat.zero_add,qh];try simp(disch:=omega)only[wrap_i64]
   refine qm (by rfl) (by rfl) (by repeat (first|exact AHeap.set_same _ _ _|assumption|refine(AHeap.set_ne _ _ (by first|assumption|exact Ne.symm (by assumption))).trans ?_)) sz3 (by rfl) (by rfl) (by first|exact Nat.le_refl _|decide|(simp;done)|(simp;omega)) (Nat.zero_le _) (by rfl) ?_;simp only[AVal.cells];simp+decide only[qa,ev,putD,Slots.get,Slots.keep,if_true,if_false,setAt,List.set_cons_zero,List.set_cons_succ];apply hK;clear hK K;refine qO ?_;refine QB ?_;refine XH [0,1,6] (fun j:Nat=>[(0, .ptr (.own kp) 0),(1, .bool e),(6, .int .i64 i)]) (fun j:Nat=>B.set kp ⟨[v, .int .i64 j],0⟩) (fun j:Nat=>i+1<=j/\j<=l.length/\Xy l j=Xy l (i+1)) (fun j:Nat=>l.length-j) (i+1) (by rfl) (Sub.set_both (by repeat (first|exact Sub.refl _|assumption|refine Sub.set_both ?_ _ _|refine Sub.trans_set ?_ (by repeat (first|assumption|refine(AHeap.set_ne _ _ (by first|assumption|exact Ne.symm (by assumption))).trans ?_)))) _ _) ⟨Nat.le_refl _,hlt,rfl⟩ ?_;rintro j ⟨hj1,hj2,hj3⟩;obtain⟨H1,hH1⟩:∃H1,H1=B.set kp ⟨[v, .int .i64 j],0⟩:=⟨_,rfl⟩
   have hs_H1:Sub B H1:=by rw[hH1];exact Sub.set hb
   have eb_p:H1 kp=some ⟨[v, .int .i64 j],0⟩:=by rw[hH1];exact AHeap.set_same _ _ _
   rw[<-hH1];refine qO ?_;refine qcM [0,1,2,3,4,5,6,7,8,9,10,11,12,13,14,15] [none,none,none,none,none,none,none,none,none,none,none,none,none,some 12,some 13,some 14] 16 [0,1,6,57] mixed (by kernel_rfl) (by rfl) fun K hK=>?_;simp only[Ut,List.filterMap_cons,List.filterMap_nil,List.getElem?_cons_zero,List.getElem?_cons_succ];simp+decide only[qa,ev,putD,Slots.put,Slots.get,if_true,if_false,true_and,qaU,qbn,qas,↓qj,qf,↓Qh,qK,Qj,↓qA,ql,Yu,↓qF,Qb,qy ag3,Us,qy UK,↓XA,QK,↓qC,qo,qZ,cond_false,qz,Zd,↓Xc,agP,Qu,qI,qH,qw,implies_true,Qp w0 eb_p,List.getD_cons_zero,List.getD_cons_succ,Nat.zero_add,qh,hlv,nv];refine aOps_gbuild (cs:=byteCells [7]) (g:= .bool (decide ((j:Int)<l.length))) (by rfl) (by rfl) (fun _=>by kernel_rfl) fun k8q12 h8q12 hs8 hb8=>?_;have hs_h8q12:Sub B h8q12:=Sub.trans (by repeat (first|exact Sub.refl _|assumption|refine Sub.trans_set ?_ (by assumption))) hs8;have hr_h8q12:Sub H1 h8q12:=Sub.trans (by repeat (first|exact Sub.refl _|assumption|refine Sub.trans_set ?_ (by assumption))) hs8;have eb_p:=hs8 kp _ (by repeat (first|exact AHeap.set_same _ _ _|assumption|refine(AHeap.set_ne _ _ (by first|assumption|exact Ne.symm (by assumption))).trans ?_));rw[qa];refine And.intro (by first|exact Sub.refl _|assumption|exact Sub.set (by assumption)) ?_;simp+decide only[putD,Slots.put,if_false,qw];first
   |(refine Yf (by rfl) ?_;refine qM (V:= .bool (Xw l j [7])) (by rfl) (by rfl) (by
    have hq0:(decide ((j:Int)<l.length)==true)=true:=hg;have hq:decide ((j:Int)<l.length)=true:=by simpa using hq0
    exact c_is w0 _ kp _ l j _ [7] (by repeat (first|exact AHeap.set_same _ _ _|assumption|refine(AHeap.set_ne _ _ (by first|assumption|exact Ne.symm (by assumption))).trans ?_)) (hv.mono (by repeat (first|exact Sub.refl _|assumption|refine Sub.set_both ?_ _ _|refine Sub.trans_set ?_ (by repeat (first|assumption|refine(AHeap.set_ne _ _ (by first|assumption|exact Ne.symm (by assumption))).trans ?_))))) (qaL (k:=k8q12) (ks:=[7]) (hb8 hq0)) (by decide)) ?_)
   |(refine Un (by rfl) (by rfl) ?_)
   |(refine XJ (V:= .bool (Xw l j [7])) (f:=_) (cap:=_) (xs:=_) (by first|rfl|(simp+decide only[gv,qI,Slots.get,if_true,if_false,QO,qH])) (fun hg=>⟨rfl,?_⟩) (fun hg=>by
    have hq0:(decide ((j:Int)<l.length)==true)=true:=hg;have hq:decide ((j:Int)<l.length)=true:=by simpa using hq0
    exact c_is w0 _ kp _ l j _ [7] (by repeat (first|exact AHeap.set_same _ _ _|assumption|refine(AHeap.set_ne _ _ (by first|assumption|exact Ne.symm (by assumption))).trans ?_)) (hv.mono (by repeat (first|exact Sub.refl _|assumption|refine Sub.set_both ?_ _ _|refine Sub.trans_set ?_ (by repeat (first|assumption|refine(AHeap.set_ne _ _ (by first|assumption|exact Ne.symm (by assumption))).trans ?_))))) (qaL (k:=k8q12) (ks:=[7]) (hb8 hq0)) (by decide)) ?_;· (simp+decide only[gv,qI,Slots.get,if_true,if_false,qw]at hg;simp+decide only[evs,ev,Slots.get,if_true,if_false,hg,Qm,List.append_nil,List.map_cons,List.map_nil]<;>try rfl))
   rw[qa];refine And.intro (by first|exact Sub.refl _|assumption|exact Sub.set (by assumption)) ?_;simp+decide only[qa,ev,qJ,qG,putD,Slots.put,Slots.get,Slots.keep,if_true,if_false,true_and,qas,gv,qI,qw,↓qbL,XE,agP,Qu,qH,implies_true,ZY,cv_un,cp_un,↓QP,Qt,Qg,Xj,Xk];apply hK;clear hK K;refine qL (b:=_) rfl (fun hb3=>?_) (fun hb3=>?_)
   ·try simp only[decide_eq_true_eq,Bool.not_eq_true',Bool.and_eq_true]at hb3
    have hj4:j<l.length:=by omega
    have hst:=pseudo_step hj4;have hk8:=kind_seven hj4;rw[hb3.2]at hk8;rw[if_neg (by simpa using hk8.symm)]at hst;refine Qa ?_;change Awp _ _ _ _ _ _ _;refine QB ?_;refine XK [0,1,6] (by rfl) ?_;simp+decide only[ev,qJ,qG,putD,Slots.put,Slots.get,if_true,if_false,true_and,↓qj,qf,↓Qh,qK,Qj,↓qA,ql,Yu,↓qF,Qb,qy ag3,↓qC,qo,qD,cond_false,qz,Xf,Qp w0 eb_p,List.getD_cons_zero,List.getD_cons_succ,Nat.zero_add,qh];try simp(disch:=omega)only[wrap_i64]
    refine qm (by rfl) (by rfl) (by repeat (first|exact AHeap.set_same _ _ _|assumption|refine(AHeap.set_ne _ _ (by first|assumption|exact Ne.symm (by assumption))).trans ?_)) sz3 (by rfl) (by rfl) (by first|exact Nat.le_refl _|decide|(simp;done)|(simp;omega)) (Nat.zero_le _) (by rfl) ?_;simp only[AVal.cells];simp+decide only[qa,ev,putD,Slots.get,Slots.keep,if_true,if_false,setAt,List.set_cons_zero,List.set_cons_succ];try simp only[Ql,Yy]
    exact⟨j+1,rfl,Sub.set_both (by repeat (first|exact Sub.refl _|assumption|refine Sub.set_both ?_ _ _|refine Sub.trans_set ?_ (by repeat (first|assumption|refine(AHeap.set_ne _ _ (by first|assumption|exact Ne.symm (by assumption))).trans ?_)))) _ _,⟨by omega,hj4,by rw[<-hst];exact hj3⟩,by omega⟩
   ·try simp only[decide_eq_false_iff_not,Bool.not_eq_false',Bool.and_eq_false_iff]at hb3
    have hje:Xy l (i+1)=j:=by
     rw[<-hj3];rcases Nat.lt_or_ge j l.length with hj4|hj4
     ·have hk8:=kind_seven hj4
      rcases hb3 with q|q
      ·omega
      ·rw[q]at hk8
       rw[pseudo_step hj4,if_pos (by simpa using hk8.symm)]
     ·exact pseudo_end hj4
    rw[hje]at ho;refine XL ?_;change Awp _ _ _ _ _ _ _;refine qO ?_;refine Zh [0,6,87] mixed (by kernel_rfl) (by rfl) (by rfl) fun K hK=>?_;simp+decide only[qa,ev,qJ,qG,putD,Slots.put,Slots.get,Slots.keep,if_true,if_false,true_and,↓qj,qf,↓Qh,qK,Qj,↓qA,ql,Yu,↓qF,Qb,qy ag3,Us,qy UK,↓XA,QK,↓qC,qo,qZ,cond_false,qz,XD,↓Xc,agP,Qu,qI,qH,QO,Yl,qw,Qd,cv_cv,implies_true,↓qbL,XE,ZY,cv_un,cp_un,↓ZZ,qbr,qbs,↓Xn,Zv,Zw,↓Zb,XI,Wy,agL_ld3,↓Xd,qD,Zf,qbG,Zg,qbH,Xf,↓ag_pick,Qt,Qg,XW,cp_nest1,Xk,ZR,cv_pick,cp_pick,↓QP,Qp w0 eb_p,List.getD_cons_zero,List.getD_cons_succ,Nat.zero_add,qh,hlv,nv];try simp(disch:=omega)only[wrap_i64]
    apply hK;clear hK K;refine qL (b:=_) rfl (fun hb4=>?_) (fun hb4=>?_)
    ·try simp only[decide_eq_true_eq,Bool.not_eq_true',Bool.and_eq_true,Bool.or_eq_true]at hb4
     refine awp_rseq [4,5] (by rfl) fun K hK=>?_;simp+decide only[qa,ev,qJ,qG,putD,Slots.put,Slots.keep,if_true,if_false,true_and,↓qd,qb];apply hK;clear hK K;refine qN ?_;try simp only[Qf]
     refine QN (qY (qY (Qe))) ?_;simp+decide only[Slots.get,if_true,if_false,Wd];rw[if_pos (by
      rcases hb4 with q|⟨q1,q2⟩
      ·left;omega
      ·exact .inr ⟨q1,by omega⟩)]at ho
     refine⟨H1,(by repeat (first|exact Sub.refl _|assumption|refine Sub.set_both ?_ _ _|refine Sub.trans_set ?_ (by repeat (first|assumption|refine(AHeap.set_ne _ _ (by first|assumption|exact Ne.symm (by assumption))).trans ?_)))),?_,?_⟩
     ·rw[ho];rfl
     ·rw[ho];exact hH1
    ·try simp only[decide_eq_false_iff_not,Bool.not_eq_false',Bool.and_eq_false_iff,Bool.or_eq_false_iff]at hb4
     rw[if_neg (by
      rintro(q|⟨q1,q2⟩)
      ·omega
      ·obtain⟨-,z⟩:=hb4
       rcases z with z|z
       ·rw[q1]at z;cases z
       ·omega)]at ho
     have hsl:=hv.slice Tryz.underlying26 Xg (some (.int .i64 ((i:Int)+1))) (some (.int .i64 (j:Int))) (l:=(i:Int)+1) (r:=(j:Int)) rfl rfl (by omega) (by omega) (by rw[List.length_map];omega);refine Qa ?_;change Awp _ _ _ _ _ _ _;refine awp_rseq [0,6] (by rfl) fun K hK=>?_;simp+decide only[ev,qJ,qG,putD,Slots.put,Slots.get,if_true,if_false,true_and,↓qj,qf,↓Qh,qK,Qj,↓qA,ql,Yu,↓qF,Qb,qy ag3,↓qC,qo,qD,cond_false,qz,Xf,Qp w0 eb_p,List.getD_cons_zero,List.getD_cons_succ,Nat.zero_add,qh];try simp(disch:=omega)only[wrap_i64]
     refine qm (by rfl) (by rfl) (by repeat (first|exact AHeap.set_same _ _ _|assumption|refine(AHeap.set_ne _ _ (by first|assumption|exact Ne.symm (by assumption))).trans ?_)) sz3 (by rfl) (by rfl) (by first|exact Nat.le_refl _|decide|(simp;done)|(simp;omega)) (Nat.zero_le _) (by rfl) ?_;simp only[AVal.cells];simp+decide only[qa,ev,putD,Slots.get,Slots.keep,if_true,if_false,setAt,List.set_cons_zero,List.set_cons_succ];apply hK;clear hK K;refine Zh [4,5] mixed (by kernel_rfl) (by rfl) (by rfl) fun K hK=>?_;simp+decide only[ev,qJ,qG,putD,Slots.put,Slots.get,if_true,if_false,true_and,↓qj,qf,↓Qh,qK,Qj,↓qA,ql,Us,↓qF,Qb,qy UK,↓qC,qo,qD,cond_false,qz,Xf,Yu,qy ag3,UD,QV,List.getD_cons_zero,List.getD_cons_succ,Nat.zero_add,qh,hlv,Int.add_sub_cancel];try simp(disch:=omega)only[wrap_i64]
     try simp+decide only[qa,ev,qJ,qG,putD,Slots.put,Slots.get,Slots.keep,if_true,if_false,true_and,↓UJ,ZK,evO,↓qd,qb,hsl]
     apply hK;clear hK K;refine qN ?_;refine QN (qY (qY (Qe))) ?_;simp+decide only[Slots.get,if_true,if_false,Wd];refine⟨B.set kp ⟨[v, .int .i64 ((j:Int)+1)],0⟩,?_,?_,?_⟩
     ·exact Sub.set_both (by repeat (first|exact Sub.refl _|assumption|refine Sub.set_both ?_ _ _|refine Sub.trans_set ?_ (by repeat (first|assumption|refine(AHeap.set_ne _ _ (by first|assumption|exact Ne.symm (by assumption))).trans ?_)))) _ _
     ·rw[ho];rfl
     ·rw[ho];rfl
end Go.Proofs.YtlhhaagmakhilaaGreatDoor
namespace Go.Proofs.YtlhhaagmakhilaaGreatDoor
open Go.AM
open Go.Proofs
open Go.Col
open Go.Tok
open Go.Cop
open Go.RowKit (Below)
set_option maxRecDepth 100000
theorem del_set_same{H:AHeap}{k:Nat}(b:Blk):(H.del k).set k b=H.set k b:=by
 funext j;by_cases e:j=k<;>simp[AHeap.set,AHeap.del,e]
theorem ZM{H:AHeap}(k:Nat):H.del k k=none:=by simp[AHeap.del]
theorem qbA{B H:AHeap}{k:Nat}(hs:Sub B H)(hb:B k=none):Sub B (H.del k):=fun j b hj=>by
 have hne:j≠k:=fun e=>by subst e;rw[hb]at hj;cases hj
 simp only[AHeap.del,hne,if_false];exact hs j b hj
theorem Zi{B H:AHeap}{k:Nat}(hs:Sub B H)(hb:B k=none)(b:Blk):Sub B (H.set k b):=fun j c hj=>by
 have hne:j≠k:=fun e=>by subst e;rw[hb]at hj;cases hj
 rw[AHeap.set_ne _ _ hne];exact hs j c hj
theorem c_operandH(w0:World)(H B:AHeap)(kp:Nat)(v:AVal)(l:List TokC)(i:Nat)(e:Bool)(hk:H kp=some ⟨[v, .int .i64 i],0⟩)(hs:Sub B H)(hb:B kp=none)(hv:IsL w0 B 5 v (l.map Xv))(hl:l.length<=1099511627776)(hi:i<=l.length):
 ACall Tryz.prog w0 85 [.ptr (.own kp) 0, .bool e] H (fun r h'=>r= .tuple [operV v (Qy l i e), .bool (Qy l i e).ok]/\h'=H.set kp ⟨[v, .int .i64 (Qy l i e).at_],0⟩):=by
 have:=c_operandB w0 (H.del kp) kp v l i e (ZM kp) (hv.mono (qbA hs hb)) hl hi;simp only[del_set_same]at this
 rwa [set_id hk]at this
theorem qdo{w0:World}{h:AHeap}{v:AVal}{l:List TokC}(hv:IsL w0 h 5 v (l.map Xv)){o:Opd}(h1:o.lo<=o.hi)(h2:o.hi<=l.length)(ok:o.ok=true):IsL w0 h 5 (operV v o) ((Uw l o.lo o.hi).map Xv):=by
 have:=hv.sub (i:=o.lo) (j:=o.hi) h1 (by rw[List.length_map];exact h2);unfold operV Uw;rw[if_pos ok,List.map_take,List.map_drop];exact this
theorem operV_scal{w0:World}{h:AHeap}{v:AVal}{l:List TokC}(hv:IsL w0 h 5 v (l.map Xv))(o:Opd):(operV v o).scal=true:=by
 unfold operV;split
 ·generalize l.map Xv=xs at hv
  cases hv with
  |nil=>rfl
  |mk lc of n c xs hn hw hc hl hcap=>cases c<;>rfl
 ·rfl
theorem isL_Sc{w0:World}{h:AHeap}{es:Nat}{v:AVal}{xs:List (List AVal)}(hv:IsL w0 h es v xs):Sc v:=by
 cases hv with
 |nil=>trivial
 |mk lc o n c xs hn hw hc hl hcap=>trivial
theorem operV_Sc{w0:World}{h:AHeap}{v:AVal}{l:List TokC}(hv:IsL w0 h 5 v (l.map Xv))(o:Opd):Sc (operV v o)=True:=by
 refine eq_true ?_;unfold operV;split
 ·generalize l.map Xv=xs at hv
  cases hv with
  |nil=>trivial
  |mk lc of n c xs hn hw hc hl hcap=>cases c<;>trivial
 ·trivial
abbrev RepQ:=RepC×AVal×AVal
def UN(q:RepQ):List AVal:=[q.2.1,q.2.2]
structure RepOk(w0:World)(h:AHeap)(q:RepQ):Prop where
 old:IsL w0 h 5 q.2.1 (q.1.old.map Xv)
 new:IsL w0 h 5 q.2.2 (q.1.new.map Xv)
theorem RepOk.mono{w0:World}{h h':AHeap}{q:RepQ}(hq:RepOk w0 h q)(hs:Sub h h'):RepOk w0 h' q:=⟨hq.old.mono hs,hq.new.mono hs⟩
def PairR(w0:World)(B:AHeap)(p:Pair)(r:AVal):Prop:=∃ov nv,r= .tuple [.agg [ov,nv], .bool p.ok]/\ov.scal=true/\nv.scal=true/\(p.ok=true->RepOk w0 B (p.rep,ov,nv))
theorem c_pairBad(w0:World)(H B:AHeap)(kp:Nat)(v:AVal)(l:List TokC)(i:Nat)(eb_p:H kp=some ⟨[v, .int .i64 i],0⟩)(hs_H:Sub B H)(hb:B kp=none)(hv:IsL w0 B 5 v (l.map Xv))(hl:l.length<=1099511627776)(hi:i<=l.length)(hok:(Qy l i false).ok=false):
 ACall Tryz.prog w0 67 [.ptr (.own kp) 0] H (fun r h'=>PairR w0 B (Zk l i) r/\h'=H.set kp ⟨[v, .int .i64 (Zk l i).at_],0⟩):=by
 have hp:Zk l i=⟨false,⟨[],[]⟩,(Qy l i false).at_⟩:=by unfold Zk;simp only[hok,if_true]
 rw[hp];have hlv:=hv.live;have hss:=operV_scal hv (Qy l i false);have hsl:=Yp hss;obtain⟨ov,hov⟩:∃ov,ov=operV v (Qy l i false):=⟨_,rfl⟩
 rw[<-hov]at hss hsl;refine qR (n:=29) (rs:=[.cell 2 46, .tmp 3]) Tryz.func67 rfl rfl rfl rfl (Nat.le_of_ble_eq_true rfl) ?_;simp only[Qc];refine awp_rseq [0,2] (by rfl) fun K hK=>?_;refine Qi ze46 (cs:=[.nilSlice, .nilSlice]) (by rfl) fun k0q0 hk0q0=>?_;have hn_0q0:H k0q0=none:=by first|assumption|(simp only[AHeap.set_none]at hk0q0;simp only[hk0q0])
 have hf_0q0:B k0q0=none:=Sub.none hs_H hn_0q0;have ne_0q0_p:k0q0≠kp:=AHeap.ne_some hn_0q0 eb_p;simp+decide only[qa,ev,qJ,qG,putD,Slots.put,Slots.keep,if_true,if_false,true_and,↓qd,qb];apply hK;clear hK K;refine awp_rseq [0,2,4,5] (by rfl) fun K hK=>?_;simp+decide only[ev,putD,Slots.put,Slots.get,if_true,if_false,true_and,↓qj,qf];refine QI (by rfl) (by rfl) (c_operandH w0 _ B kp v l i false (by repeat (first|exact AHeap.set_same _ _ _|assumption|refine(AHeap.set_ne _ _ (by first|assumption|exact Ne.symm (by assumption))).trans ?_)) (by repeat (first|exact Sub.refl _|assumption|refine Sub.set_both ?_ _ _|refine Sub.trans_set ?_ (by repeat (first|assumption|refine(AHeap.set_ne _ _ (by first|assumption|exact Ne.symm (by assumption))).trans ?_)))) hb hv hl hi) fun x1q1 h1q1 hx1q1=>?_;rw[<-hov,hok]at hx1q1;obtain⟨rfl,rfl⟩:=hx1q1;simp+decide only[qa,ev,putD,Slots.put,Slots.get,Slots.keep,if_true,if_false,true_and,↓qj,qf,↓QJ,QA,QH,List.length_cons,List.length_nil,List.getD_cons_zero,List.getD_cons_succ,↓qd,qb,List.getD_cons_zero,List.getD_cons_succ,Nat.zero_add,Nat.reduceAdd];apply hK;clear hK K;refine qO ?_;refine awp_rseq [0,2,4,18] (by rfl) fun K hK=>?_;simp+decide only[ev,putD,Slots.put,Slots.get,if_true,if_false,true_and,↓qj,qf,↓Yi,XE,ZY,↓Xc,agP,Qu,qI,qH,Qd,implies_true,Bool.not_false,Bool.not_true,Zo];refine Un (by rfl) (by rfl) ?_;simp+decide only[qa,ev,qJ,qG,putD,Slots.put,Slots.get,Slots.keep,if_true,if_false,true_and,qI,Qd,↓qbL,XE,agP,Qu,qH,Bool.not_true,Zo,false_implies,qcz,↓QP,Qt,Qg];apply hK;clear hK K;refine qL (b:=_) rfl (fun hb1=>?_) (fun hb1=>?_)
 ·try simp only at hb1
  refine awp_rseq [2,3] (by rfl) fun K hK=>?_;simp+decide only[ev,qJ,qG,putD,Slots.put,Slots.get,if_false,true_and,↓Qn,↓qV,bld46_,evP,List.map_nil];refine qm (by rfl) (by rfl) (by repeat (first|exact AHeap.set_same _ _ _|assumption|refine(AHeap.set_ne _ _ (by first|assumption|exact Ne.symm (by assumption))).trans ?_)) sz46 (by rfl) (by rfl) (by first|exact Nat.le_refl _|decide|(simp;done)|(simp;omega)) (Nat.zero_le _) (by first|rfl|(simp+decide only[ev,putD,Slots.put,Slots.get,if_true,if_false,AVal.cells,QF,Bool.and_true,Bool.true_and,hss])) ?_;simp only[AVal.cells];simp+decide only[qa,ev,qJ,qG,putD,Slots.put,Slots.get,Slots.keep,if_true,if_false,true_and,↓qd,qb,setAt,List.set_cons_zero,List.set_cons_succ,Nat.zero_add];apply hK;clear hK K;refine qN ?_;try simp only[Qf]
  refine QN (?_) ?_
  ·simp+decide only[Qw,qp,qi,Slots.get,if_true,if_false,and_true,qp,qi,qg ag46 sz46,qW,qc,List.getD_cons_zero,List.getD_cons_succ,Nat.zero_add,QL,allLive,Bool.and_true,qc,List.getD_cons_zero,List.getD_cons_succ,Nat.zero_add,QL,allLive,Bool.and_true]
  simp+decide only[Slots.get,if_true,if_false,Xa,qp,qi,qg ag46 sz46,qW,qc,List.getD_cons_zero,List.getD_cons_succ,Nat.zero_add,QL,allLive,Bool.and_true,qc,List.getD_cons_zero,List.getD_cons_succ,Nat.zero_add,QL,allLive,Bool.and_true];refine⟨H.set kp ⟨[v, .int .i64 (Qy l i false).at_],0⟩,Sub.trans_set (Sub.set_both (Sub.set hn_0q0) _ _) ((AHeap.set_ne _ _ ne_0q0_p).trans hn_0q0),⟨.nilSlice, .nilSlice,rfl,rfl,rfl,fun q=>by cases q⟩,rfl⟩
 ·exact absurd hb1 (by decide)
theorem c_wordH(w0:World)(H B:AHeap)(kp:Nat)(v:AVal)(l:List TokC)(i:Nat)(s:Str)(hk:H kp=some ⟨[v, .int .i64 i],0⟩)(hs:Sub B H)(hv:IsL w0 B 5 v (l.map Xv))(hl:l.length<=1099511627776):
 ACall Tryz.prog w0 51 [.ptr (.own kp) 0, .str s] H (fun r h'=>r= .bool (Zl l i s)/\h'=H.set kp ⟨[v, .int .i64 ((if Zl l i s=true then i+1 else i:Nat):Int)],0⟩):=c_wordP w0 H kp v l i s hk (hv.mono hs) hl
theorem c_pairGood(w0:World)(H B:AHeap)(kp:Nat)(v:AVal)(l:List TokC)(i:Nat)(eb_p:H kp=some ⟨[v, .int .i64 i],0⟩)(hs_H:Sub B H)(hb:B kp=none)(hv:IsL w0 B 5 v (l.map Xv))(hl:l.length<=1099511627776)(hi:i<=l.length)(hok:(Qy l i false).ok=true):
 ACall Tryz.prog w0 67 [.ptr (.own kp) 0] H (fun r h'=>PairR w0 B (Zk l i) r/\h'=H.set kp ⟨[v, .int .i64 (Zk l i).at_],0⟩):=by
 obtain⟨o1,o2,o3⟩:=qac (e:=false) hi;obtain⟨o3,o4,o5⟩:=o3 hok;have hp:Zk l i=if Zl l (Qy l i false).at_ BY=false then⟨false,⟨[],[]⟩,(Qy l i false).at_⟩else⟨(Qy l ((Qy l i false).at_+1) true).ok,⟨Uw l (Qy l i false).lo (Qy l i false).hi,Uw l (Qy l ((Qy l i false).at_+1) true).lo (Qy l ((Qy l i false).at_+1) true).hi⟩,(Qy l ((Qy l i false).at_+1) true).at_⟩:=by
  conv=>lhs;unfold Zk
  simp only[hok];rfl
 have hlv:=hv.live;have hsc:=fun o=>operV_scal hv o;have hsl:=fun o=>Yp (hsc o);have hSc:=fun o=>operV_Sc hv o;obtain⟨a,ha⟩:∃a,a=Qy l i false:=⟨_,rfl⟩
 rw[<-ha]at hok hp o1 o2 o3 o4 o5;obtain⟨W,hW⟩:∃W,W=Zl l a.at_ BY:=⟨_,rfl⟩
 refine qR (n:=29) (rs:=[.cell 2 46, .tmp 3]) Tryz.func67 rfl rfl rfl rfl (Nat.le_of_ble_eq_true rfl) ?_;simp only[Qc];refine awp_rseq [0,2] (by rfl) fun K hK=>?_;refine Qi ze46 (cs:=[.nilSlice, .nilSlice]) (by rfl) fun k0q0 hk0q0=>?_;have hn_0q0:H k0q0=none:=by first|assumption|(simp only[AHeap.set_none]at hk0q0;simp only[hk0q0])
 have hf_0q0:B k0q0=none:=Sub.none hs_H hn_0q0;have ne_0q0_p:k0q0≠kp:=AHeap.ne_some hn_0q0 eb_p;simp+decide only[qa,ev,qJ,qG,putD,Slots.put,Slots.keep,if_true,if_false,true_and,↓qd,qb];apply hK;clear hK K;refine awp_rseq [0,2,4,5] (by rfl) fun K hK=>?_;simp+decide only[ev,putD,Slots.put,Slots.get,if_true,if_false,true_and,↓qj,qf];refine QI (by rfl) (by rfl) (c_operandH w0 _ B kp v l i false (by repeat (first|exact AHeap.set_same _ _ _|assumption|refine(AHeap.set_ne _ _ (by first|assumption|exact Ne.symm (by assumption))).trans ?_)) (by repeat (first|exact Sub.refl _|assumption|refine Sub.set_both ?_ _ _|refine Sub.trans_set ?_ (by repeat (first|assumption|refine(AHeap.set_ne _ _ (by first|assumption|exact Ne.symm (by assumption))).trans ?_)))) hb hv hl hi) fun x1q1 h1q1 hx1q1=>?_;rw[<-ha,hok]at hx1q1;obtain⟨rfl,rfl⟩:=hx1q1;simp+decide only[qa,ev,putD,Slots.put,Slots.get,Slots.keep,if_true,if_false,true_and,↓qj,qf,↓QJ,QA,QH,List.length_cons,List.length_nil,List.getD_cons_zero,List.getD_cons_succ,↓qd,qb,List.getD_cons_zero,List.getD_cons_succ,Nat.zero_add,Nat.reduceAdd];apply hK;clear hK K;refine qO ?_;refine awp_rseq [0,2,4,18] (by rfl) fun K hK=>?_;simp+decide only[ev,putD,Slots.put,Slots.get,if_true,if_false,true_and,↓qj,qf,↓Yi,XE,ZY,↓Xc,agP,Qu,qI,qH,Qd,implies_true,Bool.not_false,Bool.not_true,Qm];refine Yf (by rfl) ?_;refine QI (by rfl) (by rfl) (c_wordH w0 _ B kp v l a.at_ BY (AHeap.set_same _ _ _) (by repeat (first|exact Sub.refl _|assumption|refine Sub.set_both ?_ _ _|refine Sub.trans_set ?_ (by repeat (first|assumption|refine(AHeap.set_ne _ _ (by first|assumption|exact Ne.symm (by assumption))).trans ?_)))) hv hl) fun x2q4 h2q4 hx2q4=>?_;obtain⟨rfl,rfl⟩:=hx2q4;rw[<-hW];simp+decide only[qa,ev,qJ,qG,putD,Slots.put,Slots.get,Slots.keep,if_true,if_false,true_and,qI,Qd,↓qbL,XE,agP,Qu,qH,implies_true,Bool.not_false,Qm,Bool.false_or,ZY,↓QP,Qt,Qg,ZR];apply hK;clear hK K;refine qL (b:=_) rfl (fun hb1=>?_) (fun hb1=>?_)
 ·try simp only[Bool.not_eq_true']at hb1
  refine awp_rseq [2,3] (by rfl) fun K hK=>?_;simp+decide only[ev,qJ,qG,putD,Slots.put,Slots.get,if_false,true_and,↓Qn,↓qV,bld46_,evP,List.map_nil];refine qm (by rfl) (by rfl) (by repeat (first|exact AHeap.set_same _ _ _|assumption|refine(AHeap.set_ne _ _ (by first|assumption|exact Ne.symm (by assumption))).trans ?_)) sz46 (by rfl) (by rfl) (by first|exact Nat.le_refl _|decide|(simp;done)|(simp;omega)) (Nat.zero_le _) (by first|rfl|(simp+decide only[ev,putD,Slots.put,Slots.get,if_true,if_false,AVal.cells,QF,Bool.and_true,Bool.true_and,hsc])) ?_;simp only[AHeap.set_set,AVal.cells];simp+decide only[qa,ev,qJ,qG,putD,Slots.put,Slots.get,Slots.keep,if_true,if_false,true_and,↓qd,qb,setAt,List.set_cons_zero,List.set_cons_succ,Nat.zero_add];apply hK;clear hK K;refine qN ?_;try simp only[Qf]
  refine QN (?_) ?_
  ·simp+decide only[Qw,qp,qi,Slots.get,if_true,if_false,and_true,qp,qi,qg ag46 sz46,qW,qc,List.getD_cons_zero,List.getD_cons_succ,Nat.zero_add,QL,allLive,Bool.and_true,qc,List.getD_cons_zero,List.getD_cons_succ,Nat.zero_add,QL,allLive,Bool.and_true]
  simp+decide only[Slots.get,if_true,if_false,Xa,qp,qi,qg ag46 sz46,qW,qc,List.getD_cons_zero,List.getD_cons_succ,Nat.zero_add,QL,allLive,Bool.and_true,qc,List.getD_cons_zero,List.getD_cons_succ,Nat.zero_add,QL,allLive,Bool.and_true];rw[if_pos (by rw[<-hW];exact hb1)]at hp;rw[hp];simp only[hb1,Bool.false_eq_true,if_false];exact⟨H.set kp ⟨[v, .int .i64 a.at_],0⟩,Sub.trans_set (Sub.set_both (Sub.set hn_0q0) _ _) ((AHeap.set_ne _ _ ne_0q0_p).trans hn_0q0),⟨.nilSlice, .nilSlice,rfl,rfl,rfl,fun q=>by cases q⟩,rfl⟩
 ·try simp only[Bool.not_eq_false']at hb1
  rw[if_neg (by rw[<-hW,hb1];decide)]at hp;have hwl:a.at_<l.length:=qaR (hW.symm.trans hb1);rw[hb1,if_pos rfl];obtain⟨p1,p2,p3⟩:=qac (l:=l) (i:=a.at_+1) (e:=true) (by omega);obtain⟨b,hbo⟩:∃b,b=Qy l (a.at_+1) true:=⟨_,rfl⟩
  rw[<-hbo]at hp p1 p2 p3;refine Qa ?_;change Awp _ _ _ _ _ _ _;refine awp_rseq [2,4,5,6] (by rfl) fun K hK=>?_;simp+decide only[ev,putD,Slots.put,Slots.get,if_true,if_false,true_and,↓qj,qf];refine QI (by rfl) (by rfl) (c_operandH w0 _ B kp v l (a.at_+1) true (by repeat (first|exact AHeap.set_same _ _ _|assumption|refine(AHeap.set_ne _ _ (by first|assumption|exact Ne.symm (by assumption))).trans ?_)) (by repeat (first|exact Sub.refl _|assumption|refine Sub.set_both ?_ _ _|refine Sub.trans_set ?_ (by repeat (first|assumption|refine(AHeap.set_ne _ _ (by first|assumption|exact Ne.symm (by assumption))).trans ?_)))) hb hv hl (by omega)) fun x4q1 h4q1 hx4q1=>?_;rw[<-hbo]at hx4q1;obtain⟨rfl,rfl⟩:=hx4q1;simp+decide only[qa,ev,putD,Slots.put,Slots.get,Slots.keep,if_true,if_false,true_and,↓qj,qf,↓QJ,QA,QH,List.length_cons,List.length_nil,List.getD_cons_zero,List.getD_cons_succ,↓qd,qb,List.getD_cons_zero,List.getD_cons_succ,Nat.zero_add,Nat.reduceAdd];apply hK;clear hK K;refine awp_rseq [2,3] (by rfl) fun K hK=>?_;simp+decide only[ev,qJ,qG,putD,Slots.put,Slots.get,if_true,if_false,true_and,↓qj,qf,↓Qn,↓qV,bld46_0_1,evP,List.map_cons,List.map_nil,hSc];refine qm (by rfl) (by rfl) (by repeat (first|exact AHeap.set_same _ _ _|assumption|refine(AHeap.set_ne _ _ (by first|assumption|exact Ne.symm (by assumption))).trans ?_)) sz46 (by rfl) (by rfl) (by first|exact Nat.le_refl _|decide|(simp;done)|(simp;omega)) (Nat.zero_le _) (by first|rfl|(simp+decide only[ev,Slots.get,if_true,if_false,AVal.cells,QF,Bool.and_true,hsc])) ?_;simp only[AHeap.set_set,AVal.cells];simp+decide only[qa,ev,putD,Slots.put,Slots.get,Slots.keep,if_true,if_false,true_and,↓qd,qb,setAt,List.set_cons_zero,List.set_cons_succ,Nat.zero_add];apply hK;clear hK K;refine qN ?_;refine QN (?_) ?_
  ·simp+decide only[Qw,qp,qi,Slots.get,if_true,if_false,and_true,qp,qi,qg ag46 sz46,qW,qc,List.getD_cons_zero,List.getD_cons_succ,Nat.zero_add,allLive,Bool.and_true,qc,List.getD_cons_zero,List.getD_cons_succ,Nat.zero_add,allLive,Bool.and_true,hsl]
  simp+decide only[Slots.get,if_true,if_false,Xa,qp,qi,qg ag46 sz46,qW,qc,List.getD_cons_zero,List.getD_cons_succ,Nat.zero_add,allLive,Bool.and_true,qc,List.getD_cons_zero,List.getD_cons_succ,Nat.zero_add,allLive,Bool.and_true,hsl];rw[hp];exact⟨H.set kp ⟨[v, .int .i64 b.at_],0⟩,Sub.trans_set (Sub.set_both (Sub.set hn_0q0) _ _) ((AHeap.set_ne _ _ ne_0q0_p).trans hn_0q0),⟨_,_,rfl,hsc _,hsc _,fun q=>⟨qdo hv o4 o5.1 hok,qdo hv (p3 q).2.1 (p3 q).2.2.1 q⟩⟩,rfl⟩
theorem c_pair(w0:World)(H B:AHeap)(kp:Nat)(v:AVal)(l:List TokC)(i:Nat)(eb_p:H kp=some ⟨[v, .int .i64 i],0⟩)(hs_H:Sub B H)(hb:B kp=none)(hv:IsL w0 B 5 v (l.map Xv))(hl:l.length<=1099511627776)(hi:i<=l.length):
 ACall Tryz.prog w0 67 [.ptr (.own kp) 0] H (fun r h'=>PairR w0 B (Zk l i) r/\h'=H.set kp ⟨[v, .int .i64 (Zk l i).at_],0⟩):=by
 cases hok:(Qy l i false).ok with
 |false=>exact c_pairBad w0 H B kp v l i eb_p hs_H hb hv hl hi hok
 |true=>exact c_pairGood w0 H B kp v l i eb_p hs_H hb hv hl hi hok
end Go.Proofs.YtlhhaagmakhilaaGreatDoor
namespace Go.Proofs.YtlhhaagmakhilaaGreatDoor
open Go.AM
open Go.Proofs
open Go.Col
open Go.Tok
open Go.Cop
open Go.RowKit (Below)
set_option maxRecDepth 100000
def pairsR(l:List TokC)(i:Nat)(first:Bool)(acc:List RepC):Pairs:=XR l (l.length+2-i) i first acc
theorem pairsR_step{l:List TokC}{i:Nat}(hi:i<=l.length)(first:Bool)(acc:List RepC):pairsR l i first acc=if first=true\/(i<l.length/\Xw l i [6]=false)then(if (Zk l i).ok=false then⟨false,[],(Zk l i).at_⟩else pairsR l (Zk l i).at_ false (acc++[(Zk l i).rep]))else⟨true,acc,i⟩:=by
 unfold pairsR;rw[show l.length+2-i=(l.length+1-i)+1 by omega,XR];split
 ·simp only
  split
  ·rfl
  ·rename_i h1 h2
   obtain⟨p1,p2,p3⟩:=pair_at hi;have h3:(Zk l i).ok=true:=by simpa using h2
   have:=(p3 h3).1;exact qaa l _ _ _ _ _ p2 (by omega) (by omega)
 ·rfl
def IsReps(w0:World)(h:AHeap)(v:AVal)(rs:List RepC):Prop:=∃qs:List RepQ,rs=qs.map (·.1)/\IsL w0 h 2 v (qs.map UN)/\∀q∈qs,RepOk w0 h q
theorem IsReps.mono{w0:World}{h h':AHeap}{v:AVal}{rs:List RepC}(hv:IsReps w0 h v rs)(hs:Sub h h'):IsReps w0 h' v rs:=by
 obtain⟨qs,h1,h2,h3⟩:=hv;exact⟨qs,h1,h2.mono hs,fun q hq=>(h3 q hq).mono hs⟩
theorem IsReps.none{w0:World}{h:AHeap}:IsReps w0 h .nilSlice []:=⟨[],rfl, .nil,fun q hq=>by cases hq⟩
theorem repQC_wide{qs:List RepQ}:∀x∈qs.map UN,x.length=2:=fun x hx=>by obtain⟨y,_,rfl⟩:=List.mem_map.1 hx;rfl
theorem qag(es:Nat)(b:Option Buf):(QT es b).cells=[QT es b]:=by cases b<;>rfl
def stmC(t:TokC)(rv:AVal):List AVal:=[.int .u8 t.kind.toNat, .str t.text, .int .i64 t.line, .int .i64 t.col, .bool t.left,rv]
structure NewE(B H E:AHeap):Prop where
 sub:Sub B E
 off:∀j,H j≠none->B j=none->E j=none
theorem NewE.refl(B H:AHeap):NewE B H B:=⟨Sub.refl _,fun _ _ h=>h⟩
theorem newE_buf{B H G:AHeap}{es kp:Nat}{pb:Option Buf}{c:Blk}(hok:bufOk G es pb)(hg:Sub (H.del kp) G)(hp:G kp=some c):NewE B H (QY B pb)\/¬bufOk B es pb:=by
 by_cases hb:bufOk B es pb
 ·refine .inl ⟨Sub.buf hb,fun j h1 h2=>?_⟩
  cases pb with
  |none=>exact h2
  |some b=>
   have hne:j≠b.blk:=fun e=>by
    have h0:G b.blk=none:=hok.1;subst e;by_cases e2:b.blk=kp
    ·rw[e2,hp]at h0;cases h0
    ·cases hj:H b.blk with
     |none=>exact h1 hj
     |some d=>
      have:=hg b.blk d (by simp only[AHeap.del,e2,if_false];exact hj);rw[h0]at this;cases this
   exact(AHeap.set_ne _ _ hne).trans h2
 ·exact .inr hb
def StmR(w0:World)(H B:AHeap)(kp:Nat)(v:AVal)(s:Stm)(r:AVal)(h':AHeap):Prop:=
 Sub (H.del kp) h'/\h' kp=some ⟨[v, .int .i64 s.at_],0⟩/\∃rv E,r= .tuple [.agg (stmC s.name rv), .bool s.ok]/\NewE B H E/\Sub E h'/\IsReps w0 E rv s.reps
structure StG where
 at_:Nat
 G:AHeap
 pb:Option Buf
 qs:List RepQ
structure StOk(w0:World)(H B:AHeap)(kp k0 k3:Nat)(v:AVal)(l:List TokC)(t:TokC)(s:StG):Prop where
 at_:s.at_<=l.length
 sub:Sub (H.del kp) s.G
 par:s.G kp=some ⟨[v, .int .i64 s.at_],0⟩
 res:s.G k0=some ⟨[.int .u8 0, .str [], .int .i64 0, .int .i64 0, .bool false, .nilSlice],0⟩
 stm:s.G k3=some ⟨[.int .u8 t.kind.toNat, .str t.text, .int .i64 t.line, .int .i64 t.col, .bool t.left,QT 2 s.pb],0⟩
 ok:bufOk s.G 2 s.pb
 eq:Uc s.pb=(s.qs.map UN).flatten
 reps:∀q∈s.qs,RepOk w0 B q
 few:s.qs.length<=s.at_
set_option maxHeartbeats 2000000 in
theorem c_statement(w0:World)(H B:AHeap)(kp:Nat)(v:AVal)(l:List TokC)(i:Nat)(eb_p:H kp=some ⟨[v, .int .i64 i],0⟩)(hs_H:Sub B H)(hb:B kp=none)(hv:IsL w0 B 5 v (l.map Xv))(hl:l.length<=1000000)(hi:i<=l.length):
 ACall Tryz.prog w0 52 [.ptr (.own kp) 0] H (fun r h'=>StmR w0 H B kp v (QG l i) r h'):=by
 have hlv:=hv.live;have nv:=Za hv;obtain⟨k1,hk1⟩:∃k,k=Xw l i [1,3]:=⟨_,rfl⟩
 obtain⟨W,hW⟩:∃W,W=Zl l (i+1) Uf:=⟨_,rfl⟩
 obtain⟨O,ho⟩:∃O,O=QG l i:=⟨_,rfl⟩
 rw[<-ho];unfold QG at ho;rw[<-hk1,<-hW]at ho;have hdel:Sub (H.del kp) H:=fun j b hj=>by
  by_cases e:j=kp
  ·subst e;rw[ZM]at hj;cases hj
  ·simpa[AHeap.del,e]using hj
 have hsB:Sub B (H.del kp):=qbA hs_H hb;have hso:(AVal.bool true).scal=true:=rfl;have hsn:(AVal.bool true).scal=true:=rfl;have hlo:(AVal.bool true).live=true:=rfl;have hln:(AVal.bool true).live=true:=rfl;have hSo:Sc .nilSlice=True:=eq_true trivial;have hSn:Sc .nilSlice=True:=eq_true trivial;have hbl:=Xm 2 none;refine qR (n:=79) (rs:=[.cell 2 91, .tmp 3]) Tryz.func52 rfl rfl rfl rfl (Nat.le_of_ble_eq_true rfl) ?_;simp only[Qc];refine awp_rseq [0,2] (by rfl) fun K hK=>?_;refine Qi ze91 (cs:=[.int .u8 0, .str [], .int .i64 0, .int .i64 0, .bool false, .nilSlice]) (by rfl) fun k0q0 hk0q0=>?_;have hn_0q0:H k0q0=none:=by first|assumption|(simp only[AHeap.set_none]at hk0q0;simp only[hk0q0])
 have hf_0q0:B k0q0=none:=Sub.none hs_H hn_0q0;have ne_0q0_p:k0q0≠kp:=AHeap.ne_some hn_0q0 eb_p;simp+decide only[qa,ev,qJ,qG,putD,Slots.put,Slots.keep,if_true,if_false,true_and,↓qd,qb];apply hK;clear hK K;refine qO ?_;refine awp_rseq [0,2,11] (by rfl) fun K hK=>?_;simp+decide only[ev,putD,Slots.put,Slots.get,if_true,if_false,true_and,↓qj,qf];refine QC (cs:=byteCells [1,3]) (by kernel_rfl) fun k1q1 hk1q1=>?_;have ne_1q1_0q0:k1q1≠k0q0:=by simp only[AHeap.set_none]at hk1q1;simp only[hk1q1,ne_eq,not_false_eq_true]
 have hn_1q1:H k1q1=none:=by first|assumption|(simp only[AHeap.set_none]at hk1q1;simp only[hk1q1])
 have hf_1q1:B k1q1=none:=Sub.none hs_H hn_1q1;have ne_1q1_p:k1q1≠kp:=AHeap.ne_some hn_1q1 eb_p;refine qM (V:= .bool k1) (by rfl) (by rfl) (by rw[hk1];exact c_is w0 _ kp _ l i _ [1,3] (by repeat (first|exact AHeap.set_same _ _ _|assumption|refine(AHeap.set_ne _ _ (by first|assumption|exact Ne.symm (by assumption))).trans ?_)) (hv.mono (by repeat (first|exact Sub.refl _|assumption|refine Sub.set_both ?_ _ _|refine Sub.trans_set ?_ (by repeat (first|assumption|refine(AHeap.set_ne _ _ (by first|assumption|exact Ne.symm (by assumption))).trans ?_))))) (qaL (k:=k1q1) (ks:=[1,3]) (by repeat (first|exact AHeap.set_same _ _ _|assumption|refine(AHeap.set_ne _ _ (by first|assumption|exact Ne.symm (by assumption))).trans ?_))) (by decide)) ?_;simp+decide only[qa,ev,putD,Slots.put,Slots.get,Slots.keep,if_true,if_false,true_and,↓Yi,XE,ZY];apply hK;clear hK K;refine qL (b:=_) rfl (fun hb1=>?_) (fun hb1=>?_)
 ·try simp only[Bool.not_eq_true']at hb1
  refine awp_rseq [2,3] (by rfl) fun K hK=>?_;simp+decide only[ev,qJ,qG,putD,Slots.put,Slots.get,if_false,true_and,↓Qn,↓qV,bld91_,evP,List.map_nil];refine qm (by rfl) (by rfl) (by repeat (first|exact AHeap.set_same _ _ _|assumption|refine(AHeap.set_ne _ _ (by first|assumption|exact Ne.symm (by assumption))).trans ?_)) Uv (by rfl) (by rfl) (by first|exact Nat.le_refl _|decide|(simp;done)|(simp;omega)) (Nat.zero_le _) (by first|rfl|(simp+decide only[ev,putD,Slots.put,Slots.get,if_true,if_false,AVal.cells,QF,Bool.and_true,Bool.true_and,hso,hsn,Ub,XG,XN,Xz])) ?_;simp only[AVal.cells];simp+decide only[qa,ev,qJ,qG,putD,Slots.put,Slots.get,Slots.keep,if_true,if_false,true_and,↓qd,qb,setAt,List.set_cons_zero,List.set_cons_succ,Nat.zero_add,Nat.reduceAdd];apply hK;clear hK K;refine qN ?_;try simp only[Qf]
  refine QN (?_) ?_
  ·simp+decide only[Qw,qp,qi,Slots.get,if_true,if_false,and_true,qp,qi,qg qcO Uv,qW,qc,List.getD_cons_zero,List.getD_cons_succ,Nat.zero_add,Nat.reduceAdd,qB,qh,qE,QL,allLive,Bool.and_true,qc,List.getD_cons_zero,List.getD_cons_succ,Nat.zero_add,Nat.reduceAdd,qB,qh,qE,QL,allLive,Bool.and_true]
  simp+decide only[Slots.get,if_true,if_false,Xa,qp,qi,qg qcO Uv,qW,qc,List.getD_cons_zero,List.getD_cons_succ,Nat.zero_add,Nat.reduceAdd,qB,qh,qE,QL,allLive,Bool.and_true,qc,List.getD_cons_zero,List.getD_cons_succ,Nat.zero_add,Nat.reduceAdd,qB,qh,qE,QL,allLive,Bool.and_true];rw[if_pos hb1]at ho;rw[ho];exact⟨H,(by repeat (first|exact Sub.refl _|assumption|refine Sub.set_both ?_ _ _|refine Sub.trans_set ?_ (by repeat (first|assumption|refine(AHeap.set_ne _ _ (by first|assumption|exact Ne.symm (by assumption))).trans ?_)))),hdel,eb_p, .nilSlice,B,rfl,NewE.refl _ _,hs_H,IsReps.none⟩
 ·try simp only[Bool.not_eq_false']at hb1
  rw[if_neg (by rw[hb1];decide)]at ho;have hlt:i<l.length:=ZU (hk1.symm.trans hb1);obtain⟨lc,o,c,rfl⟩:=qan hv (by omega);obtain⟨t,ht⟩:∃t,t=l.getD i UL:=⟨_,rfl⟩
  rw[show l.getD i noT=t from ht.symm]at ho;have hd0:(H.del kp) k0q0=none:=by simp[AHeap.del,ne_0q0_p,hn_0q0]
  refine Qa ?_;change Awp _ _ _ _ _ _ _;obtain⟨H3,hH3⟩:∃H3,H3=H.set k0q0 ⟨[.int .u8 0, .str [], .int .i64 0, .int .i64 0, .bool false, .nilSlice],0⟩:=⟨_,rfl⟩
  refine Awp.forget (h':=H3) (by rw[hH3];exact(by repeat (first|exact Sub.refl _|assumption|refine Sub.set_both ?_ _ _|refine Sub.trans_set ?_ (by repeat (first|assumption|refine(AHeap.set_ne _ _ (by first|assumption|exact Ne.symm (by assumption))).trans ?_))))) ?_;have hs_H3:Sub B H3:=by rw[hH3];exact(by repeat (first|exact Sub.refl _|assumption|refine Sub.set_both ?_ _ _|refine Sub.trans_set ?_ (by repeat (first|assumption|refine(AHeap.set_ne _ _ (by first|assumption|exact Ne.symm (by assumption))).trans ?_))))
  have hd3:Sub (H.del kp) H3:=by rw[hH3];exact hdel.trans (Sub.set hn_0q0)
  have eb_p:H3 kp=some ⟨[.slice lc o l.length c, .int .i64 i],0⟩:=by rw[hH3];exact(by repeat (first|exact AHeap.set_same _ _ _|assumption|refine(AHeap.set_ne _ _ (by first|assumption|exact Ne.symm (by assumption))).trans ?_))
  have eb_0q0:H3 k0q0=some ⟨[.int .u8 0, .str [], .int .i64 0, .int .i64 0, .bool false, .nilSlice],0⟩:=by rw[hH3];exact AHeap.set_same _ _ _
  obtain⟨e0,e1,e2,e3,e4⟩:=qcn (hv.mono hs_H3) hlt;rw[<-ht]at e0 e1 e2 e3 e4;have e2':rd w0 H3 lc (o+i*5+1+1)= .int .i64 t.line:=e2;have e3':rd w0 H3 lc (o+i*5+1+1+1)= .int .i64 t.col:=e3;have e4':rd w0 H3 lc (o+i*5+1+1+1+1)= .bool t.left:=e4;refine Ww 12 [] [0,2,4] mixed (by kernel_rfl) (by rfl) fun K hK=>?_;simp only[List.take_succ_cons,List.take_zero,List.drop_succ_cons,List.drop_zero];simp+decide only[ev,qJ,qG,putD,Slots.put,Slots.get,if_true,if_false,true_and,↓Um,qf,↓Wn,qK,Qj,↓Zu,ql,Us,↓WH,Zr,qy UK,Yu,qy ag3,↓qcD,Qs Tryz.underlying26 Xg,Ui,qg Zz Xg,↓qao,↓qV,bld91_0,evP,List.map_cons,List.map_nil,Qp w0 eb_p,qc,List.getD_cons_zero,List.getD_cons_succ,Nat.zero_add,qB,qh,qE,allLive,Bool.and_true,hlv,e0,e1,e2',e3',e4',Int.toNat_natCast];repeat (with_reducible refine And.intro ?_ ?_;· first|trivial|omega|(intro hg;simp only[Bool.and_eq_true,Bool.or_eq_true,Bool.not_eq_true',Bool.and_eq_false_iff,Bool.or_eq_false_iff,Bool.not_eq_false',decide_eq_true_eq,decide_eq_false_iff_not,Zt]at hg;omega))
  refine qdC (by rfl) ?_;refine Qi ze91 (cs:=[.int .u8 0, .str [], .int .i64 0, .int .i64 0, .bool false, .nilSlice]) (by rfl) fun k3q11 hk3q11=>?_;have hn_3q11:H3 k3q11=none:=by first|assumption|(simp only[AHeap.set_none]at hk3q11;simp only[hk3q11])
  have hf_3q11:B k3q11=none:=Sub.none hs_H3 hn_3q11;have ne_3q11_p:k3q11≠kp:=AHeap.ne_some hn_3q11 eb_p;have ne_3q11_0q0:k3q11≠k0q0:=AHeap.ne_some hn_3q11 eb_0q0;rw[qa];try simp only[YI]
  refine qm (by rfl) (by rfl) (by repeat (first|exact AHeap.set_same _ _ _|assumption|refine(AHeap.set_ne _ _ (by first|assumption|exact Ne.symm (by assumption))).trans ?_)) Uv (by rfl) (by rfl) (by first|exact Nat.le_refl _|decide|(simp;done)|(simp;omega)) (Nat.zero_le _) (by first|rfl|(simp+decide only[ev,putD,Slots.put,Slots.get,if_true,if_false,AVal.cells,QF,Bool.and_true,Bool.true_and,hso,hsn,Ub,XG,XN,Xz])) ?_;simp only[AHeap.set_set,AVal.cells];simp+decide only[qa,ev,putD,Slots.put,Slots.get,Slots.keep,if_true,if_false,setAt,List.set_cons_zero,List.set_cons_succ,Nat.zero_add,Nat.reduceAdd];apply hK;clear hK K;refine awp_rseq [0,2,4] (by rfl) fun K hK=>?_;simp+decide only[ev,qJ,qG,putD,Slots.put,Slots.get,if_true,if_false,true_and,↓qj,qf,↓Qh,qK,Qj,↓qA,ql,Yu,↓qF,Qb,qy ag3,↓qC,qo,qD,cond_false,qz,Xf,QU,ne_eq,not_false_eq_true,ne_3q11_p.symm,Qp w0 eb_p,List.getD_cons_zero,List.getD_cons_succ,Nat.zero_add,qh];try simp(disch:=omega)only[wrap_i64]
  refine qm (by rfl) (by rfl) (by repeat (first|exact AHeap.set_same _ _ _|assumption|refine(AHeap.set_ne _ _ (by first|assumption|exact Ne.symm (by assumption))).trans ?_)) sz3 (by rfl) (by rfl) (by first|exact Nat.le_refl _|decide|(simp;done)|(simp;omega)) (Nat.zero_le _) (by first|rfl|(simp+decide only[ev,putD,Slots.put,Slots.get,if_true,if_false,AVal.cells,QF,Bool.and_true,Bool.true_and,hso,hsn,Ub,XG,XN,Xz])) ?_;simp only[AVal.cells];simp+decide only[qa,ev,putD,Slots.get,Slots.keep,if_true,if_false,setAt,List.set_cons_zero,List.set_cons_succ];apply hK;clear hK K;refine qO ?_;refine awp_rseq [0,2,4,32] (by rfl) fun K hK=>?_;simp+decide only[ev,putD,Slots.put,Slots.get,if_true,if_false,true_and,↓qj,qf];refine QI (by rfl) (by rfl) (c_wordH w0 _ B kp _ l (i+1) Uf (by repeat (first|exact AHeap.set_same _ _ _|assumption|refine(AHeap.set_ne _ _ (by first|assumption|exact Ne.symm (by assumption))).trans ?_)) (by repeat (first|exact Sub.refl _|assumption|refine Sub.set_both ?_ _ _|refine Sub.trans_set ?_ (by repeat (first|assumption|refine(AHeap.set_ne _ _ (by first|assumption|exact Ne.symm (by assumption))).trans ?_)))) hv (by omega)) fun x5q1 h5q1 hx5q1=>?_;rw[<-hW]at hx5q1;obtain⟨rfl,rfl⟩:=hx5q1;have hn3H:H k3q11=none:=by
   have:=hn_3q11;rw[hH3,AHeap.set_ne _ _ ne_3q11_0q0]at this;exact this
  obtain⟨P,hP⟩:∃P:Pairs,P=(if W=true then XR l (l.length+2) (i+2) true []else⟨true,[],i+1⟩):=⟨_,rfl⟩
  rw[<-hP]at ho;simp+decide only[qa,putD,Slots.put,Slots.keep,if_true,if_false];apply hK;clear hK K;refine Uu [0,2,4] (fun s:StG=>[(0, .ptr (.own kp) 0),(2, .ptr (.own k0q0) 0),(4, .ptr (.own k3q11) 0)]) (fun s:StG=>QY s.G s.pb) (fun s:StG=>StOk w0 H B kp k0q0 k3q11 (.slice lc o l.length c) l t s/\P=⟨true,s.qs.map (·.1),s.at_⟩) ?_ ?_
  ·refine qL (b:=_) rfl (fun hb2=>?_) (fun hb2=>?_)
   ·skip
    rw[if_pos hb2]at hP;have hlt2:i+1<l.length:=qaR (hW.symm.trans hb2);have hPr:P=pairsR l (i+2) true []:=hP.trans (qaa l _ _ _ _ _ (by omega) (by omega) (by omega));rw[hb2,if_pos rfl];obtain⟨G0,hG0⟩:∃G0,G0=(H3.set k3q11 ⟨[.int .u8 t.kind.toNat, .str t.text, .int .i64 t.line, .int .i64 t.col, .bool t.left, .nilSlice],0⟩).set kp ⟨[.slice lc o l.length c, .int .i64 ((i+2:Nat):Int)],0⟩:=⟨_,rfl⟩
    refine Awp.forget (h':=G0) (by rw[hG0];first|exact Sub.refl _|(rw[AHeap.set_set];exact Sub.refl _)) ?_;have hs_G0:Sub B G0:=by rw[hG0];exact(by repeat (first|exact Sub.refl _|assumption|refine Sub.set_both ?_ _ _|refine Sub.trans_set ?_ (by repeat (first|assumption|refine(AHeap.set_ne _ _ (by first|assumption|exact Ne.symm (by assumption))).trans ?_))))
    have eb_p:G0 kp=some ⟨[.slice lc o l.length c, .int .i64 ((i+2:Nat):Int)],0⟩:=by rw[hG0];exact AHeap.set_same _ _ _
    have eb_0q0:G0 k0q0=some ⟨[.int .u8 0, .str [], .int .i64 0, .int .i64 0, .bool false, .nilSlice],0⟩:=by rw[hG0];exact(by repeat (first|exact AHeap.set_same _ _ _|assumption|refine(AHeap.set_ne _ _ (by first|assumption|exact Ne.symm (by assumption))).trans ?_))
    have eb_3q11:G0 k3q11=some ⟨[.int .u8 t.kind.toNat, .str t.text, .int .i64 t.line, .int .i64 t.col, .bool t.left, .nilSlice],0⟩:=by rw[hG0];exact(by repeat (first|exact AHeap.set_same _ _ _|assumption|refine(AHeap.set_ne _ _ (by first|assumption|exact Ne.symm (by assumption))).trans ?_))
    have hdG0:Sub (H.del kp) G0:=by rw[hG0];exact Zi (hd3.trans (Sub.set hn_3q11)) (ZM kp) _
    clear hG0;refine awp_rseq [0,2,4,5] (by rfl) fun K hK=>?_;simp+decide only[qa,ev,qJ,qG,putD,Slots.put,Slots.keep,if_true,if_false,true_and,↓qd,qb];apply hK;clear hK K;refine QB ?_;refine XH [0,2,4,5] (fun g:Bool×StG=>[(0, .ptr (.own kp) 0),(2, .ptr (.own k0q0) 0),(4, .ptr (.own k3q11) 0),(5, .bool g.1)]) (fun g:Bool×StG=>QY g.2.G g.2.pb) (fun g:Bool×StG=>StOk w0 H B kp k0q0 k3q11 (.slice lc o l.length c) l t g.2/\P=pairsR l g.2.at_ g.1 (g.2.qs.map (·.1))) (fun g:Bool×StG=>l.length-g.2.at_) ⟨true,⟨i+2,G0,none,[]⟩⟩ (by rfl) (Sub.refl _) ⟨⟨by simp only;omega,hdG0,eb_p,eb_0q0,eb_3q11,trivial,rfl,(fun q hq=>by cases hq),Nat.zero_le _⟩,hPr⟩ ?_;rintro⟨first,⟨at_,G,pb,qs⟩⟩ ⟨⟨g1,g2,g3,g4,g5,g6,g7,g8,g9⟩,hPr⟩;simp only at g1 g2 g3 g4 g5 g6 g7 g8 g9 hPr|-
    obtain⟨H7,hH7⟩:∃H7,H7=QY G pb:=⟨_,rfl⟩
    have hs_H7:Sub B H7:=by rw[hH7];exact(hsB.trans g2).trans (Sub.buf g6)
    have eb_p:H7 kp=some ⟨[.slice lc o l.length c, .int .i64 at_],0⟩:=by rw[hH7];exact ZN g6 g3
    have eb_0q0:H7 k0q0=some ⟨[.int .u8 0, .str [], .int .i64 0, .int .i64 0, .bool false, .nilSlice],0⟩:=by rw[hH7];exact ZN g6 g4
    have eb_3q11:H7 k3q11=some ⟨[.int .u8 t.kind.toNat, .str t.text, .int .i64 t.line, .int .i64 t.col, .bool t.left,QT 2 pb],0⟩:=by rw[hH7];exact ZN g6 g5
    have hbl:=Xm 2 pb;rw[<-hH7];refine qO ?_;refine qcM [0,1,2,3,4,5,6,7,8,9,10,11,12,13,14,15,16,17,18] [none,none,none,none,none,none,none,none,none,none,none,none,none,none,none,some 14,some 15,some 16,some 17] 19 [0,2,4,51] mixed (by kernel_rfl) (by rfl) fun K hK=>?_;simp only[Ut,List.filterMap_cons,List.filterMap_nil,List.getElem?_cons_zero,List.getElem?_cons_succ];simp+decide only[qa,ev,putD,Slots.put,Slots.get,if_true,if_false,true_and,qaU,qbn,qas,↓qj,qf,↓Xc,agP,Qu,qI,qH,QO,Yl,qw,Qd,cv_cv,implies_true,↓ZZ,qK,Qj,qbr,qbs,↓Xn,ql,Yu,Zv,Zw,↓Zb,XI,Wy,qcN,qy ag3,Us,qy UK,↓qbS,QK,XV Tryz.underlying26,cv_len,cp_len,↓Xd,qo,qZ,cond_false,Zf,qbG,Zg,qbH,qz,Zd,Qp w0 eb_p,List.getD_cons_zero,List.getD_cons_succ,Nat.zero_add,qh,hlv];refine aOps_gbuild (cs:=byteCells [6]) (g:=Qo (!first) (.bool (decide ((at_:Int)<l.length)))) (by rfl) (QO _ _) (fun _=>by kernel_rfl) fun k7q14 h7q14 hs7 hb7=>?_;have hs_h7q14:Sub B h7q14:=Sub.trans (by repeat (first|exact Sub.refl _|assumption|refine Sub.trans_set ?_ (by assumption))) hs7;have hr_h7q14:Sub H7 h7q14:=Sub.trans (by repeat (first|exact Sub.refl _|assumption|refine Sub.trans_set ?_ (by assumption))) hs7;have eb_p:=hs7 kp _ (by repeat (first|exact AHeap.set_same _ _ _|assumption|refine(AHeap.set_ne _ _ (by first|assumption|exact Ne.symm (by assumption))).trans ?_));have eb_0q0:=hs7 k0q0 _ (by repeat (first|exact AHeap.set_same _ _ _|assumption|refine(AHeap.set_ne _ _ (by first|assumption|exact Ne.symm (by assumption))).trans ?_));have eb_3q11:=hs7 k3q11 _ (by repeat (first|exact AHeap.set_same _ _ _|assumption|refine(AHeap.set_ne _ _ (by first|assumption|exact Ne.symm (by assumption))).trans ?_));rw[qa];refine And.intro (by first|exact Sub.refl _|assumption|exact Sub.set (by assumption)) ?_;simp+decide only[putD,Slots.put,if_false,qw,Yl]
    (refine XJ (V:= .bool (Xw l at_ [6])) (f:=_) (cap:=_) (xs:=_) (by first|rfl|(simp+decide only[gv,qI,Slots.get,if_true,if_false,QO])) (fun hg=>⟨rfl,?_⟩) (fun hg=>c_is w0 _ kp _ l at_ _ [6] (by repeat (first|exact AHeap.set_same _ _ _|assumption|refine(AHeap.set_ne _ _ (by first|assumption|exact Ne.symm (by assumption))).trans ?_)) (hv.mono (by repeat (first|exact Sub.refl _|assumption|refine Sub.set_both ?_ _ _|refine Sub.trans_set ?_ (by repeat (first|assumption|refine(AHeap.set_ne _ _ (by first|assumption|exact Ne.symm (by assumption))).trans ?_))))) (qaL (k:=k7q14) (ks:=[6]) (hb7 hg)) (by decide)) ?_;· (simp+decide only[gv,qI,Slots.get,if_true,if_false,qw,Yl]at hg;simp+decide only[evs,ev,Slots.get,if_true,if_false,hg,Qm,List.append_nil,List.map_cons,List.map_nil]<;>try rfl))
    rw[qa];refine And.intro (by first|exact Sub.refl _|assumption|exact Sub.set (by assumption)) ?_;simp+decide only[qa,ev,qJ,qG,putD,Slots.put,Slots.get,Slots.keep,if_true,if_false,true_and,qas,gv,qI,qw,Qd,Yl,↓qbL,XE,agP,Qu,qH,QO,implies_true,ZY,cv_un,cp_un,↓ag_pick,Qt,Qg,XW,cp_nest1,Xk,ZR,cv_pick,cp_pick,↓QP];apply hK;clear hK K;refine qL (b:=_) rfl (fun hb3=>?_) (fun hb3=>?_)
    ·try simp only[decide_eq_true_eq,Bool.not_eq_true',Bool.and_eq_true,Bool.or_eq_true]at hb3
     have hst:=pairsR_step g1 first (qs.map (·.1))
     have hc3:first=true\/(at_<l.length/\Xw l at_ [6]=false):=by
      rcases hb3 with q|q
      ·exact .inl q
      ·exact .inr ⟨by omega,q.2⟩
     rw[if_pos hc3]at hst;obtain⟨p1,p2,p3⟩:=pair_at (l:=l) (i:=at_) g1;obtain⟨p,hp⟩:∃p,p=Zk l at_:=⟨_,rfl⟩
     rw[<-hp]at hst p1 p2 p3;refine Qa ?_;change Awp _ _ _ _ _ _ _;refine qO ?_;refine QB ?_;refine awp_rseq [0,2,4,6,7] (by rfl) fun K hK=>?_;simp+decide only[ev,putD,Slots.put,Slots.get,if_true,if_false,true_and,↓qj,qf];refine QI (by rfl) (by rfl) (c_pair w0 _ B kp _ l at_ (by repeat (first|exact AHeap.set_same _ _ _|assumption|refine(AHeap.set_ne _ _ (by first|assumption|exact Ne.symm (by assumption))).trans ?_)) (by repeat (first|exact Sub.refl _|assumption|refine Sub.set_both ?_ _ _|refine Sub.trans_set ?_ (by repeat (first|assumption|refine(AHeap.set_ne _ _ (by first|assumption|exact Ne.symm (by assumption))).trans ?_)))) hb hv (by omega) g1) fun x9q1 h9q1 hx9q1=>?_;rw[<-hp]at hx9q1;obtain⟨⟨ov,nw,rfl,hso,hsn,hrep⟩,rfl⟩:=hx9q1;have hlo:=Yp hso;have hln:=Yp hsn;simp+decide only[ev,putD,Slots.put,Slots.get,if_true,if_false,true_and,↓qj,qf,↓QJ,QA,QH,List.length_cons,List.length_nil,List.getD_cons_zero,List.getD_cons_succ,List.getD_cons_zero,List.getD_cons_succ,Nat.zero_add,Nat.reduceAdd];refine Qi ze46 (cs:=[.nilSlice, .nilSlice]) (by rfl) fun k9q5 hk9q5=>?_;have hn_9q5:h7q14 k9q5=none:=by first|assumption|(simp only[AHeap.set_none]at hk9q5;simp only[hk9q5])
     have hf_9q5:B k9q5=none:=Sub.none hs_h7q14 hn_9q5;have ne_9q5_p:k9q5≠kp:=AHeap.ne_some hn_9q5 eb_p;have ne_9q5_0q0:k9q5≠k0q0:=AHeap.ne_some hn_9q5 eb_0q0;have ne_9q5_3q11:k9q5≠k3q11:=AHeap.ne_some hn_9q5 eb_3q11;refine qm (by rfl) (by rfl) (by repeat (first|exact AHeap.set_same _ _ _|assumption|refine(AHeap.set_ne _ _ (by first|assumption|exact Ne.symm (by assumption))).trans ?_)) sz46 (by rfl) (by rfl) (by first|exact Nat.le_refl _|decide|(simp;done)|(simp;omega)) (Nat.zero_le _) (by first|rfl|(simp+decide only[ev,putD,Slots.put,Slots.get,if_true,if_false,AVal.cells,QF,Bool.and_true,hso,hsn])) ?_;simp only[AHeap.set_set,AVal.cells];simp+decide only[qa,ev,putD,Slots.put,Slots.get,Slots.keep,if_true,if_false,true_and,↓qd,qb,setAt,List.set_cons_zero,List.set_cons_succ,Nat.zero_add];apply hK;clear hK K;refine qO ?_;refine awp_rseq [0,2,4,6,58] (by rfl) fun K hK=>?_;simp+decide only[qa,ev,putD,Slots.put,Slots.get,Slots.keep,if_true,if_false,true_and,↓qj,qf,↓Yi,XE,ZY];apply hK;clear hK K;refine qL (b:=_) rfl (fun hb4=>?_) (fun hb4=>?_)
     ·try simp only[Bool.not_eq_true']at hb4
      rw[if_pos (by simpa using hb4)]at hst;rw[hPr,hst]at ho;refine awp_rseq [2,3] (by rfl) fun K hK=>?_;simp+decide only[ev,qJ,qG,putD,Slots.put,Slots.get,if_false,true_and,↓Qn,↓qV,bld91_,evP,List.map_nil];refine qm (by rfl) (by rfl) (by repeat (first|exact AHeap.set_same _ _ _|assumption|refine(AHeap.set_ne _ _ (by first|assumption|exact Ne.symm (by assumption))).trans ?_)) Uv (by rfl) (by rfl) (by first|exact Nat.le_refl _|decide|(simp;done)|(simp;omega)) (Nat.zero_le _) (by first|rfl|(simp+decide only[ev,putD,Slots.put,Slots.get,if_true,if_false,AVal.cells,QF,Bool.and_true,Bool.true_and,hso,hsn,Ub,XG,XN,Xz])) ?_;simp only[AVal.cells];simp+decide only[qa,ev,qJ,qG,putD,Slots.put,Slots.get,Slots.keep,if_true,if_false,true_and,↓qd,qb,setAt,List.set_cons_zero,List.set_cons_succ,Nat.zero_add,Nat.reduceAdd];apply hK;clear hK K;refine qN ?_;try simp only[Qf,Qr]
      refine QN (?_) ?_
      ·simp+decide only[Qw,qp,qi,Slots.get,if_true,if_false,and_true,qp,qi,qg qcO Uv,qW,qc,List.getD_cons_zero,List.getD_cons_succ,Nat.zero_add,Nat.reduceAdd,qB,qh,qE,QL,allLive,Bool.and_true,qc,List.getD_cons_zero,List.getD_cons_succ,Nat.zero_add,Nat.reduceAdd,qB,qh,qE,QL,allLive,Bool.and_true]
      simp+decide only[Slots.get,if_true,if_false,Xa,qp,qi,qg qcO Uv,qW,qc,List.getD_cons_zero,List.getD_cons_succ,Nat.zero_add,Nat.reduceAdd,qB,qh,qE,QL,allLive,Bool.and_true,qc,List.getD_cons_zero,List.getD_cons_succ,Nat.zero_add,Nat.reduceAdd,qB,qh,qE,QL,allLive,Bool.and_true];have hsG:Sub G h7q14:=(show Sub G H7 by rw[hH7];exact Sub.buf g6).trans hs7;have ho':O=noStm p.at_:=by rw[ho];rfl
      rw[ho'];refine⟨(G.set kp ⟨[.slice lc o l.length c, .int .i64 p.at_],0⟩).set k0q0 ⟨[.int .u8 0, .str [], .int .i64 0, .int .i64 0, .bool false, .nilSlice],0⟩,?_,?_⟩
      ·exact Sub.set_both (Sub.trans_set (Sub.set_both hsG _ _) ((AHeap.set_ne _ _ ne_9q5_p).trans (Sub.none hsG hn_9q5))) _ _
      ·exact⟨Zi (Zi g2 (ZM kp) _) hd0 _,(AHeap.set_ne _ _ ne_0q0_p.symm).trans (AHeap.set_same _ _ _), .nilSlice,B,rfl,NewE.refl _ _,hsB.trans (Zi (Zi g2 (ZM kp) _) hd0 _),IsReps.none⟩
     ·try simp only[Bool.not_eq_false']at hb4
      have hok:p.ok=true:=by simpa using hb4
      rw[if_neg (by rw[hok];decide)]at hst;have hsG:Sub G h7q14:=(show Sub G H7 by rw[hH7];exact Sub.buf g6).trans hs7;have hrp:=hrep hok;have p4:=(p3 hok).1;refine Qa ?_;change Awp _ _ _ _ _ _ _;refine XK [0,2,4] (by rfl) ?_;simp+decide only[ev,putD,Slots.put,Slots.get,if_true,if_false,true_and,↓qA,ql,fa91_1,↓qF,Qb,qy ag43,qg ag46 sz46,QU,ne_eq,not_false_eq_true,ne_9q5_3q11.symm,Qp w0 eb_3q11,ne_3q11_p,QV,qc,List.getD_cons_zero,List.getD_cons_succ,Nat.zero_add,allLive,Bool.and_true,hbl,hlo,hln];refine QC (cs:=[ov,nw]) (by kernel_rfl) fun k12q3 hk12q3=>?_;have ne_12q3_9q5:k12q3≠k9q5:=by simp only[AHeap.set_none]at hk12q3;simp only[hk12q3,ne_eq,not_false_eq_true]
      have hn_12q3:h7q14 k12q3=none:=by first|assumption|(simp only[AHeap.set_none]at hk12q3;simp only[hk12q3])
      have hf_12q3:B k12q3=none:=Sub.none hs_h7q14 hn_12q3;have ne_12q3_p:k12q3≠kp:=AHeap.ne_some hn_12q3 eb_p;have ne_12q3_0q0:k12q3≠k0q0:=AHeap.ne_some hn_12q3 eb_0q0;have ne_12q3_3q11:k12q3≠k3q11:=AHeap.ne_some hn_12q3 eb_3q11;refine XY (es:=2) (zs:=qs.map UN) (xs:=[[ov,nw]]) (hZ:=G.set kp ⟨[.slice lc o l.length c, .int .i64 p.at_],0⟩) (b:=pb) (by rfl) (by rfl) Tryz.underlying43 Tryz.underlying43 (fun k e=>by cases e) sz46 by46 ze46 (by rfl) (by decide) (by rfl) (ZH g6 g3 _) g7 repQC_wide (by rw[<-YS g6 g3,<-hH7];exact Sub.trans_set (Sub.trans_set (Sub.set_both hs7 _ _) ((AHeap.set_ne _ _ ne_9q5_p).trans (Sub.none hs7 hn_9q5))) ((AHeap.set_ne _ _ ne_12q3_p).trans (Sub.none hs7 hn_12q3))) (by rfl) (IsL.own (AHeap.set_same _ _ _) (by simp) (by rfl) (by simp[allLive,hlo,hln]) (.exact 1) (Nat.le_refl _)) (by simp[QF,hso,hsn]) (by simp;omega) (by simp;omega) fun pb2 h12 o1 o2 o3=>?_;have eb12:h12 k3q11=some ⟨[.int .u8 t.kind.toNat, .str t.text, .int .i64 t.line, .int .i64 t.col, .bool t.left,QT 2 pb],0⟩:=o3 _ _ (ZN o1 ((AHeap.set_ne _ _ ne_3q11_p).trans g5));simp+decide only[ev,putD,Slots.put,Slots.get,if_true,if_false,true_and,↓qA,ql,fa91_1,Nat.zero_add];refine qm (v:=QT 2 pb2) (by rfl) (by rfl) eb12 sz43 (Xm _ _) (by rw[qag];rfl) (Nat.le_refl _) (Nat.zero_le _) (by rw[qag];simp[QF,Ub]) ?_;simp only[setAt,qag];simp+decide only[qa,putD,Slots.keep,if_true,if_false];change Awp _ _ _ _ _ _ _;refine XK [0,2,4,5] (by rfl) ?_;simp+decide only[qa,ev,qJ,qG,putD,Slots.put,Slots.keep,if_true,if_false,true_and,↓qd,qb];try simp only[Ql]
      exact⟨(false,⟨p.at_,(G.set kp ⟨[.slice lc o l.length c, .int .i64 p.at_],0⟩).set k3q11 ⟨[.int .u8 t.kind.toNat, .str t.text, .int .i64 t.line, .int .i64 t.col, .bool t.left,QT 2 pb2],0⟩,pb2,qs++[(p.rep,ov,nw)]⟩),rfl,by rw[<-YS o1 ((AHeap.set_ne _ _ ne_3q11_p).trans g5)];exact Sub.set_both o3 _ _,⟨⟨p2,Zi (Zi g2 (ZM kp) _) (by simp[AHeap.del,ne_3q11_p,hn3H]) _,(AHeap.set_ne _ _ ne_3q11_p.symm).trans (AHeap.set_same _ _ _),(AHeap.set_ne _ _ ne_3q11_0q0.symm).trans ((AHeap.set_ne _ _ ne_0q0_p).trans g4),AHeap.set_same _ _ _,ZH o1 ((AHeap.set_ne _ _ ne_3q11_p).trans g5) _,by rw[o2,List.map_append];rfl,fun q hq=>by
       rcases List.mem_append.1 hq with z|z
       ·exact g8 q z
       ·rw[List.mem_singleton.1 z];exact hrp,by(simp only[List.length_append,List.length_cons,List.length_nil];omega)⟩,by simp only;rw[hPr,hst,List.map_append];rfl⟩,by simp only;omega⟩
    ·try simp only[decide_eq_false_iff_not,Bool.not_eq_false',Bool.and_eq_false_iff,Bool.or_eq_false_iff]at hb3
     have hst:=pairsR_step g1 first (qs.map (·.1))
     have hc3:¬(first=true\/(at_<l.length/\Xw l at_ [6]=false)):=by
      rintro(q|⟨q1,q2⟩)
      ·rw[q]at hb3
       exact absurd hb3.1 (by decide)
      ·rcases hb3.2 with z|z
       ·omega
       ·rw[q2]at z;cases z
     rw[if_neg hc3]at hst;rw[hst]at hPr;refine XL ?_;first
     |exact⟨⟨at_,G,pb,qs⟩,rfl,by rw[hH7]at hs7;exact hs7,⟨g1,g2,g3,g4,g5,g6,g7,g8,g9⟩,hPr⟩
     |exact⟨⟨i+1,(H3.set k3q11 ⟨[.int .u8 t.kind.toNat, .str t.text, .int .i64 t.line, .int .i64 t.col, .bool t.left, .nilSlice],0⟩).set kp ⟨[.slice lc o l.length c, .int .i64 ((i+1:Nat):Int)],0⟩,none,[]⟩,rfl,(by first|exact Sub.refl _|(simp only[QY,AHeap.set_set];exact Sub.refl _)),⟨by(simp only;omega),Zi (hd3.trans (Sub.set hn_3q11)) (ZM kp) _,AHeap.set_same _ _ _,(by repeat (first|exact AHeap.set_same _ _ _|assumption|refine(AHeap.set_ne _ _ (by first|assumption|exact Ne.symm (by assumption))).trans ?_)),(by repeat (first|exact AHeap.set_same _ _ _|assumption|refine(AHeap.set_ne _ _ (by first|assumption|exact Ne.symm (by assumption))).trans ?_)),trivial,rfl,(fun q hq=>by cases hq),Nat.zero_le _⟩,hP⟩
   ·skip
    rw[if_neg (by rw[hb2];decide)]at hP;rw[hb2,if_neg (by decide)];refine Qa ?_;try simp only[Ql]
    first
    |exact⟨⟨at_,G,pb,qs⟩,rfl,by rw[hH7]at hs7;exact hs7,⟨g1,g2,g3,g4,g5,g6,g7,g8,g9⟩,hPr⟩
    |exact⟨⟨i+1,(H3.set k3q11 ⟨[.int .u8 t.kind.toNat, .str t.text, .int .i64 t.line, .int .i64 t.col, .bool t.left, .nilSlice],0⟩).set kp ⟨[.slice lc o l.length c, .int .i64 ((i+1:Nat):Int)],0⟩,none,[]⟩,rfl,(by first|exact Sub.refl _|(simp only[QY,AHeap.set_set];exact Sub.refl _)),⟨by(simp only;omega),Zi (hd3.trans (Sub.set hn_3q11)) (ZM kp) _,AHeap.set_same _ _ _,(by repeat (first|exact AHeap.set_same _ _ _|assumption|refine(AHeap.set_ne _ _ (by first|assumption|exact Ne.symm (by assumption))).trans ?_)),(by repeat (first|exact AHeap.set_same _ _ _|assumption|refine(AHeap.set_ne _ _ (by first|assumption|exact Ne.symm (by assumption))).trans ?_)),trivial,rfl,(fun q hq=>by cases hq),Nat.zero_le _⟩,hP⟩
  ·rintro⟨at_,G,pb,qs⟩ ⟨⟨g1,g2,g3,g4,g5,g6,g7,g8,g9⟩,hPe⟩
   simp only at g1 g2 g3 g4 g5 g6 g7 g8 g9 hPe|-
   rw[hPe]at ho;obtain⟨H7,hH7⟩:∃H7,H7=QY G pb:=⟨_,rfl⟩
   have hs_H7:Sub B H7:=by rw[hH7];exact(hsB.trans g2).trans (Sub.buf g6)
   have hsG:Sub G H7:=by rw[hH7];exact Sub.buf g6
   have eb_p:H7 kp=some ⟨[.slice lc o l.length c, .int .i64 at_],0⟩:=by rw[hH7];exact ZN g6 g3
   have eb_0q0:H7 k0q0=some ⟨[.int .u8 0, .str [], .int .i64 0, .int .i64 0, .bool false, .nilSlice],0⟩:=by rw[hH7];exact ZN g6 g4
   have eb_3q11:H7 k3q11=some ⟨[.int .u8 t.kind.toNat, .str t.text, .int .i64 t.line, .int .i64 t.col, .bool t.left,QT 2 pb],0⟩:=by rw[hH7];exact ZN g6 g5
   have hbl:=Xm 2 pb;rw[<-hH7];refine qO ?_;skip;refine awp_rseq [0,2,4,69] (by rfl) fun K hK=>?_;simp+decide only[ev,putD,Slots.put,Slots.get,if_true,if_false,true_and,↓qj,qf];refine QC (cs:=byteCells [6]) (by kernel_rfl) fun k13q1 hk13q1=>?_;have hn_13q1:H7 k13q1=none:=by first|assumption|(simp only[AHeap.set_none]at hk13q1;simp only[hk13q1])
   have hf_13q1:B k13q1=none:=Sub.none hs_H7 hn_13q1;have ne_13q1_p:k13q1≠kp:=AHeap.ne_some hn_13q1 eb_p;have ne_13q1_0q0:k13q1≠k0q0:=AHeap.ne_some hn_13q1 eb_0q0;have ne_13q1_3q11:k13q1≠k3q11:=AHeap.ne_some hn_13q1 eb_3q11;refine qM (V:= .bool (Xw l at_ [6])) (by rfl) (by rfl) (c_is w0 _ kp _ l at_ _ [6] (by repeat (first|exact AHeap.set_same _ _ _|assumption|refine(AHeap.set_ne _ _ (by first|assumption|exact Ne.symm (by assumption))).trans ?_)) (hv.mono (by repeat (first|exact Sub.refl _|assumption|refine Sub.set_both ?_ _ _|refine Sub.trans_set ?_ (by repeat (first|assumption|refine(AHeap.set_ne _ _ (by first|assumption|exact Ne.symm (by assumption))).trans ?_))))) (qaL (k:=k13q1) (ks:=[6]) (by repeat (first|exact AHeap.set_same _ _ _|assumption|refine(AHeap.set_ne _ _ (by first|assumption|exact Ne.symm (by assumption))).trans ?_))) (by decide)) ?_;simp+decide only[qa,ev,putD,Slots.put,Slots.get,Slots.keep,if_true,if_false,true_and,↓Yi,XE,ZY];apply hK;clear hK K;refine qL (b:=_) rfl (fun hb5=>?_) (fun hb5=>?_)
   ·try simp only[Bool.not_eq_true']at hb5
    refine awp_rseq [2,3] (by rfl) fun K hK=>?_;simp+decide only[ev,qJ,qG,putD,Slots.put,Slots.get,if_false,true_and,↓Qn,↓qV,bld91_,evP,List.map_nil];refine qm (by rfl) (by rfl) (by repeat (first|exact AHeap.set_same _ _ _|assumption|refine(AHeap.set_ne _ _ (by first|assumption|exact Ne.symm (by assumption))).trans ?_)) Uv (by rfl) (by rfl) (by first|exact Nat.le_refl _|decide|(simp;done)|(simp;omega)) (Nat.zero_le _) (by first|rfl|(simp+decide only[ev,putD,Slots.put,Slots.get,if_true,if_false,AVal.cells,QF,Bool.and_true,Bool.true_and,hso,hsn,Ub,XG,XN,Xz])) ?_;simp only[AVal.cells];simp+decide only[qa,ev,qJ,qG,putD,Slots.put,Slots.get,Slots.keep,if_true,if_false,true_and,↓qd,qb,setAt,List.set_cons_zero,List.set_cons_succ,Nat.zero_add,Nat.reduceAdd];apply hK;clear hK K;refine qN ?_;try simp only[Qf]
    refine QN (?_) ?_
    ·simp+decide only[Qw,qp,qi,Slots.get,if_true,if_false,and_true,qp,qi,qg qcO Uv,qW,qc,List.getD_cons_zero,List.getD_cons_succ,Nat.zero_add,Nat.reduceAdd,qB,qh,qE,QL,allLive,Bool.and_true,qc,List.getD_cons_zero,List.getD_cons_succ,Nat.zero_add,Nat.reduceAdd,qB,qh,qE,QL,allLive,Bool.and_true]
    simp+decide only[Slots.get,if_true,if_false,Xa,qp,qi,qg qcO Uv,qW,qc,List.getD_cons_zero,List.getD_cons_succ,Nat.zero_add,Nat.reduceAdd,qB,qh,qE,QL,allLive,Bool.and_true,qc,List.getD_cons_zero,List.getD_cons_succ,Nat.zero_add,Nat.reduceAdd,qB,qh,qE,QL,allLive,Bool.and_true];have ho':O=noStm at_:=by
     rw[ho];unfold ZA;simp only[hb5,if_true,Bool.true_eq_false,if_false]
    rw[ho'];exact⟨G.set k0q0 ⟨[.int .u8 0, .str [], .int .i64 0, .int .i64 0, .bool false, .nilSlice],0⟩,Sub.set_both (Sub.trans_set hsG (Sub.none hsG hn_13q1)) _ _,Zi g2 hd0 _,(AHeap.set_ne _ _ ne_0q0_p.symm).trans g3, .nilSlice,B,rfl,NewE.refl _ _,hsB.trans (Zi g2 hd0 _),IsReps.none⟩
   ·try simp only[Bool.not_eq_false']at hb5
    have ho':O=⟨true,t,qs.map (·.1),at_+1⟩:=by
     rw[ho];unfold ZA;simp only[hb5,if_false,Bool.true_eq_false]
    refine Qa ?_;change Awp _ _ _ _ _ _ _;refine awp_rseq [2,4] (by rfl) fun K hK=>?_;simp+decide only[ev,qJ,qG,putD,Slots.put,Slots.get,if_true,if_false,true_and,↓qj,qf,↓Qh,qK,Qj,↓qA,ql,Yu,↓qF,Qb,qy ag3,↓qC,qo,qD,cond_false,qz,Xf,QU,ne_eq,not_false_eq_true,ne_13q1_p.symm,Qp w0 eb_p,List.getD_cons_zero,List.getD_cons_succ,Nat.zero_add,qh];try simp(disch:=omega)only[wrap_i64]
    refine qm (by rfl) (by rfl) (by repeat (first|exact AHeap.set_same _ _ _|assumption|refine(AHeap.set_ne _ _ (by first|assumption|exact Ne.symm (by assumption))).trans ?_)) sz3 (by rfl) (by rfl) (by first|exact Nat.le_refl _|decide|(simp;done)|(simp;omega)) (Nat.zero_le _) (by first|rfl|(simp+decide only[ev,putD,Slots.put,Slots.get,if_true,if_false,AVal.cells,QF,Bool.and_true,Bool.true_and,hso,hsn,Ub,XG,XN,Xz])) ?_;simp only[AVal.cells];simp+decide only[qa,ev,putD,Slots.get,Slots.keep,if_true,if_false,setAt,List.set_cons_zero,List.set_cons_succ];apply hK;clear hK K;refine awp_rseq [2,3] (by rfl) fun K hK=>?_;simp+decide only[ev,putD,Slots.put,Slots.get,if_true,if_false,true_and,↓qF,Qb,qg qcO Uv,QU,ne_eq,not_false_eq_true,ne_13q1_3q11.symm,Qp w0 eb_3q11,ne_3q11_p,qc,List.getD_cons_zero,List.getD_cons_succ,Nat.zero_add,Nat.reduceAdd,qB,qh,qE,allLive,Bool.and_true,hbl];refine qm (by rfl) (by rfl) (by repeat (first|exact AHeap.set_same _ _ _|assumption|refine(AHeap.set_ne _ _ (by first|assumption|exact Ne.symm (by assumption))).trans ?_)) Uv (by rfl) (by rfl) (by first|exact Nat.le_refl _|decide|(simp;done)|(simp;omega)) (Nat.zero_le _) (by first|rfl|(simp+decide only[ev,Slots.get,if_true,if_false,AVal.cells,QF,Bool.and_true,Ub,XG,XN,Xz])) ?_;simp only[AVal.cells];simp+decide only[qa,ev,qJ,qG,putD,Slots.put,Slots.get,Slots.keep,if_true,if_false,true_and,↓qd,qb,setAt,List.set_cons_zero,List.set_cons_succ,Nat.zero_add,Nat.reduceAdd];apply hK;clear hK K;refine qN ?_;refine QN (?_) ?_
    ·simp+decide only[Qw,qp,qi,Slots.get,if_true,if_false,and_true,qp,qi,qg qcO Uv,qW,qc,List.getD_cons_zero,List.getD_cons_succ,Nat.zero_add,Nat.reduceAdd,qB,qh,qE,allLive,Bool.and_true,qc,List.getD_cons_zero,List.getD_cons_succ,Nat.zero_add,Nat.reduceAdd,qB,qh,qE,allLive,Bool.and_true,hbl]
    simp+decide only[Slots.get,if_true,if_false,Xa,qp,qi,qg qcO Uv,qW,qc,List.getD_cons_zero,List.getD_cons_succ,Nat.zero_add,Nat.reduceAdd,qB,qh,qE,allLive,Bool.and_true,qc,List.getD_cons_zero,List.getD_cons_succ,Nat.zero_add,Nat.reduceAdd,qB,qh,qE,allLive,Bool.and_true,hbl];rw[ho'];have k1:bufOk ((G.set kp ⟨[.slice lc o l.length c, .int .i64 ((at_+1:Nat):Int)],0⟩).set k0q0 ⟨[.int .u8 t.kind.toNat, .str t.text, .int .i64 t.line, .int .i64 t.col, .bool t.left,QT 2 pb],0⟩) 2 pb:=ZH (ZH g6 g3 _) ((AHeap.set_ne _ _ ne_0q0_p).trans g4) _;have k2:bufOk B 2 pb:=g6.sub (hsB.trans g2);have k3:=(newE_buf (B:=B) g6 g2 g3).resolve_right (fun n=>n k2);refine⟨QY ((G.set kp ⟨[.slice lc o l.length c, .int .i64 ((at_+1:Nat):Int)],0⟩).set k0q0 ⟨[.int .u8 t.kind.toNat, .str t.text, .int .i64 t.line, .int .i64 t.col, .bool t.left,QT 2 pb],0⟩) pb,?_,?_,?_,QT 2 pb,QY B pb,rfl,k3,?_,qs,rfl,IsL.buf k2 (by decide) g7 repQC_wide (Sub.refl _),fun q hq=>(g8 q hq).mono k3.sub⟩
    ·rw[<-YS (ZH g6 g3 _) ((AHeap.set_ne _ _ ne_0q0_p).trans g4),<-YS g6 g3,<-hH7]
     exact Sub.set_both (Sub.set_both (Sub.set hn_13q1) _ _) _ _
    ·exact(Zi (Zi g2 (ZM kp) _) hd0 _).trans (Sub.buf k1)
    ·exact ZN k1 ((AHeap.set_ne _ _ ne_0q0_p.symm).trans (AHeap.set_same _ _ _))
    ·exact Sub.bufBoth (hsB.trans (Zi (Zi g2 (ZM kp) _) hd0 _))
end Go.Proofs.YtlhhaagmakhilaaGreatDoor
namespace Go.Proofs.YtlhhaagmakhilaaGreatDoor
open Go.AM
open Go.Proofs
open Go.Col
open Go.Tok
open Go.Cop
open Go.RowKit (Below)
set_option maxRecDepth 100000
theorem copy_step{l:List TokC}{i:Nat}(hi:i<l.length):Xu l i=if Zl l i COPY=true then i else Xu l (i+1):=by
 have hw:Zl l i COPY=(decide ((l.getD i noT).kind=1) && decide ((l.getD i noT).text=COPY)):=by
  unfold Zl Xw;rw[decide_eq_true hi,Bool.true_and];congr 1;simp
 unfold Xu;rw[drop_cons noT hi,List.takeWhile_cons,hw];cases (decide ((l.getD i noT).kind=1) && decide ((l.getD i noT).text=COPY))with
 |true=>simp
 |false=>
  simp only[Bool.not_false,if_true,Bool.false_eq_true,if_false,List.length_cons];omega
theorem copy_end{l:List TokC}{i:Nat}(hi:l.length<=i):Xu l i=i:=by
 unfold Xu;rw[List.drop_eq_nil_of_le hi];rfl
theorem NewE.none{B H E:AHeap}(h:NewE B H E){k:Nat}{c:Blk}(hk:H k=some c)(hb:B k=Option.none):E k=Option.none:=h.off k (by rw[hk];exact fun e=>by cases e) hb
def nextV(b:AVal)(t:TokC)(rv:AVal)(more:Bool)(f:FaultC):AVal:= .tuple [b, .agg (stmC t rv), .bool more,QS f]
def NextR(w0:World)(H B:AHeap)(kp:Nat)(v:AVal)(l:List TokC)(i:Nat)(r:AVal)(h':AHeap):Prop:=
 Sub (H.del kp) h'/\∃j:Nat,h' kp=some ⟨[v, .int .i64 j],0⟩/\j<=l.length/\
  ((l.length<=Xu l i/\∃bv,r=nextV bv noT .nilSlice false okF/\IsL w0 B 5 bv ((l.drop i).map Xv))\/
   (Xu l i<l.length/\(QG l (Xu l i+1)).ok=false/\r=nextV .nilSlice noT .nilSlice false (qcE l (Xu l i) (QG l (Xu l i+1)).at_))\/
   (Xu l i<l.length/\(QG l (Xu l i+1)).ok=true/\j=(QG l (Xu l i+1)).at_/\∃bv rv E,r=nextV bv (QG l (Xu l i+1)).name rv true okF/\IsL w0 B 5 bv ((Uw l i (Xu l i)).map Xv)/\NewE B H E/\Sub E h'/\IsReps w0 E rv (QG l (Xu l i+1)).reps))
set_option maxHeartbeats 2000000 in
theorem c_nextP(w0:World)(H B:AHeap)(kp:Nat)(v:AVal)(l:List TokC)(i:Nat)(eb_p:H kp=some ⟨[v, .int .i64 i],0⟩)(hs_H:Sub B H)(hb:B kp=none)(hv:IsL w0 B 5 v (l.map Xv))(hl:l.length<=1000000)(hi:i<=l.length):
 ACall Tryz.prog w0 43 [.ptr (.own kp) 0] H (NextR w0 H B kp v l i):=by
 have hlv:=hv.live;have nv:=Za hv;have hdel:Sub (H.del kp) H:=fun j b hj=>by
  by_cases e:j=kp
  ·subst e;rw[ZM]at hj;cases hj
  ·simpa[AHeap.del,e]using hj
 have hd_p:(H.del kp) kp=none:=ZM kp;have hsB:Sub B (H.del kp):=qbA hs_H hb;have hsl:∀a b,(subL 5 v a b).live=true:=fun a b=>Yp (operV_scal hv ⟨true,a,b,0⟩);have hrl:(AVal.bool true).live=true:=rfl;have hrc:(AVal.bool true).scal=true:=rfl;refine qR (n:=95) (rs:=[.tmp 2, .cell 3 91, .tmp 4, .cell 5 35]) Tryz.func43 rfl rfl rfl rfl (Nat.le_of_ble_eq_true rfl) ?_;simp only[Qc];refine awp_rseq [0,3,5] (by rfl) fun K hK=>?_;simp+decide only[ev,qJ,qG,putD,Slots.put,if_false,true_and,↓qd,qb];refine Qi ze91 (cs:=[.int .u8 0, .str [], .int .i64 0, .int .i64 0, .bool false, .nilSlice]) (by rfl) fun k0q1 hk0q1=>?_;have hn_0q1:H k0q1=none:=by first|assumption|(simp only[AHeap.set_none]at hk0q1;simp only[hk0q1])
 have hf_0q1:B k0q1=none:=Sub.none hs_H hn_0q1;have ne_0q1_p:k0q1≠kp:=AHeap.ne_some hn_0q1 eb_p;simp+decide only[ev,qJ,qG,putD,Slots.put,if_false,true_and,↓qd,qb];refine Qi qaF (cs:=[.int .i64 0, .int .i64 0, .int .i64 0]) (by rfl) fun k0q3 hk0q3=>?_;have ne_0q3_0q1:k0q3≠k0q1:=by simp only[AHeap.set_none]at hk0q3;simp only[hk0q3,ne_eq,not_false_eq_true]
 have hn_0q3:H k0q3=none:=by first|assumption|(simp only[AHeap.set_none]at hk0q3;simp only[hk0q3])
 have hf_0q3:B k0q3=none:=Sub.none hs_H hn_0q3;have ne_0q3_p:k0q3≠kp:=AHeap.ne_some hn_0q3 eb_p;simp+decide only[qa,putD,Slots.put,Slots.keep,if_true,if_false];apply hK;clear hK K;obtain⟨H0,hH0⟩:∃H0,H0=(H.set k0q1 ⟨[.int .u8 0, .str [], .int .i64 0, .int .i64 0, .bool false, .nilSlice],0⟩).set k0q3 ⟨[.int .i64 0, .int .i64 0, .int .i64 0],0⟩:=⟨_,rfl⟩
 refine Awp.forget (h':=H0) (by rw[hH0];exact Sub.refl _) ?_;have hs_H0:Sub B H0:=by rw[hH0];exact(by repeat (first|exact Sub.refl _|assumption|refine Sub.set_both ?_ _ _|refine Sub.trans_set ?_ (by repeat (first|assumption|refine(AHeap.set_ne _ _ (by first|assumption|exact Ne.symm (by assumption))).trans ?_))))
 have hd0:Sub (H.del kp) H0:=by rw[hH0];exact hdel.trans (Sub.trans_set (Sub.set hn_0q1) hn_0q3)
 have eb_p:H0 kp=some ⟨[v, .int .i64 i],0⟩:=by rw[hH0];exact(by repeat (first|exact AHeap.set_same _ _ _|assumption|refine(AHeap.set_ne _ _ (by first|assumption|exact Ne.symm (by assumption))).trans ?_))
 have eb_0q1:H0 k0q1=some ⟨[.int .u8 0, .str [], .int .i64 0, .int .i64 0, .bool false, .nilSlice],0⟩:=by rw[hH0];exact(by repeat (first|exact AHeap.set_same _ _ _|assumption|refine(AHeap.set_ne _ _ (by first|assumption|exact Ne.symm (by assumption))).trans ?_))
 have eb_0q3:H0 k0q3=some ⟨[.int .i64 0, .int .i64 0, .int .i64 0],0⟩:=by rw[hH0];exact(by repeat (first|exact AHeap.set_same _ _ _|assumption|refine(AHeap.set_ne _ _ (by first|assumption|exact Ne.symm (by assumption))).trans ?_))
 have hd_0q1:(H.del kp) k0q1=none:=hdel.none hn_0q1;have hd_0q3:(H.del kp) k0q3=none:=hdel.none hn_0q3;clear hH0;refine awp_rseq [0,3,5,6] (by rfl) fun K hK=>?_;simp+decide only[qa,ev,putD,Slots.put,Slots.get,Slots.keep,if_true,if_false,true_and,↓qj,qf,↓Qh,qK,Qj,↓qA,ql,Yu,↓qF,Qb,qy ag3,↓qd,qb,Qp w0 eb_p,List.getD_cons_zero,List.getD_cons_succ,Nat.zero_add,qh];apply hK;clear hK K;refine qO ?_;refine QB ?_;refine XH [0,3,5,6] (fun j:Nat=>[(0, .ptr (.own kp) 0),(3, .ptr (.own k0q1) 0),(5, .ptr (.own k0q3) 0),(6, .int .i64 i)]) (fun j:Nat=>H0.set kp ⟨[v, .int .i64 j],0⟩) (fun j:Nat=>i<=j/\j<=l.length/\Xu l j=Xu l i) (fun j:Nat=>l.length-j) i (by rfl) (by rw[set_id eb_p];exact Sub.refl _) ⟨Nat.le_refl _,hi,rfl⟩ ?_;rintro j ⟨hj1,hj2,hj3⟩;obtain⟨H1,hH1⟩:∃H1,H1=H0.set kp ⟨[v, .int .i64 j],0⟩:=⟨_,rfl⟩
 have hs_H1:Sub B H1:=by rw[hH1];exact Zi hs_H0 hb _
 have hd1:Sub (H.del kp) H1:=by rw[hH1];exact Zi hd0 hd_p _
 have eb_p:H1 kp=some ⟨[v, .int .i64 j],0⟩:=by rw[hH1];exact AHeap.set_same _ _ _
 have eb_0q1:H1 k0q1=some ⟨[.int .u8 0, .str [], .int .i64 0, .int .i64 0, .bool false, .nilSlice],0⟩:=by rw[hH1];exact(by repeat (first|exact AHeap.set_same _ _ _|assumption|refine(AHeap.set_ne _ _ (by first|assumption|exact Ne.symm (by assumption))).trans ?_))
 have eb_0q3:H1 k0q3=some ⟨[.int .i64 0, .int .i64 0, .int .i64 0],0⟩:=by rw[hH1];exact(by repeat (first|exact AHeap.set_same _ _ _|assumption|refine(AHeap.set_ne _ _ (by first|assumption|exact Ne.symm (by assumption))).trans ?_))
 rw[<-hH1];refine qO ?_;refine Zh [0,3,5,6,23] mixed (by kernel_rfl) (by rfl) (by rfl) fun K hK=>?_;simp+decide only[qa,ev,putD,Slots.put,Slots.get,Slots.keep,if_true,if_false,true_and,↓qj,qf,↓Qh,qK,Qj,↓qA,ql,Yu,↓qF,Qb,qy ag3,Us,qy UK,↓XA,QK,↓qC,qo,qZ,cond_false,qz,Zd,Qp w0 eb_p,List.getD_cons_zero,List.getD_cons_succ,Nat.zero_add,qh,hlv,nv];apply hK;clear hK K;refine qL (b:=_) rfl (fun hb1=>?_) (fun hb1=>?_)
 ·try simp only[decide_eq_true_eq]at hb1
  have hjl:j<l.length:=by omega
  obtain⟨W,hW⟩:∃W,W=Zl l j COPY:=⟨_,rfl⟩
  have hcs:=copy_step hjl;rw[<-hW]at hcs;refine Qa ?_;change Awp _ _ _ _ _ _ _;refine QB ?_;refine awp_rseq [0,3,5,6,7] (by rfl) fun K hK=>?_;simp+decide only[qa,ev,putD,Slots.put,Slots.get,Slots.keep,if_true,if_false,true_and,↓qj,qf,↓Qh,qK,Qj,↓qA,ql,Yu,↓qF,Qb,qy ag3,↓qd,qb,Qp w0 eb_p,List.getD_cons_zero,List.getD_cons_succ,Nat.zero_add,qh];apply hK;clear hK K;refine qO ?_;refine awp_rseq [0,3,5,6,7,30] (by rfl) fun K hK=>?_;simp+decide only[ev,putD,Slots.put,Slots.get,if_true,if_false,true_and,↓qj,qf];refine QI (by rfl) (by rfl) (c_wordH w0 _ B kp _ l j COPY (by repeat (first|exact AHeap.set_same _ _ _|assumption|refine(AHeap.set_ne _ _ (by first|assumption|exact Ne.symm (by assumption))).trans ?_)) (by repeat (first|exact Sub.refl _|assumption|refine Sub.set_both ?_ _ _|refine Sub.trans_set ?_ (by repeat (first|assumption|refine(AHeap.set_ne _ _ (by first|assumption|exact Ne.symm (by assumption))).trans ?_)))) hv (by omega)) fun x4q1 h4q1 hx4q1=>?_;rw[<-hW]at hx4q1;obtain⟨rfl,rfl⟩:=hx4q1;simp+decide only[qa,ev,putD,Slots.put,Slots.get,Slots.keep,if_true,if_false,true_and,↓Yi,XE,ZY];apply hK;clear hK K;refine qL (b:=_) rfl (fun hb2=>?_) (fun hb2=>?_)
  ·try simp only[Bool.not_eq_true']at hb2
   rw[if_neg (by simpa using hb2)]at hcs;have hWf:W=false:=by simpa using hb2
   rw[hWf,if_neg (by decide)];refine awp_rseq [0,3,5,6] (by rfl) fun K hK=>?_;simp+decide only[ev,qJ,qG,putD,Slots.put,Slots.get,if_true,if_false,true_and,↓qj,qf,↓Qh,qK,Qj,↓qA,ql,Yu,↓qF,Qb,qy ag3,↓qC,qo,qD,cond_false,qz,Xf,QV,List.getD_cons_zero,List.getD_cons_succ,Nat.zero_add,qh];try simp(disch:=omega)only[wrap_i64]
   refine qm (by rfl) (by rfl) (by repeat (first|exact AHeap.set_same _ _ _|assumption|refine(AHeap.set_ne _ _ (by first|assumption|exact Ne.symm (by assumption))).trans ?_)) sz3 (by rfl) (by rfl) (by first|exact Nat.le_refl _|decide|(simp;done)|(simp;omega)) (Nat.zero_le _) (by first|rfl|(simp+decide only[ev,putD,Slots.put,Slots.get,if_true,if_false,AVal.cells,QF,Bool.and_true,Bool.true_and,hrc,XG,XN,Xz])) ?_;simp only[AHeap.set_set,AVal.cells];simp+decide only[qa,ev,putD,Slots.get,Slots.keep,if_true,if_false,setAt,List.set_cons_zero,List.set_cons_succ];apply hK;clear hK K;refine XL ?_;exact⟨j+1,rfl,by(rw[hH1];simp only[AHeap.set_set];exact Sub.refl _),⟨by omega,hjl,by rw[<-hcs];exact hj3⟩,by omega⟩
  ·try simp only[Bool.not_eq_false']at hb2
   rw[if_pos (by simpa using hb2)]at hcs;have hci:Xu l i=j:=by rw[<-hj3];exact hcs
   have hWt:W=true:=by simpa using hb2
   rw[hWt,if_pos rfl];refine Qa ?_;change Awp _ _ _ _ _ _ _;refine awp_rseq [0,3,5,6,7,8,9] (by rfl) fun K hK=>?_;simp+decide only[ev,putD,Slots.put,Slots.get,if_true,if_false,true_and,↓qj,qf];refine QI (by rfl) (by rfl) (c_statement w0 _ B kp v l (j+1) (by repeat (first|exact AHeap.set_same _ _ _|assumption|refine(AHeap.set_ne _ _ (by first|assumption|exact Ne.symm (by assumption))).trans ?_)) (by repeat (first|exact Sub.refl _|assumption|refine Sub.set_both ?_ _ _|refine Sub.trans_set ?_ (by repeat (first|assumption|refine(AHeap.set_ne _ _ (by first|assumption|exact Ne.symm (by assumption))).trans ?_)))) hb hv hl (by omega)) fun x6q1 h6q1 hx6q1=>?_;obtain⟨st,hst⟩:∃st,st=QG l (j+1):=⟨_,rfl⟩
   rw[<-hst]at hx6q1;obtain⟨hsub6,eb_p,rv,E,rfl,hE6,hE6s,hrp⟩:=hx6q1;have hstm:=qaI (l:=l) (i:=j+1) (by omega);rw[<-hst]at hstm;have hd6':Sub (H.del kp) ((H1.set kp ⟨[v, .int .i64 ((j+1:Nat):Int)],0⟩).del kp):=qbA (Zi hd1 hd_p _) hd_p;have hd6:Sub (H.del kp) h6q1:=hd6'.trans hsub6;have hs_h6q1:Sub B h6q1:=(qbA (Zi hs_H1 hb _) hb).trans hsub6;have he_0q1:E k0q1=none:=hE6.none ((AHeap.set_ne _ _ ne_0q1_p).trans eb_0q1) hf_0q1;have he_0q3:E k0q3=none:=hE6.none ((AHeap.set_ne _ _ ne_0q3_p).trans eb_0q3) hf_0q3;have he_p:E kp=none:=hE6.none (AHeap.set_same _ _ _) hb;have hE:NewE B H E:=⟨hE6.sub,fun q h1 h2=>hE6.off q (fun e=>by
    by_cases e2:q=kp
    ·subst e2;rw[AHeap.set_same]at e;cases e
    ·have:(H.del kp) q=none:=(Zi hd1 hd_p _).none e
     simp only[AHeap.del,e2,if_false]at this;exact h1 this) h2⟩
   have eb_0q1:h6q1 k0q1=some ⟨[.int .u8 0, .str [], .int .i64 0, .int .i64 0, .bool false, .nilSlice],0⟩:=hsub6 _ _ (by rw[AHeap.del_set];simp only[AHeap.del,ne_0q1_p,if_false];exact eb_0q1);have eb_0q3:h6q1 k0q3=some ⟨[.int .i64 0, .int .i64 0, .int .i64 0],0⟩:=hsub6 _ _ (by rw[AHeap.del_set];simp only[AHeap.del,ne_0q3_p,if_false];exact eb_0q3);have hrc:rv.scal=true:=by obtain⟨qs,-,q2,-⟩:=hrp;exact q2.scal
   have hrl:=Yp hrc;unfold stmC;simp+decide only[ev,putD,Slots.put,Slots.get,if_true,if_false,true_and,↓qj,qf,↓QJ,QA,QH,List.length_cons,List.length_nil,List.getD_cons_zero,List.getD_cons_succ,List.getD_cons_zero,List.getD_cons_succ,Nat.zero_add,Nat.reduceAdd];refine Qi ze91 (cs:=[.int .u8 0, .str [], .int .i64 0, .int .i64 0, .bool false, .nilSlice]) (by rfl) fun k6q5 hk6q5=>?_;have hn_6q5:h6q1 k6q5=none:=by first|assumption|(simp only[AHeap.set_none]at hk6q5;simp only[hk6q5])
   have hf_6q5:B k6q5=none:=Sub.none hs_h6q1 hn_6q5;have ne_6q5_p:k6q5≠kp:=AHeap.ne_some hn_6q5 eb_p;have ne_6q5_0q1:k6q5≠k0q1:=AHeap.ne_some hn_6q5 eb_0q1;have ne_6q5_0q3:k6q5≠k0q3:=AHeap.ne_some hn_6q5 eb_0q3;refine qm (by rfl) (by rfl) (by repeat (first|exact AHeap.set_same _ _ _|assumption|refine(AHeap.set_ne _ _ (by first|assumption|exact Ne.symm (by assumption))).trans ?_)) Uv (by rfl) (by rfl) (by first|exact Nat.le_refl _|decide|(simp;done)|(simp;omega)) (Nat.zero_le _) (by first|rfl|(simp+decide only[ev,putD,Slots.put,Slots.get,if_true,if_false,AVal.cells,QF,Bool.and_true,hrc,XG,XN,Xz])) ?_;simp only[AHeap.set_set,AVal.cells];simp+decide only[qa,ev,putD,Slots.put,Slots.get,Slots.keep,if_true,if_false,true_and,↓qd,qb,setAt,List.set_cons_zero,List.set_cons_succ,Nat.zero_add,Nat.reduceAdd];apply hK;clear hK K;refine qO ?_;refine awp_rseq [0,3,5,6,7,8,44] (by rfl) fun K hK=>?_;simp+decide only[qa,ev,putD,Slots.put,Slots.get,Slots.keep,if_true,if_false,true_and,↓qj,qf,↓Yi,XE,ZY];apply hK;clear hK K;refine qL (b:=_) rfl (fun hb3=>?_) (fun hb3=>?_)
   ·try simp only[Bool.not_eq_true']at hb3
    have hok:st.ok=false:=by simpa using hb3
    obtain⟨lc,o,c,rfl⟩:=qan hv (by omega);refine Awp.forget (h':=h6q1) (Sub.set hn_6q5) ?_;obtain⟨-,-,e2,e3,-⟩:=qcn (hv.mono hs_h6q1) hjl;have e3':rd w0 h6q1 lc (o+j*5+2+1)= .int .i64 (l.getD j UL).col:=e3;refine awp_rseq [0,3,5] (by rfl) fun K hK=>?_;simp+decide only[ev,qJ,qG,putD,Slots.put,Slots.get,if_true,if_false,true_and,↓qj,qf,↓Qh,qK,Qj,↓qA,ql,Us,↓qF,Qb,qy UK,↓Xi,Qs Tryz.underlying26 Xg,fa54_2,qg ag33 qaZ,↓Qn,↓qV,Ud,evP,List.map_cons,List.map_nil,Qp w0 eb_p,qc,List.getD_cons_zero,Nat.zero_add,qh,allLive,Bool.and_true,hlv,e2,e3',Int.toNat_natCast];repeat (with_reducible refine And.intro ?_ ?_;· first|trivial|omega|(intro hg;simp only[Bool.and_eq_true,Bool.or_eq_true,Bool.not_eq_true',Bool.and_eq_false_iff,Bool.or_eq_false_iff,Bool.not_eq_false',decide_eq_true_eq,decide_eq_false_iff_not,Zt]at hg;omega))
    refine qm (by rfl) (by rfl) (by repeat (first|exact AHeap.set_same _ _ _|assumption|refine(AHeap.set_ne _ _ (by first|assumption|exact Ne.symm (by assumption))).trans ?_)) QD (by rfl) (by rfl) (by first|exact Nat.le_refl _|decide|(simp;done)|(simp;omega)) (Nat.zero_le _) (by first|rfl|(simp+decide only[ev,putD,Slots.put,Slots.get,if_true,if_false,AVal.cells,QF,Bool.and_true,Bool.true_and,hrc,XG,XN,Xz])) ?_;simp only[AVal.cells];simp+decide only[qa,ev,putD,Slots.get,Slots.keep,if_true,if_false,setAt,List.set_cons_zero,List.set_cons_succ,Nat.zero_add,Nat.reduceAdd];apply hK;clear hK K;refine qO ?_;refine Zh [0,3,5,63] mixed (by kernel_rfl) (by rfl) (by rfl) fun K hK=>?_;simp+decide only[qa,ev,putD,Slots.put,Slots.get,Slots.keep,if_true,if_false,true_and,↓qj,qf,↓Qh,qK,Qj,↓qA,ql,Yu,↓qF,Qb,qy ag3,Us,qy UK,↓XA,QK,XV Tryz.underlying26,↓qC,qo,qZ,cond_false,qz,Zd,QU,ne_eq,not_false_eq_true,Qp w0 eb_p,ne_0q3_p.symm,List.getD_cons_zero,List.getD_cons_succ,Nat.zero_add,qh,hlv];apply hK;clear hK K;refine qL (b:=_) rfl (fun hb4=>?_) (fun hb4=>?_)
    ·try simp only[decide_eq_true_eq]at hb4
     have hat:st.at_<l.length:=by omega
     obtain⟨-,-,d2,d3,-⟩:=qcn (hv.mono (Zi hs_h6q1 hf_0q3 ⟨[.int .i64 4, .int .i64 (l.getD j UL).line, .int .i64 (l.getD j UL).col],0⟩)) hat;have d3':rd w0 (h6q1.set k0q3 ⟨[.int .i64 4, .int .i64 (l.getD j UL).line, .int .i64 (l.getD j UL).col],0⟩) lc (o+st.at_*5+2+1)= .int .i64 (l.getD st.at_ UL).col:=d3;refine qam 12 mixed (by kernel_rfl) (by rfl) (by rfl) ?_;simp+decide only[ev,putD,Slots.put,Slots.get,if_true,if_false,true_and,↓qj,qf,↓Qh,qK,Qj,↓qA,ql,Us,↓qF,Qb,qy UK,Yu,qy ag3,↓Xi,Qs Tryz.underlying26 Xg,fa54_2,qg ag33 qaZ,fa35_1,QU,ne_eq,not_false_eq_true,Qp w0 eb_p,ne_0q3_p.symm,qc,List.getD_cons_zero,List.getD_cons_succ,Nat.zero_add,qh,allLive,Bool.and_true,hlv,d2,d3',Int.toNat_natCast];repeat (with_reducible refine And.intro ?_ ?_;· first|trivial|omega|(intro hg;simp only[Bool.and_eq_true,Bool.or_eq_true,Bool.not_eq_true',Bool.and_eq_false_iff,Bool.or_eq_false_iff,Bool.not_eq_false',decide_eq_true_eq,decide_eq_false_iff_not,Zt]at hg;omega))
     refine qm (by rfl) (by rfl) (by repeat (first|exact AHeap.set_same _ _ _|assumption|refine(AHeap.set_ne _ _ (by first|assumption|exact Ne.symm (by assumption))).trans ?_)) qaZ (by rfl) (by rfl) (by first|exact Nat.le_refl _|decide|(simp;done)|(simp;omega)) (Nat.zero_le _) (by first|rfl|(simp+decide only[ev,putD,Slots.put,Slots.get,if_true,if_false,AVal.cells,QF,Bool.and_true,Bool.true_and,hrc,XG,XN,Xz])) ?_;simp only[AHeap.set_set,AVal.cells];simp+decide only[qa,ev,putD,Slots.get,if_true,if_false,setAt,List.set_cons_zero,List.set_cons_succ,Nat.reduceAdd];change Awp _ _ _ _ _ _ _;refine awp_dseq_G 3 [1] [k0q3] [2,3,4,5] mixed (by kernel_rfl) (by rfl) fun K hK=>?_;simp only[List.take_succ_cons,List.take_zero,List.drop_succ_cons,List.drop_zero];simp+decide only[YI,ev,qJ,qG,putD,Slots.put,Slots.get,if_true,if_false,true_and,↓qao,↓qV,bld91_,evP,List.map_nil,↓WH,Zr,qg Xh QD,↓fp_assign,qb,QV,qc,List.getD_cons_zero,List.getD_cons_succ,Nat.zero_add,Nat.reduceAdd,qh,allLive,Bool.and_true];refine And.intro (by simp(decide:=true) [qbP,ev,Slots.get]) ?_;refine qaT ?_;refine qm (by rfl) (by rfl) (by repeat (first|exact AHeap.set_same _ _ _|assumption|refine(AHeap.set_ne _ _ (by first|assumption|exact Ne.symm (by assumption))).trans ?_)) Uv (by rfl) (by rfl) (by first|exact Nat.le_refl _|decide|(simp;done)|(simp;omega)) (Nat.zero_le _) (by first|rfl|(simp+decide only[ev,putD,Slots.put,Slots.get,if_true,if_false,AVal.cells,QF,Bool.and_true,Bool.true_and,hrc,XG,XN,Xz])) ?_;simp only[AVal.cells];rw[qa];refine And.intro (by intro k hk;simp only[List.mem_cons,List.not_mem_nil,or_false]at hk;first|rfl|(first|subst hk|(rcases hk with rfl|rfl|rfl|rfl|rfl));all_goals (simp[AHeap.set,ne_0q3_0q1]<;>rfl)) ?_;simp+decide only[ev,qJ,qG,putD,Slots.put,Slots.get,if_true,if_false,true_and,↓kp_assign,qb,setAt,List.set_cons_zero,List.set_cons_succ,Nat.zero_add,Nat.reduceAdd];refine qaT ?_;refine qm (by rfl) (by rfl) (by repeat (first|exact AHeap.set_same _ _ _|assumption|refine(AHeap.set_ne _ _ (by first|assumption|exact Ne.symm (by assumption))).trans ?_)) QD (by rfl) (by rfl) (by first|exact Nat.le_refl _|decide|(simp;done)|(simp;omega)) (Nat.zero_le _) (by first|rfl|(simp+decide only[ev,putD,Slots.put,Slots.get,if_true,if_false,AVal.cells,QF,Bool.and_true,Bool.true_and,hrc,XG,XN,Xz])) ?_;simp only[AVal.cells];rw[qa];refine And.intro (by intro k hk;simp only[List.mem_cons,List.not_mem_nil,or_false]at hk;first|rfl|(first|subst hk|(rcases hk with rfl|rfl|rfl|rfl|rfl));all_goals (simp[AHeap.set,ne_0q3_0q1]<;>rfl)) ?_;simp+decide only[kOps_nil,ev,putD,Slots.get,Slots.keep,if_true,if_false,setAt,List.set_cons_zero,List.set_cons_succ,Nat.zero_add,Nat.reduceAdd];apply hK;clear hK K;refine qN ?_;try simp only[Qf,Qr]
     refine QN (?_) ?_
     ·simp+decide only[Qw,qp,qi,Slots.get,if_true,if_false,and_true,qp,qi,qg qcO Uv,qg Xh QD,qW,qc,List.getD_cons_zero,List.getD_cons_succ,Nat.zero_add,Nat.reduceAdd,qB,qh,qE,QL,allLive,Bool.and_true,QU,ne_eq,not_false_eq_true,ne_0q3_0q1.symm,qc,List.getD_cons_zero,List.getD_cons_succ,Nat.zero_add,Nat.reduceAdd,qB,qh,qE,QL,allLive,Bool.and_true]
     simp+decide only[Slots.get,if_true,if_false,qbB,qp,qi,qg qcO Uv,qg Xh QD,qW,qc,List.getD_cons_zero,List.getD_cons_succ,Nat.zero_add,Nat.reduceAdd,qB,qh,qE,QL,allLive,Bool.and_true,QU,ne_eq,not_false_eq_true,ne_0q3_0q1.symm,qc,List.getD_cons_zero,List.getD_cons_succ,Nat.zero_add,Nat.reduceAdd,qB,qh,qE,QL,allLive,Bool.and_true];refine⟨_,Sub.refl _,(by repeat (first|exact Sub.refl _|assumption|refine Sub.set_both ?_ _ _|refine Sub.trans_set ?_ (by repeat (first|assumption|refine(AHeap.set_ne _ _ (by first|assumption|exact Ne.symm (by assumption))).trans ?_)))),st.at_,(by repeat (first|exact AHeap.set_same _ _ _|assumption|refine(AHeap.set_ne _ _ (by first|assumption|exact Ne.symm (by assumption))).trans ?_)),hstm.2.1, .inr (.inl ⟨by rw[hci];exact hjl,by rw[hci,<-hst];exact hok,?_⟩)⟩;rw[hci,<-hst];unfold nextV QS qcE;rw[if_pos hat];rfl
    ·try simp only[decide_eq_false_iff_not]at hb4
     refine Qa ?_;change Awp _ _ _ _ _ _ _;refine awp_dseq_G 3 [1] [k0q3] [2,3,4,5] mixed (by kernel_rfl) (by rfl) fun K hK=>?_;simp only[List.take_succ_cons,List.take_zero,List.drop_succ_cons,List.drop_zero];simp+decide only[YI,ev,qJ,qG,putD,Slots.put,Slots.get,if_true,if_false,true_and,↓qao,↓qV,bld91_,evP,List.map_nil,↓WH,Zr,qg Xh QD,↓fp_assign,qb,QV,qc,List.getD_cons_zero,List.getD_cons_succ,Nat.zero_add,Nat.reduceAdd,qh,allLive,Bool.and_true];refine And.intro (by simp(decide:=true) [qbP,ev,Slots.get]) ?_;refine qaT ?_;refine qm (by rfl) (by rfl) (by repeat (first|exact AHeap.set_same _ _ _|assumption|refine(AHeap.set_ne _ _ (by first|assumption|exact Ne.symm (by assumption))).trans ?_)) Uv (by rfl) (by rfl) (by first|exact Nat.le_refl _|decide|(simp;done)|(simp;omega)) (Nat.zero_le _) (by first|rfl|(simp+decide only[ev,putD,Slots.put,Slots.get,if_true,if_false,AVal.cells,QF,Bool.and_true,Bool.true_and,hrc,XG,XN,Xz])) ?_;simp only[AVal.cells];rw[qa];refine And.intro (by intro k hk;simp only[List.mem_cons,List.not_mem_nil,or_false]at hk;first|rfl|(first|subst hk|(rcases hk with rfl|rfl|rfl|rfl|rfl));all_goals (simp[AHeap.set,ne_0q3_0q1]<;>rfl)) ?_;simp+decide only[ev,qJ,qG,putD,Slots.put,Slots.get,if_true,if_false,true_and,↓kp_assign,qb,setAt,List.set_cons_zero,List.set_cons_succ,Nat.zero_add,Nat.reduceAdd];refine qaT ?_;refine qm (by rfl) (by rfl) (by repeat (first|exact AHeap.set_same _ _ _|assumption|refine(AHeap.set_ne _ _ (by first|assumption|exact Ne.symm (by assumption))).trans ?_)) QD (by rfl) (by rfl) (by first|exact Nat.le_refl _|decide|(simp;done)|(simp;omega)) (Nat.zero_le _) (by first|rfl|(simp+decide only[ev,putD,Slots.put,Slots.get,if_true,if_false,AVal.cells,QF,Bool.and_true,Bool.true_and,hrc,XG,XN,Xz])) ?_;simp only[AVal.cells];rw[qa];refine And.intro (by intro k hk;simp only[List.mem_cons,List.not_mem_nil,or_false]at hk;first|rfl|(first|subst hk|(rcases hk with rfl|rfl|rfl|rfl|rfl));all_goals (simp[AHeap.set,ne_0q3_0q1]<;>rfl)) ?_;simp+decide only[kOps_nil,ev,putD,Slots.get,Slots.keep,if_true,if_false,setAt,List.set_cons_zero,List.set_cons_succ,Nat.zero_add,Nat.reduceAdd];apply hK;clear hK K;refine qN ?_;try simp only[Qf,Qr]
     refine QN (?_) ?_
     ·simp+decide only[Qw,qp,qi,Slots.get,if_true,if_false,and_true,qp,qi,qg qcO Uv,qg Xh QD,qW,qc,List.getD_cons_zero,List.getD_cons_succ,Nat.zero_add,Nat.reduceAdd,qB,qh,qE,QL,allLive,Bool.and_true,QU,ne_eq,not_false_eq_true,ne_0q3_0q1.symm,qc,List.getD_cons_zero,List.getD_cons_succ,Nat.zero_add,Nat.reduceAdd,qB,qh,qE,QL,allLive,Bool.and_true]
     simp+decide only[Slots.get,if_true,if_false,qbB,qp,qi,qg qcO Uv,qg Xh QD,qW,qc,List.getD_cons_zero,List.getD_cons_succ,Nat.zero_add,Nat.reduceAdd,qB,qh,qE,QL,allLive,Bool.and_true,QU,ne_eq,not_false_eq_true,ne_0q3_0q1.symm,qc,List.getD_cons_zero,List.getD_cons_succ,Nat.zero_add,Nat.reduceAdd,qB,qh,qE,QL,allLive,Bool.and_true];refine⟨_,Sub.refl _,(by repeat (first|exact Sub.refl _|assumption|refine Sub.set_both ?_ _ _|refine Sub.trans_set ?_ (by repeat (first|assumption|refine(AHeap.set_ne _ _ (by first|assumption|exact Ne.symm (by assumption))).trans ?_)))),st.at_,(by repeat (first|exact AHeap.set_same _ _ _|assumption|refine(AHeap.set_ne _ _ (by first|assumption|exact Ne.symm (by assumption))).trans ?_)),hstm.2.1, .inr (.inl ⟨by rw[hci];exact hjl,by rw[hci,<-hst];exact hok,?_⟩)⟩;rw[hci,<-hst];unfold nextV QS qcE;rw[if_neg (by omega)];rfl
   ·try simp only[Bool.not_eq_false']at hb3
    have hok:st.ok=true:=by simpa using hb3
    have hsl2:=hv.slice Tryz.underlying26 Xg (some (.int .i64 i)) (some (.int .i64 j)) (l:=i) (r:=j) rfl rfl (by omega) (by omega) (by rw[List.length_map];omega);refine Qa ?_;change Awp _ _ _ _ _ _ _;refine Ww 10 [8] [2,3,4,5] mixed (by kernel_rfl) (by rfl) fun K hK=>?_;simp only[List.take_succ_cons,List.take_zero,List.drop_succ_cons,List.drop_zero];simp+decide only[YI,ev,qJ,qG,putD,Slots.put,Slots.get,if_true,if_false,true_and,↓Um,qf,↓Wn,qK,Qj,↓Zu,ql,Us,↓WH,Zr,qy UK,↓fp_slice,ZK,evO,qg qcO Uv,↓qao,↓qV,ZI,evP,List.map_nil,↓fp_assign,qb,QU,ne_eq,not_false_eq_true,ne_6q5_p.symm,Qp w0 eb_p,QV,qc,List.getD_cons_zero,List.getD_cons_succ,Nat.zero_add,Nat.reduceAdd,qB,qh,qE,allLive,Bool.and_true,hlv,hrl,hsl2];refine qm (by rfl) (by rfl) (by repeat (first|exact AHeap.set_same _ _ _|assumption|refine(AHeap.set_ne _ _ (by first|assumption|exact Ne.symm (by assumption))).trans ?_)) Uv (by rfl) (by rfl) (by first|exact Nat.le_refl _|decide|(simp;done)|(simp;omega)) (Nat.zero_le _) (by first|rfl|(simp+decide only[ev,Slots.get,if_true,if_false,AVal.cells,QF,Bool.and_true,hrc,XG,XN,Xz])) ?_;simp only[AVal.cells];simp+decide only[ev,qJ,qG,putD,Slots.put,Slots.get,if_true,if_false,true_and,↓qd,qb,setAt,List.set_cons_zero,List.set_cons_succ,Nat.zero_add,Nat.reduceAdd];refine qm (by rfl) (by rfl) (by repeat (first|exact AHeap.set_same _ _ _|assumption|refine(AHeap.set_ne _ _ (by first|assumption|exact Ne.symm (by assumption))).trans ?_)) QD (by rfl) (by rfl) (by first|exact Nat.le_refl _|decide|(simp;done)|(simp;omega)) (Nat.zero_le _) (by first|rfl|(simp+decide only[ev,putD,Slots.put,Slots.get,if_true,if_false,AVal.cells,QF,Bool.and_true,Bool.true_and,hrc,XG,XN,Xz])) ?_;simp only[AVal.cells];simp+decide only[qa,ev,putD,Slots.get,Slots.keep,if_true,if_false,setAt,List.set_cons_zero,List.set_cons_succ,Nat.zero_add,Nat.reduceAdd];apply hK;clear hK K;refine qN ?_;try simp only[Qf,Qr]
    refine QN (?_) ?_
    ·simp+decide only[Qw,qp,qi,Slots.get,if_true,if_false,and_true,qp,qi,qg qcO Uv,qg Xh QD,qW,qc,List.getD_cons_zero,List.getD_cons_succ,Nat.zero_add,Nat.reduceAdd,qB,qh,qE,allLive,Bool.and_true,QU,ne_eq,not_false_eq_true,ne_0q3_0q1.symm,qc,List.getD_cons_zero,List.getD_cons_succ,Nat.zero_add,Nat.reduceAdd,qB,qh,qE,allLive,Bool.and_true,hrl]
    simp+decide only[Slots.get,if_true,if_false,qbB,qp,qi,qg qcO Uv,qg Xh QD,qW,qc,List.getD_cons_zero,List.getD_cons_succ,Nat.zero_add,Nat.reduceAdd,qB,qh,qE,allLive,Bool.and_true,QU,ne_eq,not_false_eq_true,ne_0q3_0q1.symm,qc,List.getD_cons_zero,List.getD_cons_succ,Nat.zero_add,Nat.reduceAdd,qB,qh,qE,allLive,Bool.and_true,hrl];have hd_6q5:(H.del kp) k6q5=none:=hd6.none hn_6q5;refine⟨_,Sub.refl _,(by repeat (first|exact Sub.refl _|assumption|refine Sub.set_both ?_ _ _|refine Sub.trans_set ?_ (by repeat (first|assumption|refine(AHeap.set_ne _ _ (by first|assumption|exact Ne.symm (by assumption))).trans ?_)))),st.at_,(by repeat (first|exact AHeap.set_same _ _ _|assumption|refine(AHeap.set_ne _ _ (by first|assumption|exact Ne.symm (by assumption))).trans ?_)),hstm.2.1, .inr (.inr ⟨by rw[hci];exact hjl,by rw[hci,<-hst];exact hok,by rw[hci,<-hst],subL 5 v i j,rv,E,?_,?_,hE,?_,?_⟩)⟩
    ·rw[hci,<-hst];rfl
    ·rw[hci];exact qdo hv (o:=⟨true,i,j,0⟩) hj1 hj2 rfl
    ·have he_6q5:E k6q5=none:=hE6s.none hn_6q5
     exact(by repeat (first|exact Sub.refl _|assumption|refine Sub.set_both ?_ _ _|refine Sub.trans_set ?_ (by repeat (first|assumption|refine(AHeap.set_ne _ _ (by first|assumption|exact Ne.symm (by assumption))).trans ?_))))
    ·rw[hci,<-hst];exact hrp
 ·try simp only[decide_eq_false_iff_not]at hb1
  have hje:j=l.length:=by omega
  have hce:Xu l j=j:=copy_end (by omega);have hsl3:=hv.slice Tryz.underlying26 Xg (some (.int .i64 i)) none (l:=i) (r:=l.length) rfl (by rw[List.length_map];rfl) (by omega) (by omega) (by rw[List.length_map];omega);refine XL ?_;change Awp _ _ _ _ _ _ _;refine awp_rseq [2,3,4,5] (by rfl) fun K hK=>?_;simp+decide only[ev,qJ,qG,putD,Slots.put,Slots.get,if_true,if_false,true_and,↓qj,qf,↓Qh,qK,Qj,↓qA,ql,Us,↓qF,Qb,qy UK,↓UJ,ZK,evO,↓Qn,↓qV,bld91_,evP,List.map_nil,ZI,↓qd,qb,Qp w0 eb_p,List.getD_cons_zero,Nat.zero_add,hlv,hsl3];refine qm (by rfl) (by rfl) (by repeat (first|exact AHeap.set_same _ _ _|assumption|refine(AHeap.set_ne _ _ (by first|assumption|exact Ne.symm (by assumption))).trans ?_)) Uv (by rfl) (by rfl) (by first|exact Nat.le_refl _|decide|(simp;done)|(simp;omega)) (Nat.zero_le _) (by first|rfl|(simp+decide only[ev,putD,Slots.put,Slots.get,if_true,if_false,AVal.cells,QF,Bool.and_true,Bool.true_and,hrc,XG,XN,Xz])) ?_;simp only[AVal.cells];simp+decide only[ev,qJ,qG,putD,Slots.put,Slots.get,if_true,if_false,true_and,↓qd,qb,setAt,List.set_cons_zero,List.set_cons_succ,Nat.zero_add,Nat.reduceAdd];refine qm (by rfl) (by rfl) (by repeat (first|exact AHeap.set_same _ _ _|assumption|refine(AHeap.set_ne _ _ (by first|assumption|exact Ne.symm (by assumption))).trans ?_)) QD (by rfl) (by rfl) (by first|exact Nat.le_refl _|decide|(simp;done)|(simp;omega)) (Nat.zero_le _) (by first|rfl|(simp+decide only[ev,putD,Slots.put,Slots.get,if_true,if_false,AVal.cells,QF,Bool.and_true,Bool.true_and,hrc,XG,XN,Xz])) ?_;simp only[AVal.cells];simp+decide only[qa,ev,putD,Slots.get,Slots.keep,if_true,if_false,setAt,List.set_cons_zero,List.set_cons_succ,Nat.zero_add,Nat.reduceAdd];apply hK;clear hK K;refine qN ?_;refine QN (?_) ?_
  ·simp+decide only[Qw,qp,qi,Slots.get,if_true,if_false,and_true,qp,qi,qg qcO Uv,qg Xh QD,qW,qc,List.getD_cons_zero,List.getD_cons_succ,Nat.zero_add,Nat.reduceAdd,qB,qh,qE,QL,allLive,Bool.and_true,QU,ne_eq,not_false_eq_true,ne_0q3_0q1.symm,qc,List.getD_cons_zero,List.getD_cons_succ,Nat.zero_add,Nat.reduceAdd,qB,qh,qE,QL,allLive,Bool.and_true]
  simp+decide only[Slots.get,if_true,if_false,qbB,qp,qi,qg qcO Uv,qg Xh QD,qW,qc,List.getD_cons_zero,List.getD_cons_succ,Nat.zero_add,Nat.reduceAdd,qB,qh,qE,QL,allLive,Bool.and_true,QU,ne_eq,not_false_eq_true,ne_0q3_0q1.symm,qc,List.getD_cons_zero,List.getD_cons_succ,Nat.zero_add,Nat.reduceAdd,qB,qh,qE,QL,allLive,Bool.and_true];refine⟨_,Sub.refl _,(by repeat (first|exact Sub.refl _|assumption|refine Sub.set_both ?_ _ _|refine Sub.trans_set ?_ (by repeat (first|assumption|refine(AHeap.set_ne _ _ (by first|assumption|exact Ne.symm (by assumption))).trans ?_)))),j,(by repeat (first|exact AHeap.set_same _ _ _|assumption|refine(AHeap.set_ne _ _ (by first|assumption|exact Ne.symm (by assumption))).trans ?_)),hj2, .inl ⟨by rw[<-hj3,hce];omega,subL 5 v i l.length,rfl,?_⟩⟩;have:=qdo hv (o:=⟨true,i,l.length,0⟩) hi (Nat.le_refl _) rfl;unfold Uw at this;rw[List.take_of_length_le (by simp[List.length_drop])]at this;exact this
end Go.Proofs.YtlhhaagmakhilaaGreatDoor
namespace Go.Proofs.YtlhhaagmakhilaaGreatDoor
open Go.AM
open Go.Proofs
open Go.Col
open Go.Tok
open Go.Cop
open Go.RowKit (Below)
set_option maxRecDepth 100000
def qaA{α:Type}(p:α->Bool)(l:List α):Int:=match l.findIdx? p with
 |some i=>(i:Int)
 |none=> -1
theorem idxI_some{α:Type}{p:α->Bool}{l:List α}(d:α){i:Nat}(hi:i<l.length)(hp:p (l.getD i d)=true)(hn:∀j,j<i->p (l.getD j d)=false):qaA p l=i:=by
 have:l.findIdx? p=some i:=by
  rw[List.findIdx?_eq_some_iff_getElem];refine⟨hi,?_,fun j hj=>?_⟩
  ·rw[List.getD,List.getElem?_eq_getElem hi]at hp
   exact hp
  ·have:=hn j hj
   rw[List.getD,List.getElem?_eq_getElem (by omega)]at this;simpa using this
 unfold qaA;rw[this]
theorem idxI_none{α:Type}{p:α->Bool}{l:List α}(d:α)(hn:∀j,j<l.length->p (l.getD j d)=false):qaA p l= -1:=by
 have:l.findIdx? p=none:=by
  rw[List.findIdx?_eq_none_iff];intro x hx;obtain⟨j,hj,rfl⟩:=List.getElem_of_mem hx;have:=hn j hj;rw[List.getD,List.getElem?_eq_getElem hj]at this;exact this
 unfold qaA;rw[this]
theorem idxI_map{α β:Type}(f:α->β)(p:β->Bool)(l:List α):qaA p (l.map f)=qaA (fun x=>p (f x)) l:=by
 unfold qaA;rw[List.findIdx?_map];rfl
abbrev MemQ:=MemC×AVal
def qdt(q:MemQ):List AVal:=[.str q.1.name,q.2]
def IsMems(w0:World)(h:AHeap)(v:AVal)(ms:List MemC):Prop:=∃qs:List MemQ,ms=qs.map (·.1)/\IsL w0 h 2 v (qs.map qdt)/\∀q∈qs,IsL w0 h 5 q.2 (q.1.toks.map Xv)
theorem IsMems.mono{w0:World}{h h':AHeap}{v:AVal}{ms:List MemC}(hv:IsMems w0 h v ms)(hs:Sub h h'):IsMems w0 h' v ms:=by
 obtain⟨qs,h1,h2,h3⟩:=hv;exact⟨qs,h1,h2.mono hs,fun q hq=>(h3 q hq).mono hs⟩
def badM:MemQ:=(⟨[],[]⟩, .nilSlice)
def badR:RepQ:=(⟨[],[]⟩, .nilSlice, .nilSlice)
theorem getD_mem{α:Type}{l:List α}(d:α){i:Nat}(hi:i<l.length):l.getD i d∈l:=by
 rw[List.getD,List.getElem?_eq_getElem hi];exact List.getElem_mem hi
section
variable {w0:World} {h:AHeap} {v:AVal}
theorem mem_len{qs:List MemQ}(hv:IsL w0 h 2 v (qs.map qdt)):∀H:AHeap,ZE Tryz.prog H 28 v=⟨True, .int .i64 qs.length⟩:=by
 have:=hv.len Tryz.underlying28
 rwa [List.length_map]at this
theorem mem_open{qs:List MemQ}(hv:IsL w0 h 2 v (qs.map qdt))(hn:0<qs.length):∃lc o c,v= .slice lc o qs.length c:=by
 obtain⟨lc,o,c,e⟩:=hv.open (fun e=>by rw[List.map_eq_nil_iff]at e;subst e;simp at hn);rw[List.length_map]at e;exact⟨lc,o,c,e⟩
theorem mem_at{qs:List MemQ}{lc:AM.Loc}{o:Nat}{c:Cap}(hv:IsL w0 h 2 (.slice lc o qs.length c) (qs.map qdt)){i:Nat}(hi:i<qs.length):rd w0 h lc (o+i*2)= .str (qs.getD i badM).1.name/\rd w0 h lc (o+i*2+1)=(qs.getD i badM).2:=by
 have he:=hv.elem (i:=i) (by rw[List.length_map];exact hi);rw[getD_map badM hi]at he;simp only[qc,qdt,List.cons.injEq,and_true]at he;exact he
theorem rep_len{qs:List RepQ}(hv:IsL w0 h 2 v (qs.map UN)):∀H:AHeap,ZE Tryz.prog H 43 v=⟨True, .int .i64 qs.length⟩:=by
 have:=hv.len Tryz.underlying43
 rwa [List.length_map]at this
theorem rep_open{qs:List RepQ}(hv:IsL w0 h 2 v (qs.map UN))(hn:0<qs.length):∃lc o c,v= .slice lc o qs.length c:=by
 obtain⟨lc,o,c,e⟩:=hv.open (fun e=>by rw[List.map_eq_nil_iff]at e;subst e;simp at hn);rw[List.length_map]at e;exact⟨lc,o,c,e⟩
theorem rep_at{qs:List RepQ}{lc:AM.Loc}{o:Nat}{c:Cap}(hv:IsL w0 h 2 (.slice lc o qs.length c) (qs.map UN)){i:Nat}(hi:i<qs.length):rd w0 h lc (o+i*2)=(qs.getD i badR).2.1/\rd w0 h lc (o+i*2+1)=(qs.getD i badR).2.2:=by
 have he:=hv.elem (i:=i) (by rw[List.length_map];exact hi);rw[getD_map badR hi]at he;simp only[qc,UN,List.cons.injEq,and_true]at he;exact he
end
theorem c_indexM(w0:World)(h:AHeap)(v:AVal)(qs:List MemQ)(f:FuncId)(cap:List AVal)(p:MemQ->Bool)(hv:IsL w0 h 2 v (qs.map qdt))(hq:∀q∈qs,q.2.live=true)(hl:qs.length<=1099511627776)(hfl:(AVal.func f cap).live=true)
 (hf:∀q∈qs,ACall Tryz.prog w0 f ([.agg (qdt q)]++cap) h (fun r h'=>r= .bool (p q)/\h'=h)):
 ACall Tryz.prog w0 57 [v, .func f cap] h (fun r h'=>r= .int .i64 (qaA p qs)/\h'=h):=by
 have hlv:=hv.live;have nv:=mem_len hv;refine qR (n:=19) (rs:=[.tmp 4]) Tryz.func57 rfl rfl rfl rfl (Nat.le_of_ble_eq_true rfl) ?_;simp only[Qc];refine awp_rseq [0,1] (by rfl) fun K hK=>?_;simp+decide only[qa,ev,qJ,qG,putD,Slots.put,Slots.keep,if_true,if_false,true_and,↓qd,qb,Nat.zero_add];apply hK;clear hK K;refine qO ?_;refine awp_rseq [0,1,7,8] (by rfl) fun K hK=>?_;simp+decide only[qa,ev,qJ,qG,putD,Slots.put,Slots.get,Slots.keep,if_true,if_false,true_and,↓qj,qf,↓XA,QK,nv];apply hK;clear hK K;refine QB ?_;refine XH [0,1,7,8] (fun i:Nat=>[(0,v),(1, .func f cap),(7, .int .i64 qs.length),(8, .int .i64 i)]) (fun i:Nat=>h) (fun i:Nat=>i<=qs.length/\∀j,j<i->p (qs.getD j badM)=false) (fun i:Nat=>qs.length-i) 0 (by rfl) (Sub.refl _) ⟨Nat.zero_le _,fun j hj=>by omega⟩ ?_;rintro i ⟨hi,hn⟩;refine awp_rseq [0,1,7,8,9] (by rfl) fun K hK=>?_;simp+decide only[qa,ev,putD,Slots.put,Slots.get,Slots.keep,if_true,if_false,true_and,↓qC,qo,qZ,cond_false,qz,Zd];apply hK;clear hK K;refine qO (qL (b:=_) rfl (fun hb1=>?_) (fun hb1=>?_))
 ·try simp only[decide_eq_true_eq]at hb1
  have hi':i<qs.length:=by omega
  obtain⟨lc,o,c,rfl⟩:=mem_open hv (by omega);obtain⟨e0,e1⟩:=mem_at hv hi';obtain⟨q,hqe⟩:∃q,q=qs.getD i badM:=⟨_,rfl⟩
  have hqm:q∈qs:=by rw[hqe];exact getD_mem badM hi'
  have hql:=hq q hqm;rw[<-hqe]at e0 e1;refine Qa ?_;change Awp _ _ _ _ _ _ _;refine qO ?_;refine QB ?_;refine awp_rseq [0,1,5,7,8] (by rfl) fun K hK=>?_;simp+decide only[qa,ev,putD,Slots.put,Slots.get,Slots.keep,if_true,if_false,true_and,↓qj,qf,↓qd,qb];apply hK;clear hK K;refine awp_rseq [0,1,5,7,8,16] (by rfl) fun K hK=>?_;simp+decide only[ev,putD,Slots.put,Slots.get,if_true,if_false,true_and,↓qj,qf,↓Xi,Qb,Qs Tryz.underlying28 sz57,↓qF,qg ag57 sz57,qc,qE,allLive,Bool.and_true,e0,e1,hql,Int.toNat_natCast];repeat (with_reducible refine And.intro ?_ ?_;· first|trivial|omega|(intro hg;simp only[Bool.and_eq_true,Bool.or_eq_true,Bool.not_eq_true',Bool.and_eq_false_iff,Bool.or_eq_false_iff,Bool.not_eq_false',decide_eq_true_eq,decide_eq_false_iff_not,Zt]at hg;omega))
  refine qM (V:= .bool (p q)) (by rfl) (by rfl) (hf q hqm) ?_;simp+decide only[qa,putD,Slots.put,Slots.keep,if_true,if_false];apply hK;clear hK K;refine qL (b:=_) rfl (fun hb2=>?_) (fun hb2=>?_)
  ·skip
   refine awp_rseq [4] (by rfl) fun K hK=>?_;simp+decide only[qa,ev,putD,Slots.put,Slots.get,Slots.keep,if_true,if_false,true_and,↓qj,qf,↓qd,qb];apply hK;clear hK K;refine qN ?_;try simp only[Qf,Qr]
   refine qU h (by repeat (first|exact Sub.refl _|assumption|refine Sub.trans_set ?_ (by assumption))) (qY (Qe)) ?_;simp+decide only[Slots.get,if_true,and_true,Qv];rw[idxI_some badM hi' (by rw[<-hqe];exact hb2) hn]
  ·skip
   refine Qa ?_;change Awp _ _ _ _ _ _ _;refine XK [0,1,7,8] (by rfl) ?_;simp+decide only[qa,ev,qJ,qG,putD,Slots.put,Slots.get,Slots.keep,if_true,if_false,true_and,↓qC,qo,qD,cond_false,qz,Xf,↓qj,qf];try simp(disch:=omega)only[wrap_i64]
   try simp only[Ql]
   exact⟨i+1,rfl,Sub.refl _,⟨hi',fun j hj=>by
    rcases Nat.lt_or_ge j i with z|z
    ·exact hn j z
    ·rw[show j=i by omega,<-hqe];exact hb2⟩,by omega⟩
 ·try simp only[decide_eq_false_iff_not]at hb1
  refine XL ?_;change Awp _ _ _ _ _ _ _;refine awp_rseq [4] (by rfl) fun K hK=>?_;simp+decide only[qa,ev,qJ,qG,putD,Slots.put,Slots.keep,if_true,if_false,true_and,↓qd,qb];apply hK;clear hK K;refine qN ?_;refine qU h (by repeat (first|exact Sub.refl _|assumption|refine Sub.trans_set ?_ (by assumption))) (qY (Qe)) ?_;simp+decide only[Slots.get,if_true,and_true,Qv];rw[idxI_none badM fun j hj=>hn j (by omega)]
theorem c_indexR(w0:World)(h:AHeap)(v:AVal)(qs:List RepQ)(f:FuncId)(cap:List AVal)(p:RepQ->Bool)(hv:IsL w0 h 2 v (qs.map UN))(hq:∀q∈qs,q.2.1.live=true/\q.2.2.live=true)(hl:qs.length<=1099511627776)(hfl:(AVal.func f cap).live=true)
 (hf:∀q∈qs,ACall Tryz.prog w0 f ([.agg (UN q)]++cap) h (fun r h'=>r= .bool (p q)/\h'=h)):
 ACall Tryz.prog w0 37 [v, .func f cap] h (fun r h'=>r= .int .i64 (qaA p qs)/\h'=h):=by
 have hlv:=hv.live;have nv:=rep_len hv;refine qR (n:=19) (rs:=[.tmp 4]) Tryz.func37 rfl rfl rfl rfl (Nat.le_of_ble_eq_true rfl) ?_;simp only[Qc];refine awp_rseq [0,1] (by rfl) fun K hK=>?_;simp+decide only[qa,ev,qJ,qG,putD,Slots.put,Slots.keep,if_true,if_false,true_and,↓qd,qb,Nat.zero_add];apply hK;clear hK K;refine qO ?_;refine awp_rseq [0,1,7,8] (by rfl) fun K hK=>?_;simp+decide only[qa,ev,qJ,qG,putD,Slots.put,Slots.get,Slots.keep,if_true,if_false,true_and,↓qj,qf,↓XA,QK,nv];apply hK;clear hK K;refine QB ?_;refine XH [0,1,7,8] (fun i:Nat=>[(0,v),(1, .func f cap),(7, .int .i64 qs.length),(8, .int .i64 i)]) (fun i:Nat=>h) (fun i:Nat=>i<=qs.length/\∀j,j<i->p (qs.getD j badR)=false) (fun i:Nat=>qs.length-i) 0 (by rfl) (Sub.refl _) ⟨Nat.zero_le _,fun j hj=>by omega⟩ ?_;rintro i ⟨hi,hn⟩;refine awp_rseq [0,1,7,8,9] (by rfl) fun K hK=>?_;simp+decide only[qa,ev,putD,Slots.put,Slots.get,Slots.keep,if_true,if_false,true_and,↓qC,qo,qZ,cond_false,qz,Zd];apply hK;clear hK K;refine qO (qL (b:=_) rfl (fun hb1=>?_) (fun hb1=>?_))
 ·try simp only[decide_eq_true_eq]at hb1
  have hi':i<qs.length:=by omega
  obtain⟨lc,o,c,rfl⟩:=rep_open hv (by omega);obtain⟨e0,e1⟩:=rep_at hv hi';obtain⟨q,hqe⟩:∃q,q=qs.getD i badR:=⟨_,rfl⟩
  have hqm:q∈qs:=by rw[hqe];exact getD_mem badR hi'
  obtain⟨hql,hqr⟩:=hq q hqm;rw[<-hqe]at e0 e1;refine Qa ?_;change Awp _ _ _ _ _ _ _;refine qO ?_;refine QB ?_;refine awp_rseq [0,1,5,7,8] (by rfl) fun K hK=>?_;simp+decide only[qa,ev,putD,Slots.put,Slots.get,Slots.keep,if_true,if_false,true_and,↓qj,qf,↓qd,qb];apply hK;clear hK K;refine awp_rseq [0,1,5,7,8,16] (by rfl) fun K hK=>?_;simp+decide only[ev,putD,Slots.put,Slots.get,if_true,if_false,true_and,↓qj,qf,↓Xi,Qb,Qs Tryz.underlying43 sz46,↓qF,qg ag46 sz46,qc,allLive,Bool.and_true,e0,e1,hql,hqr,Int.toNat_natCast];repeat (with_reducible refine And.intro ?_ ?_;· first|trivial|omega|(intro hg;simp only[Bool.and_eq_true,Bool.or_eq_true,Bool.not_eq_true',Bool.and_eq_false_iff,Bool.or_eq_false_iff,Bool.not_eq_false',decide_eq_true_eq,decide_eq_false_iff_not,Zt]at hg;omega))
  refine qM (V:= .bool (p q)) (by rfl) (by rfl) (hf q hqm) ?_;simp+decide only[qa,putD,Slots.put,Slots.keep,if_true,if_false];apply hK;clear hK K;refine qL (b:=_) rfl (fun hb2=>?_) (fun hb2=>?_)
  ·skip
   refine awp_rseq [4] (by rfl) fun K hK=>?_;simp+decide only[qa,ev,putD,Slots.put,Slots.get,Slots.keep,if_true,if_false,true_and,↓qj,qf,↓qd,qb];apply hK;clear hK K;refine qN ?_;try simp only[Qf,Qr]
   refine qU h (by repeat (first|exact Sub.refl _|assumption|refine Sub.trans_set ?_ (by assumption))) (qY (Qe)) ?_;simp+decide only[Slots.get,if_true,and_true,Qv];rw[idxI_some badR hi' (by rw[<-hqe];exact hb2) hn]
  ·skip
   refine Qa ?_;change Awp _ _ _ _ _ _ _;refine XK [0,1,7,8] (by rfl) ?_;simp+decide only[qa,ev,qJ,qG,putD,Slots.put,Slots.get,Slots.keep,if_true,if_false,true_and,↓qC,qo,qD,cond_false,qz,Xf,↓qj,qf];try simp(disch:=omega)only[wrap_i64]
   try simp only[Ql]
   exact⟨i+1,rfl,Sub.refl _,⟨hi',fun j hj=>by
    rcases Nat.lt_or_ge j i with z|z
    ·exact hn j z
    ·rw[show j=i by omega,<-hqe];exact hb2⟩,by omega⟩
 ·try simp only[decide_eq_false_iff_not]at hb1
  refine XL ?_;change Awp _ _ _ _ _ _ _;refine awp_rseq [4] (by rfl) fun K hK=>?_;simp+decide only[qa,ev,qJ,qG,putD,Slots.put,Slots.keep,if_true,if_false,true_and,↓qd,qb];apply hK;clear hK K;refine qN ?_;refine qU h (by repeat (first|exact Sub.refl _|assumption|refine Sub.trans_set ?_ (by assumption))) (qY (Qe)) ?_;simp+decide only[Slots.get,if_true,and_true,Qv];rw[idxI_none badR fun j hj=>hn j (by omega)]
end Go.Proofs.YtlhhaagmakhilaaGreatDoor
namespace Go.Proofs.YtlhhaagmakhilaaGreatDoor
open Go.AM
open Go.Proofs
open Go.Col
open Go.Tok
open Go.Cop
open Go.RowKit (Below)
set_option maxRecDepth 100000
theorem same_alike:∀l m:List TokC,qbb l m=alike l m
 |[],[]=>rfl
 |[],_::_=>rfl
 |_::_,[]=>rfl
 |a::l,b::m=>by rw[qbb,alike,same_alike l m];rfl
theorem idxI_pos{α:Type}(p:α->Bool)(l:List α):decide (0<=qaA p l)=l.any p:=by
 unfold qaA;cases h:l.findIdx? p with
 |none=>
  rw[List.findIdx?_eq_none_iff]at h;have:l.any p=false:=by rw[List.any_eq_false];intro x hx;simp[h x hx]
  rw[this];rfl
 |some i=>
  rw[List.findIdx?_eq_some_iff_getElem]at h;obtain⟨hi,hp,-⟩:=h;have:l.any p=true:=by rw[List.any_eq_true];exact⟨l[i],List.getElem_mem hi,hp⟩
  rw[this,decide_eq_true_eq];simp only;omega
theorem RepOk.lives{w0:World}{h:AHeap}{q:RepQ}(hq:RepOk w0 h q):q.2.1.live=true/\q.2.2.live=true/\q.2.1.scal=true/\q.2.2.scal=true:=⟨hq.old.live,hq.new.live,hq.old.scal,hq.new.scal⟩
theorem c_rep1(w0:World)(h:AHeap)(q:RepQ)(hq:RepOk w0 h q):
 ACall Tryz.prog w0 36 [.agg (UN q)] h (fun r h'=>r= .bool (decide (q.1.old=[]))/\h'=h):=by
 obtain⟨h1,h2,h3,h4⟩:=hq.lives;have no:=Za hq.old;obtain⟨⟨x,y⟩,ov,nv⟩:=q;simp only at h1 h2 h3 h4 no;unfold UN;have e:decide (x=[])=decide ((x.length:Int)=0):=decide_eq_decide.2 ⟨fun e=>by rw[e];rfl,fun e=>List.eq_nil_of_length_eq_zero (by omega)⟩;simp only;rw[e];refine qR (n:=7) (rs:=[.tmp 2]) Tryz.func36 rfl rfl rfl rfl (Nat.le_of_ble_eq_true rfl) ?_;simp only[Qc];refine awp_rseq [1] (by rfl) fun K hK=>?_;refine Wj (by rfl) (by rfl) (by rfl) fun k0q0 hk0q0=>?_;try have hf_0q0:h k0q0=none:=by first|assumption|(simp only[AHeap.set_none]at hk0q0;simp only[hk0q0])
 skip;simp+decide only[qa,ev,qJ,qG,putD,Slots.put,Slots.get,Slots.keep,if_true,if_false,true_and,↓qd,qb,AVal.cells];apply hK;clear hK K;refine awp_rseq [2] (by rfl) fun K hK=>?_;simp+decide only[qa,ev,qJ,qG,putD,Slots.put,Slots.get,Slots.keep,if_true,if_false,true_and,↓qA,ql,fa46_0,↓qF,Qb,qy UK,↓XA,QK,↓qC,qo,qD,cond_false,qz,XD,↓qd,qb,QV,List.getD_cons_zero,Nat.zero_add,h1,no];apply hK;clear hK K;refine qN ?_;refine qU h (by repeat (first|exact Sub.refl _|assumption|refine Sub.trans_set ?_ (by assumption))) (qY (Qe)) ?_;simp+decide only[Slots.get,if_true,and_true,Qv];skip
theorem c_contR(w0:World)(h:AHeap)(v:AVal)(qs:List RepQ)(hv:IsL w0 h 2 v (qs.map UN))(hq:∀q∈qs,RepOk w0 h q)(hl:qs.length<=1099511627776):
 ACall Tryz.prog w0 35 [v, .func 36 []] h (fun r h'=>r= .bool (qs.any fun q=>decide (q.1.old=[]))/\h'=h):=by
 have hlv:=hv.live;refine qR (n:=9) (rs:=[.tmp 4]) Tryz.func35 rfl rfl rfl rfl (Nat.le_of_ble_eq_true rfl) ?_;simp only[Qc];refine awp_rseq [0,1] (by rfl) fun K hK=>?_;simp+decide only[qa,ev,qJ,qG,putD,Slots.put,Slots.keep,if_true,if_false,true_and,↓qd,qb,Nat.zero_add];apply hK;clear hK K;refine awp_rseq [4] (by rfl) fun K hK=>?_;simp+decide only[ev,putD,Slots.put,Slots.get,if_true,if_false,true_and,↓qj,qf];refine qM (V:= .int .i64 (qaA (fun q=>decide (q.1.old=[])) qs)) (by rfl) (by rfl) (c_indexR w0 _ v qs _ [] (fun q=>decide (q.1.old=[])) hv (fun q hm=>⟨(hq q hm).lives.1,(hq q hm).lives.2.1⟩) hl rfl (fun q hm=>by rw[List.append_nil];exact c_rep1 w0 _ q (hq q hm))) ?_;simp+decide only[qa,ev,qJ,qG,putD,Slots.put,Slots.get,Slots.keep,if_true,if_false,true_and,↓qC,qo,qD,cond_false,qz,qaw,↓qd,qb];apply hK;clear hK K;refine qN ?_;refine qU h (by repeat (first|exact Sub.refl _|assumption|refine Sub.trans_set ?_ (by assumption))) (qY (Qe)) ?_;simp+decide only[Slots.get,if_true,and_true,Qv];rw[idxI_pos]
theorem c_rep2Out(w0:World)(h:AHeap)(q:RepQ)(hq:RepOk w0 h q)(kl ka:Nat)(lv:AVal)(l:List TokC)(at_:Nat)(eb_l:h kl=some ⟨[lv],0⟩)(eb_a:h ka=some ⟨[.int .i64 at_],0⟩)(hlv:IsL w0 h 5 lv (l.map Xv))(hl:l.length<=1099511627776)(hat:at_<=l.length)(hout:¬at_+q.1.old.length<=l.length):
 ACall Tryz.prog w0 38 ([.agg (UN q)]++[.ptr (.own kl) 0, .ptr (.own ka) 0]) h (fun r h'=>r= .bool (YU (l.drop at_) q.1.old)/\h'=h):=by
 obtain⟨h1,h2,h3,h4⟩:=hq.lives;have no:=Za hq.old;have nl:=Za hlv;have hll:=hlv.live;have hr:YU (l.drop at_) q.1.old=false:=by
  unfold YU;rw[decide_eq_false (by rw[List.length_drop];omega),Bool.false_and]
 rw[hr];obtain⟨⟨x,y⟩,ov,nv⟩:=q;simp only at h1 h2 h3 h4 no hout;have hs_h:Sub h h:=Sub.refl h;have hw1:IntKind.i64.wrap ((l.length:Int)-at_)=(l.length:Int)-at_:=by simp(disch:=omega)only[wrap_i64]
 have hng:¬((x.length:Int)<=l.length-at_):=by omega
 unfold UN;simp only[List.cons_append,List.nil_append];refine qR (n:=26) (rs:=[.tmp 4]) Tryz.func38 rfl rfl rfl rfl (Nat.le_of_ble_eq_true rfl) ?_;simp only[Qc];refine awp_rseq [1,2,3] (by rfl) fun K hK=>?_;refine Wj (by rfl) (by rfl) (by rfl) fun k0q0 hk0q0=>?_;have hn_0q0:h k0q0=none:=by first|assumption|(simp only[AHeap.set_none]at hk0q0;simp only[hk0q0])
 have hf_0q0:h k0q0=none:=Sub.none hs_h hn_0q0;have ne_0q0_l:k0q0≠kl:=AHeap.ne_some hn_0q0 eb_l;have ne_0q0_a:k0q0≠ka:=AHeap.ne_some hn_0q0 eb_a;skip;simp+decide only[qa,ev,qJ,qG,putD,Slots.put,Slots.get,Slots.keep,if_true,if_false,true_and,↓qd,qb,AVal.cells,Nat.zero_add,Nat.reduceAdd];apply hK;clear hK K;refine Wv [4] mixed (by kernel_rfl) (by rfl) fun K hK=>?_;simp+decide only[ev,putD,Slots.put,Slots.get,if_true,if_false,true_and,↓WV,ql,fa46_0,↓vp_load,Zr,qy UK,↓vp_len,QK,qy ag3,↓vp_binOp,qo,qZ,cond_false,qz,UD,pI_leq,↓qck,qf,↓Uy,vgP,qbU,qI,qH,qw,implies_true,decide_false,Zo,false_implies,↓vg_load,↓vg_len,↓vg_binOp,↓vg_slice,ZK,evO,QU,ne_eq,not_false_eq_true,ne_0q0_l.symm,ne_0q0_a.symm,Qp w0 eb_l,Qp w0 eb_a,QV,List.getD_cons_zero,Nat.zero_add,qh,h1,no,nl,hll,hw1,hng];first|refine vOps_gno (by rfl) ?_|refine fOps_gno (by rfl) ?_
 simp+decide only[qaY,ev,qJ,qG,putD,Slots.put,Slots.get,Slots.keep,if_true,if_false,true_and,↓vp_pick,Qt,Qg,↓qbT,qb];apply hK;clear hK K;refine qN ?_;refine qU h (by repeat (first|exact Sub.refl _|assumption|refine Sub.trans_set ?_ (by assumption))) (qY (Qe)) ?_;simp+decide only[Slots.get,if_true,and_true,Qv];all_goals first|rfl|exact⟨rfl,rfl⟩|(simp+decide only[if_true,if_false, *];done)|(trace_state;fail)
theorem c_rep2In(w0:World)(h:AHeap)(q:RepQ)(hq:RepOk w0 h q)(kl ka:Nat)(lv:AVal)(l:List TokC)(at_:Nat)(eb_l:h kl=some ⟨[lv],0⟩)(eb_a:h ka=some ⟨[.int .i64 at_],0⟩)(hlv:IsL w0 h 5 lv (l.map Xv))(hl:l.length<=1099511627776)(hin:at_+q.1.old.length<=l.length):
 ACall Tryz.prog w0 38 ([.agg (UN q)]++[.ptr (.own kl) 0, .ptr (.own ka) 0]) h (fun r h'=>r= .bool (YU (l.drop at_) q.1.old)/\h'=h):=by
 obtain⟨h1,h2,h3,h4⟩:=hq.lives;have no:=Za hq.old;have nl:=Za hlv;have hll:=hlv.live;have hr:YU (l.drop at_) q.1.old=qbb q.1.old (Uw l at_ (at_+q.1.old.length)):=by
  unfold YU Uw;rw[decide_eq_true (by rw[List.length_drop];omega),Bool.true_and,same_alike,Nat.add_sub_cancel_left]
 rw[hr];have hoq:=hq.old;obtain⟨⟨x,y⟩,ov,nv⟩:=q;simp only at h1 h2 h3 h4 no hin hoq;have hs_h:Sub h h:=Sub.refl h;have hw1:IntKind.i64.wrap ((l.length:Int)-at_)=(l.length:Int)-at_:=by simp(disch:=omega)only[wrap_i64]
 have hw2:IntKind.i64.wrap ((at_:Int)+x.length)=(at_:Int)+x.length:=by simp(disch:=omega)only[wrap_i64]
 have hg0:(x.length:Int)<=l.length-at_:=by omega
 have hsl:=hlv.slice Tryz.underlying26 Xg (some (.int .i64 at_)) (some (.int .i64 ((at_:Int)+x.length))) (l:=at_) (r:=(at_:Int)+x.length) rfl rfl (by omega) (by omega) (by rw[List.length_map];omega);have hcut:=qdo hlv (o:=⟨true,at_,at_+x.length,0⟩) (Nat.le_add_right _ _) hin rfl;have hsv:subL 5 lv ((at_:Int)).toNat (((at_:Int)+x.length)).toNat=operV lv ⟨true,at_,at_+x.length,0⟩:=by
  rw[show(((at_:Int)+x.length)).toNat=at_+x.length by omega];rfl
 rw[hsv]at hsl;unfold UN;simp only[List.cons_append,List.nil_append];refine qR (n:=26) (rs:=[.tmp 4]) Tryz.func38 rfl rfl rfl rfl (Nat.le_of_ble_eq_true rfl) ?_;simp only[Qc];refine awp_rseq [1,2,3] (by rfl) fun K hK=>?_;refine Wj (by rfl) (by rfl) (by rfl) fun k0q0 hk0q0=>?_;have hn_0q0:h k0q0=none:=by first|assumption|(simp only[AHeap.set_none]at hk0q0;simp only[hk0q0])
 have hf_0q0:h k0q0=none:=Sub.none hs_h hn_0q0;have ne_0q0_l:k0q0≠kl:=AHeap.ne_some hn_0q0 eb_l;have ne_0q0_a:k0q0≠ka:=AHeap.ne_some hn_0q0 eb_a;skip;simp+decide only[qa,ev,qJ,qG,putD,Slots.put,Slots.get,Slots.keep,if_true,if_false,true_and,↓qd,qb,AVal.cells,Nat.zero_add,Nat.reduceAdd];apply hK;clear hK K;refine Wv [4] mixed (by kernel_rfl) (by rfl) fun K hK=>?_;simp+decide only[ev,putD,Slots.put,Slots.get,if_true,if_false,true_and,↓WV,ql,fa46_0,↓vp_load,Zr,qy UK,↓vp_len,QK,qy ag3,↓vp_binOp,qo,qZ,cond_false,qz,UD,pI_leq,↓qck,qf,↓Uy,vgP,qbU,qI,qH,qw,implies_true,decide_true,Qm,↓vg_load,↓vg_len,↓vg_binOp,Xf,↓vg_slice,ZK,evO,QU,ne_eq,not_false_eq_true,ne_0q0_l.symm,ne_0q0_a.symm,Qp w0 eb_l,Qp w0 eb_a,QV,List.getD_cons_zero,Nat.zero_add,qh,h1,no,nl,hll,hw1,hw2,hg0,hsl];refine qcl (V:= .bool (qbb x (Uw l at_ (at_+x.length)))) (f:=_) (cap:=_) (xs:=_) (by first|rfl|(simp+decide only[gv,qI,Slots.get,if_true,if_false,QO,qH])) (fun hg=>⟨rfl,?_⟩) (fun hg=>c_Same w0 _ ov _ x _ (hoq.mono (by repeat (first|exact Sub.refl _|assumption|refine Sub.set_both ?_ _ _|refine Sub.trans_set ?_ (by repeat (first|assumption|refine(AHeap.set_ne _ _ (by first|assumption|exact Ne.symm (by assumption))).trans ?_))))) (hcut.mono (by repeat (first|exact Sub.refl _|assumption|refine Sub.set_both ?_ _ _|refine Sub.trans_set ?_ (by repeat (first|assumption|refine(AHeap.set_ne _ _ (by first|assumption|exact Ne.symm (by assumption))).trans ?_))))) (by omega)) ?_
 ·try simp+decide only[gv,qI,Slots.get,if_true,if_false,qw]at hg
  simp+decide only[evs,ev,Slots.get,if_true,if_false,List.append_nil,List.map_cons,List.map_nil]
 simp+decide only[qaY,ev,qJ,qG,putD,Slots.put,Slots.get,Slots.keep,if_true,if_false,true_and,gv,qI,qw,↓vp_pick,Qt,Qg,Xj,Xk,↓qbT,qb];apply hK;clear hK K;refine qN ?_;refine qU h (by repeat (first|exact Sub.refl _|assumption|refine Sub.trans_set ?_ (by assumption))) (qY (Qe)) ?_;simp+decide only[Slots.get,if_true,and_true,Qv];rw[Bool.true_and]
theorem c_rep2(w0:World)(h:AHeap)(q:RepQ)(hq:RepOk w0 h q)(kl ka:Nat)(lv:AVal)(l:List TokC)(at_:Nat)(eb_l:h kl=some ⟨[lv],0⟩)(eb_a:h ka=some ⟨[.int .i64 at_],0⟩)(hlv:IsL w0 h 5 lv (l.map Xv))(hl:l.length<=1099511627776)(hat:at_<=l.length):
 ACall Tryz.prog w0 38 ([.agg (UN q)]++[.ptr (.own kl) 0, .ptr (.own ka) 0]) h (fun r h'=>r= .bool (YU (l.drop at_) q.1.old)/\h'=h):=by
 by_cases hin:at_+q.1.old.length<=l.length
 ·exact c_rep2In w0 h q hq kl ka lv l at_ eb_l eb_a hlv hl hin
 ·exact c_rep2Out w0 h q hq kl ka lv l at_ eb_l eb_a hlv hl hat hin
end Go.Proofs.YtlhhaagmakhilaaGreatDoor
