/-
  Texts of this proof, joined: CoI, CoJ, TkO, TkP, TkQ, TmA, BmC, BmD, BmE, BmF, CpA, CpB, CpC, CpD, CpE, CpF, CpG, CpH, CpI, CpJ, CpK, CpL, CpM, CqA, CqB, CqC, CqD, CqE, CqF, CqG, CqH.
  Conditions: none.
-/
import Derived.Test.YtlhhaagmakhilaaGreatDoorBc
import Derived.Test.YtlhhaagmakhilaaGreatDoorBb
import Derived.Defers
import Derived.KernelRfl
set_option linter.unusedSimpArgs false
set_option linter.unnecessarySimpa false
set_option linter.unusedVariables false
namespace Go.Proofs.YtlhhaagmakhilaaGreatDoor
open Go.AM
open Go.Proofs
open Go.Col
set_option maxRecDepth 100000
def ReadR(w0:World)(h:AHeap)(text:Str)(dbg:Bool)(v:AVal)(h':AHeap):Prop:=∃cv,v= .tuple [cv,QN (Uk text dbg).2]/\IsCards w0 h' cv (Uk text dbg).1/\Sub h h'
structure RdL where
 i:Nat
 B:AHeap
 M:AHeap
 cb:Option Buf
 mb:Option Buf
 x:Rd
theorem Wh(f:FaultC):(decide (f.e=0) && (decide (f.line=0) && decide (f.col=0)))=decide (f=okF):=by
 obtain⟨a,b,c⟩:=f;rw[Bool.eq_iff_iff];simp[okF]
theorem readL_skip{s:Str}{l:List Str}{n:Int}{x:Rd}{dbg:Bool}{r:RowC}{f:FaultC}(hp:WS s n dbg=(r,false,f))(hf:f=okF):YU dbg (s::l) n x=YU dbg l (n+1) x:=by
 rw[YU,hp];simp only;rw[if_pos ⟨hf,trivial⟩]
theorem readL_fault{s:Str}{l:List Str}{n:Int}{x:Rd}{dbg:Bool}{r:RowC}{cn:Bool}{f:FaultC}(hp:WS s n dbg=(r,cn,f))(hf:f≠okF):YU dbg (s::l) n x=(x,f):=by
 rw[YU,hp];simp only;rw[if_neg (fun e=>hf e.1),if_neg hf]
theorem readL_bad{s:Str}{l:List Str}{n:Int}{x:Rd}{dbg:Bool}{r:RowC}{f:FaultC}(hp:WS s n dbg=(r,true,f))(hf:f=okF)(hg:(takeE x r).2≠okF):YU dbg (s::l) n x=((takeE x r).1,(takeE x r).2):=by
 rw[YU,hp];simp only;rw[if_neg (fun e=>by cases e.2),if_pos hf,if_neg hg]
theorem readL_take{s:Str}{l:List Str}{n:Int}{x:Rd}{dbg:Bool}{r:RowC}{f:FaultC}(hp:WS s n dbg=(r,true,f))(hf:f=okF)(hg:(takeE x r).2=okF):YU dbg (s::l) n x=YU dbg l (n+1) (takeE x r).1:=by
 rw[YU,hp];simp only;rw[if_neg (fun e=>by cases e.2),if_pos hf,if_pos hg]
theorem readE_fault{text:Str}{dbg:Bool}(hl:text.length<=1048576){x:Rd}{f:FaultC}(h:YU dbg (XH (Yf text)) 1 .start=(x,f))(hf:f≠okF):Uk text dbg=([],f):=by
 unfold Uk;rw[if_neg (by omega),h];simp only;rw[if_pos hf]
theorem splitNL_mem:∀(s:Str),∀l∈XH s,l.length<=s.length
 |[],l,h=>by simp[XH]at h;subst h;simp
 |b::s,l,h=>by
  have ih:=splitNL_mem s;unfold XH at h;split at h
  ·rcases List.mem_cons.1 h with rfl|h
   ·simp
   ·have:=ih l h;simp;omega
  ·split at h
   ·rename_i e
    simp only[List.mem_singleton]at h;subst h;simp
   ·rename_i l0 ls e
    rcases List.mem_cons.1 h with rfl|h
    ·have:=ih l0 (by rw[e];simp);simp;omega
    ·have:=ih l (by rw[e];simp[h]);simp;omega
theorem readE_odd{text:Str}{dbg:Bool}(hl:text.length<=1048576){x:Rd}(h:YU dbg (XH (Yf text)) 1 .start=(x,okF))(ho:x.odd=true):Uk text dbg=([],⟨4,x.line,x.col⟩):=by
 unfold Uk;rw[if_neg (by omega),h];simp only;rw[if_neg (by simp),if_pos ho]
theorem readE_ok{text:Str}{dbg:Bool}(hl:text.length<=1048576){x:Rd}(h:YU dbg (XH (Yf text)) 1 .start=(x,okF))(ho:x.odd=false):Uk text dbg=(x.cards,okF):=by
 unfold Uk;rw[if_neg (by omega),h];simp only;rw[if_neg (by simp),if_neg (by rw[ho];decide)]
theorem readEnd0(w0:World)(h B0:AHeap)(hs0:Sub h B0)(kr kx:Nat)(text:Str)(dbg:Bool)(hl:text.length<=1048576)(er:B0 kr=some ⟨[.int .i64 0, .int .i64 0, .int .i64 0],0⟩)(hr:h kr=none)
 (B M:AHeap) (cb mb:Option Buf) (x:Rd) (ri:RdInv w0 B0 kx B M cb mb x) (hcards:x.cards=[]) (hrl:YU dbg (XH (Yf text)) 1 .start=(x,okF)):
 Awp Tryz.prog w0 82 (qao 5 (unScope (qao 1 (bodyOf Tryz.f49)))) (noGotoA (retA Tryz.prog w0 [.tmp 4, .cell 5 35] (ReadR w0 h text dbg))) [(5, .ptr (.own kr) 0),(6, .ptr (.own kx) 0)] (rdH kx B cb mb x):=by
 obtain⟨rfl,rfl⟩:cb=none/\mb=none:=by
  rcases ri.cards with e|⟨done,c,kc,e,_⟩
  ·exact e.2
  ·rw[hcards]at e;simp at e
 have rix:=fun o=>Qr w0 ri.at o;have hnil:QO 3 none= .nilSlice:=rfl;change Awp _ _ _ (Code.seq _ _) _ _ _;refine qO ?_;refine awp_rseq [5,6,55] (by rfl) fun K hK=>?_;simp+decide only[qa,ev,putD,Slots.put,Slots.get,Slots.keep,if_true,if_false,true_and,↓qA,ql,qcT,↓qF,Qa,qw ag4,List.getD_cons_zero,List.getD_cons_succ,Nat.zero_add,qC,rix,Xh,hnil];apply hK;clear hK K;refine qK (b:=_) rfl (fun hb1=>?_) (fun hb1=>?_)
 ·skip
  have hres:=readE_odd hl hrl hb1;refine XL 4 [4,5] mixed (by kernel_rfl) (by rfl) (by rfl) fun K hK=>?_;simp+decide only[ev,qJ,qG,putD,Slots.put,Slots.get,if_true,if_false,true_and,↓qA,ql,fa116_1,↓qF,Qa,qg ag33 qbe,↓Qn,↓qU,Ug,evP,List.map_cons,List.map_nil,↓qd,qb,qc,List.getD_cons_zero,List.getD_cons_succ,Nat.zero_add,Nat.reduceAdd,qh,allLive,Bool.and_true,rix,Xh,hnil];refine qo (v:= .agg [.int .i64 4, .int .i64 x.line, .int .i64 x.col]) (by rfl) (by rfl) (ri.other (ri.sub _ _ er)) QA (by rfl) (by rfl) (by simp[]) (Nat.zero_le _) (by rfl) ?_;simp only[setAt,AVal.cells,List.set_cons_zero,List.set_cons_succ,Nat.zero_add,Nat.reduceAdd];simp+decide only[qa,putD,Slots.keep,if_true,if_false];apply hK;clear hK K;refine qN ?_;try simp only[Qf,YF]
  refine qY h (Sub.trans_set (hs0.trans ri.above) hr) (?_) ?_
  ·simp+decide only[Qy,qp,qi,Slots.get,if_true,if_false,and_true,qp,qi,qg Xf QA,qZ,qc,List.getD_cons_zero,List.getD_cons_succ,Nat.zero_add,Nat.reduceAdd,qh,allLive,Bool.and_true,qc,List.getD_cons_zero,List.getD_cons_succ,Nat.zero_add,Nat.reduceAdd,qh,allLive,Bool.and_true]
  simp+decide only[Slots.get,if_true,if_false,QW,qp,qi,qg Xf QA,qZ,qc,List.getD_cons_zero,List.getD_cons_succ,Nat.zero_add,Nat.reduceAdd,qh,allLive,Bool.and_true,qc,List.getD_cons_zero,List.getD_cons_succ,Nat.zero_add,Nat.reduceAdd,qh,allLive,Bool.and_true];exact⟨.nilSlice,by rw[hres];rfl,by rw[hres];exact⟨[],rfl, .nil,by simp⟩,Sub.refl _⟩
 ·skip
  have hres:=readE_ok hl hrl hb1;refine qW ?_;change Awp _ _ _ _ _ _ _;refine qO ?_;refine awp_rseq [5,6,61,62] (by rfl) fun K hK=>?_;simp+decide only[qa,ev,qJ,qG,putD,Slots.put,Slots.get,Slots.keep,if_true,if_false,true_and,↓qA,ql,qaP,↓qF,Qa,qw ag101,↓Xz,QK,UN Tryz.underlying101,↓qj,qf,List.getD_cons_zero,Nat.zero_add,QL,rix,Xh,hnil];apply hK;clear hK K;refine Qv ?_;refine XE [5,6,61,62] (fun g:Unit=>[(5, .ptr (.own kr) 0),(6, .ptr (.own kx) 0),(61, .int .i64 0),(62, .int .i64 0)]) (fun g:Unit=>rdH kx B none none x) (fun g:Unit=>True) (fun g:Unit=>0) () (by rfl) (Sub.refl _) trivial ?_;intro _ _;refine awp_rseq [5,6,61,62,63] (by rfl) fun K hK=>?_;simp+decide only[qa,ev,putD,Slots.put,Slots.get,Slots.keep,if_true,if_false,true_and,↓qB,qm,qV,cond_false,qz,XZ];apply hK;clear hK K;refine qO (qK (b:=_) rfl (fun hb2=>?_) (fun hb2=>?_))
  ·exact absurd hb2 (by decide)
  ·try simp only[decide_eq_false_iff_not]at hb2
   refine XJ ?_;change Awp _ _ _ _ _ _ _;refine awp_rseq [4,5] (by rfl) fun K hK=>?_;simp+decide only[ev,putD,Slots.put,Slots.get,if_true,if_false,true_and,↓qA,ql,qaP,↓qF,Qa,qw ag101,List.getD_cons_zero,Nat.zero_add,QL,rix,Xh,hnil];refine qM (V:= .nilSlice) (by rfl) (by rfl) ((c_clipC w0 _ .nilSlice [] .nil)) ?_;simp+decide only[ev,qJ,qG,putD,Slots.put,Slots.get,if_true,if_false,true_and,↓Qn,↓qU,Zk,evP,List.map_nil,↓qd,qb];refine qo (v:= .agg [.int .i64 0, .int .i64 0, .int .i64 0]) (by rfl) (by rfl) (ri.other (ri.sub _ _ er)) QA (by rfl) (by rfl) (by simp[]) (Nat.zero_le _) (by rfl) ?_;simp only[setAt,AVal.cells,List.set_cons_zero,List.set_cons_succ,Nat.zero_add,Nat.reduceAdd];simp+decide only[qa,putD,Slots.keep,if_true,if_false];apply hK;clear hK K;refine qN ?_;try simp only[YF]
   refine qY h (Sub.trans_set (hs0.trans ri.above) hr) (?_) ?_
   ·simp+decide only[Qy,qp,qi,Slots.get,if_true,if_false,and_true,qp,qi,qg Xf QA,qZ,qc,List.getD_cons_zero,List.getD_cons_succ,Nat.zero_add,Nat.reduceAdd,qh,allLive,Bool.and_true,qc,List.getD_cons_zero,List.getD_cons_succ,Nat.zero_add,Nat.reduceAdd,qh,allLive,Bool.and_true]
   simp+decide only[Slots.get,if_true,if_false,QW,qp,qi,qg Xf QA,qZ,qc,List.getD_cons_zero,List.getD_cons_succ,Nat.zero_add,Nat.reduceAdd,qh,allLive,Bool.and_true,qc,List.getD_cons_zero,List.getD_cons_succ,Nat.zero_add,Nat.reduceAdd,qh,allLive,Bool.and_true];exact⟨.nilSlice,by rw[hres];rfl,by rw[hres,hcards];exact⟨[],rfl, .nil,by simp⟩,Sub.refl _⟩
theorem okCap{w0:World}{h:AHeap}{v:AVal}{xs:List (List AVal)}(hb:IsL w0 h 3 v xs):(ZJ v).okIn (fun k=>(h k).isSome):=by
 cases hb with
 |nil=>trivial
 |mk l o n c xs hn hw hc hl hcap=>
  cases l with
  |base b=>trivial
  |own k=>
   simp only[ZJ,AVal.okIn];intro h0;cases hk:h k with
   |some b=>rfl
   |none=>
    obtain⟨m,rfl⟩:∃m,n=m+1:=⟨n-1,by omega⟩
    rw[show(m+1)*3=(m*3+2)+1 by omega,qc]at hc;rw[<-hc]at hl;simp[allLive,rd,hk,AVal.live]at hl
def qdk(p:CardC×AVal):CardC×AVal:=(p.1,ZJ p.2)
theorem flat_len3(l:List (CardC×AVal)):(l.map Za).flatten.length=l.length*3:=by
 rw[YH (es:=3) (by intro y hy;obtain⟨p,_,rfl⟩:=List.mem_map.1 hy;rfl),List.length_map]
theorem flat_set:∀(l:List (CardC×AVal)) (i:Nat) (v:AVal) (hi:i<l.length),setAt (l.map Za).flatten (i*3+2) [v]=((l.set i ((l[i]).1,v)).map Za).flatten
 |p::l,0,v,_=>rfl
 |p::l,i+1,v,hi=>by
  have ih:=flat_set l i v (by simpa using hi);simp only[setAt]at ih|-
  simp only[List.map_cons,List.flatten_cons,List.set_cons_succ,List.getElem_cons_succ];rw[<-ih,List.set_append_right _ _ (by rw[cell3_wide];omega),cell3_wide,show(i+1)*3+2-3=i*3+2 by omega]
theorem flat_get(l:List (CardC×AVal))(i:Nat)(hi:i<l.length):(l.map Za).flatten.getD (i*3+2) .dead=(l[i]).2:=by
 rw[List.getD,flatten_get (es:=3) (by intro y hy;obtain⟨p,_,rfl⟩:=List.mem_map.1 hy;rfl) (by rw[List.length_map];exact hi) (by decide)];simp[List.getD,hi,Za]
def psi(ps:List (CardC×AVal))(i:Nat):List (CardC×AVal):=(ps.take i).map qdk++ps.drop i
theorem psi_len(ps:List (CardC×AVal))(i:Nat):(psi ps i).length=ps.length:=by
 unfold psi;simp;omega
theorem psi_get(ps:List (CardC×AVal))(i:Nat)(hi:i<ps.length):(psi ps i)[i]'(by rw[psi_len];exact hi)=ps[i]:=by
 unfold psi;rw[List.getElem_append_right (by simp;omega)];simp[Nat.min_eq_left (Nat.le_of_lt hi)]
theorem psi_next(ps:List (CardC×AVal))(i:Nat)(hi:i<ps.length):(psi ps i).set i (qdk ps[i])=psi ps (i+1):=by
 unfold psi;have hl:((ps.take i).map qdk).length=i:=by simp;omega
 rw[List.set_append_right _ _ (by omega),hl,Nat.sub_self,List.drop_eq_getElem_cons hi,List.set_cons_zero,List.take_add_one,List.getElem?_eq_getElem hi,Option.toList_some,List.map_append,List.append_assoc];rfl
theorem bufOk_blk{H:AHeap}{es:Nat}{b:Option Buf}{c:Buf}(h:bufOk H es b)(e:b=some c):H c.blk=none:=by subst e;exact h.1
theorem bufH_blk{H:AHeap}{b:Option Buf}{c:Buf}(e:b=some c):QS H b=H.set c.blk ⟨c.cells,0⟩:=by subst e;rfl
theorem readEnd1(w0:World)(h B0:AHeap)(hs0:Sub h B0)(kr kx:Nat)(text:Str)(dbg:Bool)(hl:text.length<=1048576)(er:B0 kr=some ⟨[.int .i64 0, .int .i64 0, .int .i64 0],0⟩)(hr:h kr=none)
 (B M:AHeap) (cb mb:Option Buf) (x:Rd) (ri:RdInv w0 B0 kx B M cb mb x) (hcards:x.cards≠[]) (hsm:x.cards.length<=1099511627776) (hrl:YU dbg (XH (Yf text)) 1 .start=(x,okF)):
 Awp Tryz.prog w0 82 (qao 5 (unScope (qao 1 (bodyOf Tryz.f49)))) (noGotoA (retA Tryz.prog w0 [.tmp 4, .cell 5 35] (ReadR w0 h text dbg))) [(5, .ptr (.own kr) 0),(6, .ptr (.own kx) 0)] (rdH kx B cb mb x):=by
 obtain⟨ps,kc,hps,hcb,hv,hL,hMM,hMk⟩:∃(ps:List (CardC×AVal)) (kc:Nat),ps.map (·.1)=x.cards/\cb=some ⟨kc,(ps.map Za).flatten⟩/\QO 3 cb= .slice (.own kc) 0 ps.length (.grow 3)/\(∀p∈ps,IsL w0 (QS M mb) 3 p.2 (p.1.marks.map WP))/\QS M mb kc=none/\Sub (QS M mb) (rdH kx B cb mb x):=by
  rcases ri.cards with⟨e,_⟩|⟨done,c,kc,e1,e2,e3,e4⟩
  ·exact absurd e hcards
  ·obtain⟨q1,q2,q3⟩:=bufSwap ri.okc ri.okm
   obtain⟨p1,p2,p3⟩:=bufPut (d:=⟨Xh cb x,0⟩) q2;have pM:=p2.sub ri.subM;have hf:(done.map Za).flatten++[.bool c.left, .str c.text,QO 3 mb]=((done++[(c,QO 3 mb)]).map Za).flatten:=by simp[Za]
   have hkc:(QS (B.set kx ⟨Xh cb x,0⟩) mb) kc=none:=bufOk_blk q3 e2;have hkx:kc≠kx:=fun e=>by
    rw[p1,e,AHeap.set_same]at hkc;cases hkc
   have hMB:Sub (QS M mb) (QS B mb):=by
    cases mb with
    |none=>exact ri.subM
    |some b=>exact Sub.set_both ri.subM _ _
   have hkcB:QS B mb kc=none:=by rwa [p1,AHeap.set_ne _ _ hkx]at hkc
   refine⟨done++[(c,QO 3 mb)],kc,by rw[e1];simp,by rw[e2,hf],?_,fun p hp=>?_,hMB.none hkcB,?_⟩
   ·rw[e2,bufV_some,hf,flat_len3]
    simp
   ·rw[List.mem_append]at hp
    rcases hp with hp|hp
    ·exact(e4 p hp).mono (Sub.buf pM)
    ·rw[List.mem_singleton.1 hp]
     exact IsL.buf pM (by decide) e3 (by intro y hy;obtain⟨m,_,rfl⟩:=List.mem_map.1 hy;rfl) (Sub.refl _)
   ·refine Sub.trans hMB ?_
    unfold rdH;rw[q1,bufH_blk e2];refine Sub.trans ?_ (Sub.set hkc);rw[p1];exact Sub.set (by rw[p3];exact ri.hk)
 have hkcx:(rdH kx B cb mb x) kc=some ⟨(ps.map Za).flatten,0⟩:=by
  have:=ri.okm;unfold rdH;exact ZL ri.okm (by rw[hcb];exact AHeap.set_same _ _ _)
 have hkx:=ri.at;have hne:kx≠kc:=fun e=>by
  rw[<-e,hkx]at hkcx;have:=congrArg (fun o=>(o.map fun b=>b.cells.length).getD 0) hkcx;simp only[Option.map_some,Option.getD_some,Xh,List.length_cons,List.length_nil,flat_len3]at this;omega
 have hlenp:ps.length=x.cards.length:=by rw[<-hps,List.length_map]
 have hkr:=ri.other (ri.sub _ _ er);have hrc:kr≠kc:=fun e=>by
  rw[e,hkcx]at hkr;have:=congrArg (fun o=>(o.map fun b=>b.cells.length).getD 0) hkr;simp only[Option.map_some,Option.getD_some,List.length_cons,List.length_nil,flat_len3]at this;have h1:ps.length=1:=by omega
  match ps,h1 with
  |[p],_=>simp[Za]at hkr
 have hhc:h kc=none:=by
  cases hc:h kc with
  |none=>rfl
  |some b=>
   have:=ri.sub _ _ (hs0 _ _ hc);have h2:=ri.okc;rw[hcb]at h2;have:=(AHeap.set_ne B ⟨Xh (some ⟨kc,(ps.map Za).flatten⟩) x,0⟩ hne.symm).symm.trans h2.1
   simp_all
 obtain⟨H0,hH0⟩:∃H0,H0=rdH kx B cb mb x:=⟨_,rfl⟩
 have hsub:Sub h H0:=by rw[hH0];exact hs0.trans ri.above
 rw[<-hH0]at hkcx hkx hkr hMk|-
 have rix:=fun o=>Qr w0 hkx o;change Awp _ _ _ (Code.seq _ _) _ _ _;refine qO ?_;refine awp_rseq [5,6,55] (by rfl) fun K hK=>?_;simp+decide only[qa,ev,putD,Slots.put,Slots.get,Slots.keep,if_true,if_false,true_and,↓qA,ql,qcT,↓qF,Qa,qw ag4,List.getD_cons_zero,List.getD_cons_succ,Nat.zero_add,qC,rix,Xh,hv];apply hK;clear hK K;refine qK (b:=_) rfl (fun hb1=>?_) (fun hb1=>?_)
 ·skip
  have hres:=readE_odd hl hrl hb1;refine XL 4 [4,5] mixed (by kernel_rfl) (by rfl) (by rfl) fun K hK=>?_;simp+decide only[ev,qJ,qG,putD,Slots.put,Slots.get,if_true,if_false,true_and,↓qA,ql,fa116_1,↓qF,Qa,qg ag33 qbe,↓Qn,↓qU,Ug,evP,List.map_cons,List.map_nil,↓qd,qb,qc,List.getD_cons_zero,List.getD_cons_succ,Nat.zero_add,Nat.reduceAdd,qh,allLive,Bool.and_true,rix,Xh,hv];refine qo (v:= .agg [.int .i64 4, .int .i64 x.line, .int .i64 x.col]) (by rfl) (by rfl) hkr QA (by rfl) (by rfl) (by simp[]) (Nat.zero_le _) (by rfl) ?_;simp only[setAt,AVal.cells,List.set_cons_zero,List.set_cons_succ,Nat.zero_add,Nat.reduceAdd];simp+decide only[qa,putD,Slots.keep,if_true,if_false];apply hK;clear hK K;refine qN ?_;try simp only[Qf,YF]
  refine qY h (Sub.trans_set hsub hr) (?_) ?_
  ·simp+decide only[Qy,qp,qi,Slots.get,if_true,if_false,and_true,qp,qi,qg Xf QA,qZ,qc,List.getD_cons_zero,List.getD_cons_succ,Nat.zero_add,Nat.reduceAdd,qh,allLive,Bool.and_true,qc,List.getD_cons_zero,List.getD_cons_succ,Nat.zero_add,Nat.reduceAdd,qh,allLive,Bool.and_true]
  simp+decide only[Slots.get,if_true,if_false,QW,qp,qi,qg Xf QA,qZ,qc,List.getD_cons_zero,List.getD_cons_succ,Nat.zero_add,Nat.reduceAdd,qh,allLive,Bool.and_true,qc,List.getD_cons_zero,List.getD_cons_succ,Nat.zero_add,Nat.reduceAdd,qh,allLive,Bool.and_true];exact⟨.nilSlice,by rw[hres];rfl,by rw[hres];exact⟨[],rfl, .nil,by simp⟩,Sub.refl _⟩
 ·skip
  have hres:=readE_ok hl hrl hb1;refine qW ?_;change Awp _ _ _ _ _ _ _;refine qO ?_;refine awp_rseq [5,6,61,62] (by rfl) fun K hK=>?_;simp+decide only[qa,ev,qJ,qG,putD,Slots.put,Slots.get,Slots.keep,if_true,if_false,true_and,↓qA,ql,qaP,↓qF,Qa,qw ag101,↓Xz,QK,Zj Tryz.underlying101,↓qj,qf,List.getD_cons_zero,Nat.zero_add,UT,rix,Xh,hv];apply hK;clear hK K;refine Qv ?_;refine XE [5,6,61,62] (fun i:Nat=>[(5, .ptr (.own kr) 0),(6, .ptr (.own kx) 0),(61, .int .i64 ps.length),(62, .int .i64 i)]) (fun i:Nat=>H0.set kc ⟨((psi ps i).map Za).flatten,0⟩) (fun i:Nat=>i<=ps.length) (fun i:Nat=>ps.length-i) 0 (by rfl) (by rw[show psi ps 0=ps from rfl,Yi hkcx];exact Sub.refl _) (Nat.zero_le _) ?_;intro i hi;have hkxi:=(AHeap.set_ne H0 ⟨((psi ps i).map Za).flatten,0⟩ hne).trans hkx;have rii:=fun o=>Qr w0 hkxi o;refine awp_rseq [5,6,61,62,63] (by rfl) fun K hK=>?_;simp+decide only[qa,ev,putD,Slots.put,Slots.get,Slots.keep,if_true,if_false,true_and,↓qB,qm,qV,cond_false,qz,XZ];apply hK;clear hK K;refine qO (qK (b:=_) rfl (fun hb2=>?_) (fun hb2=>?_))
  ·try simp only[decide_eq_true_eq]at hb2
   have hi':i<ps.length:=by omega
   have hg:((psi ps i).map Za).flatten.getD (i*3+2) .dead=(ps[i]).2:=by rw[flat_get _ _ (by rw[psi_len];exact hi'),psi_get ps i hi']
   have hMi:Sub (QS M mb) (H0.set kc ⟨((psi ps i).map Za).flatten,0⟩):=Sub.trans_set hMk hMM;have hLi:=(hL _ (List.getElem_mem hi')).mono hMi;have hlv:=hLi.live;have hok:AVal.okIn (fun k=>((H0.set kc ⟨((psi ps i).map Za).flatten,0⟩) k).isSome) (ZJ (ps[i]).2):=okCap hLi;refine qW ?_;change Awp _ _ _ _ _ _ _;refine qO ?_;refine Qv ?_;refine awp_rseq [5,6,13,61,62] (by rfl) fun K hK=>?_;simp+decide only[qa,ev,putD,Slots.put,Slots.get,Slots.keep,if_true,if_false,true_and,↓qj,qf,↓qd,qb];apply hK;clear hK K;refine awp_draw_F 12 [] mixed (by kernel_rfl) (by rfl) ?_;simp only[List.take_succ_cons,List.take_zero,List.drop_succ_cons,List.drop_zero];simp+decide only[ev,putD,Slots.put,Slots.get,if_true,if_false,true_and,↓Zr,ql,qaP,↓WH,Zp,qw ag101,↓Us,qf,↓qcR,Qk Tryz.underlying101 qbZ,Um,qaO,qw ag124,QV,List.getD_cons_zero,Nat.zero_add,UT,rii,Xh,hv,Int.toNat_natCast,hg,hlv];repeat (with_reducible refine And.intro ?_ ?_;· first|trivial|omega|(intro hg;simp only[Bool.and_eq_true,Bool.or_eq_true,Bool.not_eq_true',Bool.and_eq_false_iff,Bool.or_eq_false_iff,Bool.not_eq_false',decide_eq_true_eq,decide_eq_false_iff_not,Zd]at hg;omega))
   refine qbs (V:=ZJ (ps[i]).2) (by rfl) (by rfl) (by first|trivial|(simp+decide only[AVal.okIn,WO,and_true,true_and,QN,WP,posA,cardA,rowA,AHeap.set_same,Option.isSome_some];done)|(simp[AVal.okIn,WO,AHeap.set];done)) (fun g hg=>c_clipM w0 _ _ _ (by first|exact hLi|exact hLi.mono hg)) ?_;simp+decide only[YJ,ev,putD,Slots.put,Slots.get,if_true,if_false,true_and,↓qcR,Qk Tryz.underlying101 qbZ,Um,↓Zr,ql,qaO,Nat.zero_add,Int.toNat_natCast];repeat (with_reducible refine And.intro ?_ ?_;· first|trivial|omega|(intro hg;simp only[Bool.and_eq_true,Bool.or_eq_true,Bool.not_eq_true',Bool.and_eq_false_iff,Bool.or_eq_false_iff,Bool.not_eq_false',decide_eq_true_eq,decide_eq_false_iff_not,Zd]at hg;omega))
   have hcl:=hLi.clip;have hset:setAt ((psi ps i).map Za).flatten (i*3+2) [ZJ (ps[i]).2]=((psi ps (i+1)).map Za).flatten:=by
    rw[flat_set _ _ _ (by rw[psi_len];exact hi'),psi_get ps i hi',<-psi_next ps i hi'];rfl
   refine qo (v:=ZJ (ps[i]).2) (by rfl) (by rfl) (AHeap.set_same _ _ _) sz124 hcl.live (by rw[hcl.cells];rfl) (by simp only[];rw[flat_len3,psi_len];omega) (Nat.zero_le _) (by rw[hcl.cells];simp[Qz,hcl.scal]) ?_;rw[AHeap.set_set,hcl.cells];simp only[];rw[hset];simp+decide only[qa,putD];change Awp _ _ _ _ _ _ _;refine XI [5,6,61,62] (by rfl) ?_;simp+decide only[qa,ev,qJ,qG,putD,Slots.put,Slots.get,Slots.keep,if_true,if_false,true_and,↓qB,qm,qD,cond_false,qz,Xa,↓qj,qf];try simp(disch:=omega)only[wrap_i64]
   try simp only[Qj]
   exact⟨i+1,rfl,Sub.refl _,by omega,by omega⟩
  ·try simp only[decide_eq_false_iff_not]at hb2
   obtain rfl:i=ps.length:=by omega
   have hpsi:psi ps ps.length=ps.map qdk:=by simp[psi]
   rw[hpsi]at hkxi rii|-
   have hlive:∀p∈ps,IsL w0 (H0.set kc ⟨((ps.map qdk).map Za).flatten,0⟩) 3 (ZJ p.2) (p.1.marks.map WP):=fun p hp=>((hL p hp).mono (Sub.trans_set hMk hMM)).clip;have hLc:IsL w0 (H0.set kc ⟨((ps.map qdk).map Za).flatten,0⟩) 3 (.slice (.own kc) 0 ps.length (.grow 3)) ((ps.map qdk).map Za):=by
    have:=IsL.own (w0:=w0) (es:=3) (xs:=(ps.map qdk).map Za) (AHeap.set_same H0 kc ⟨((ps.map qdk).map Za).flatten,0⟩) (by intro y hy;obtain⟨p,_,rfl⟩:=List.mem_map.1 hy;rfl) rfl (Yv.2 (by
     intro y hy;obtain⟨p,hp,rfl⟩:=List.mem_map.1 hy;obtain⟨q,hq,rfl⟩:=List.mem_map.1 hp;show(true && (true && ((ZJ q.2).live && true)))=true
     rw[(hlive q hq).live];rfl)) (.grow 3) rfl
    simpa using this
   have hkr':=(AHeap.set_ne H0 ⟨((ps.map qdk).map Za).flatten,0⟩ hrc).trans hkr;refine XJ ?_;change Awp _ _ _ _ _ _ _;refine awp_rseq [4,5] (by rfl) fun K hK=>?_;simp+decide only[ev,putD,Slots.put,Slots.get,if_true,if_false,true_and,↓qA,ql,qaP,↓qF,Qa,qw ag101,List.getD_cons_zero,Nat.zero_add,UT,rii,Xh,hv];refine qM (V:= .slice (.own kc) 0 ps.length (.exact ps.length)) (by rfl) (by rfl) (c_clipC w0 _ _ _ hLc) ?_;simp+decide only[ev,qJ,qG,putD,Slots.put,Slots.get,if_true,if_false,true_and,↓Qn,↓qU,Zk,evP,List.map_nil,↓qd,qb];refine qo (v:= .agg [.int .i64 0, .int .i64 0, .int .i64 0]) (by rfl) (by rfl) hkr' QA (by rfl) (by rfl) (by simp[]) (Nat.zero_le _) (by rfl) ?_;simp only[setAt,AVal.cells,List.set_cons_zero,List.set_cons_succ,Nat.zero_add,Nat.reduceAdd];rw[Yi hkr'];simp+decide only[qa,putD,Slots.keep,if_true,if_false];apply hK;clear hK K;refine qN ?_;try simp only[YF]
   refine qY (H0.set kc ⟨((ps.map qdk).map Za).flatten,0⟩) (Sub.refl _) (?_) ?_
   ·simp+decide only[Qy,qp,qi,Slots.get,if_true,if_false,and_true,qp,qi,qg Xf QA,qc,List.getD_cons_zero,List.getD_cons_succ,Nat.zero_add,Nat.reduceAdd,qh,allLive,Bool.and_true,qc,List.getD_cons_zero,List.getD_cons_succ,Nat.zero_add,Nat.reduceAdd,qh,allLive,Bool.and_true,Qr w0 hkr']
   simp+decide only[Slots.get,if_true,if_false,QW,qp,qi,qg Xf QA,qc,List.getD_cons_zero,List.getD_cons_succ,Nat.zero_add,Nat.reduceAdd,qh,allLive,Bool.and_true,qc,List.getD_cons_zero,List.getD_cons_succ,Nat.zero_add,Nat.reduceAdd,qh,allLive,Bool.and_true,Qr w0 hkr'];exact⟨_,by rw[hres];rfl,by rw[hres];exact⟨ps.map qdk,by rw[List.map_map];exact hps,hLc.clip,fun p hp=>by obtain⟨q,hq,rfl⟩:=List.mem_map.1 hp;exact hlive q hq⟩,Sub.trans_set hsub hhc⟩
theorem readEnd(w0:World)(h B0:AHeap)(hs0:Sub h B0)(kr kx:Nat)(text:Str)(dbg:Bool)(hl:text.length<=1048576)(er:B0 kr=some ⟨[.int .i64 0, .int .i64 0, .int .i64 0],0⟩)(hr:h kr=none)
 (B M:AHeap) (cb mb:Option Buf) (x:Rd) (ri:RdInv w0 B0 kx B M cb mb x) (hsm:x.cards.length<=1099511627776) (hrl:YU dbg (XH (Yf text)) 1 .start=(x,okF)):
 Awp Tryz.prog w0 82 (qao 5 (unScope (qao 1 (bodyOf Tryz.f49)))) (noGotoA (retA Tryz.prog w0 [.tmp 4, .cell 5 35] (ReadR w0 h text dbg))) [(5, .ptr (.own kr) 0),(6, .ptr (.own kx) 0)] (rdH kx B cb mb x):=by
 by_cases hc:x.cards=[]
 ·exact readEnd0 w0 h B0 hs0 kr kx text dbg hl er hr B M cb mb x ri hc hrl
 ·exact readEnd1 w0 h B0 hs0 kr kx text dbg hl er hr B M cb mb x ri hc hsm hrl
end Go.Proofs.YtlhhaagmakhilaaGreatDoor
namespace Go.Proofs.YtlhhaagmakhilaaGreatDoor
open Go.AM
open Go.Proofs
open Go.Col
set_option maxRecDepth 100000
theorem readLoop(w0:World)(hm:MaxL w0)(h B0:AHeap)(hs0:Sub h B0)(kr kx ks:Nat)(text:Str)(dbg:Bool)(lines:List Str)(hln:lines=XH (Yf text))(hl:text.length<=1048576)
 (er:B0 kr=some ⟨[.int .i64 0, .int .i64 0, .int .i64 0],0⟩) (hr:h kr=none) (es:B0 ks=some ⟨lines.map AVal.str,0⟩) (hi:RdInv w0 B0 kx B0 (fun _=>none) none none .start):
 Awp Tryz.prog w0 82 (qao 4 (unScope (qao 1 (bodyOf Tryz.f49)))) (noGotoA (retA Tryz.prog w0 [.tmp 4, .cell 5 35] (ReadR w0 h text dbg))) [(1, .bool dbg),(5, .ptr (.own kr) 0),(6, .ptr (.own kx) 0),(7, .slice (.own ks) 0 lines.length (.exact lines.length))] (rdH kx B0 none none .start):=by
 have hnl:lines.length<=1048577:=by
  rw[hln];have:=qdr (Yf text);have:=qcw text;omega
 change Awp _ _ _ (Code.seq _ _) _ _ _;refine qO ?_;refine awp_rseq [1,5,6,21,22,23] (by rfl) fun K hK=>?_;simp+decide only[qa,ev,qJ,qG,putD,Slots.put,Slots.get,Slots.keep,if_true,if_false,true_and,↓qj,qf,↓Xz,QK,Zj Tryz.underlying30];apply hK;clear hK K;refine Qv ?_;refine XE [1,5,6,21,22,23] (fun g:RdL=>[(1, .bool dbg),(5, .ptr (.own kr) 0),(6, .ptr (.own kx) 0),(21, .slice (.own ks) 0 lines.length (.exact lines.length)),(22, .int .i64 lines.length),(23, .int .i64 g.i)]) (fun g:RdL=>rdH kx g.B g.cb g.mb g.x) (fun g:RdL=>RdInv w0 B0 kx g.B g.M g.cb g.mb g.x/\g.i<=lines.length/\RdSm g.i g.x/\YU dbg (lines.drop g.i) (g.i+1) g.x=YU dbg lines 1 .start) (fun g:RdL=>lines.length-g.i) ⟨0,B0,fun _=>none,none,none, .start⟩ (by rfl) (Sub.refl _) ⟨hi,Nat.zero_le _,⟨by simp[Rd.start],by simp[Rd.start]⟩,rfl⟩ ?_;rintro⟨i,B,M,cb,mb,x⟩ ⟨ri,hin,hsm,hrl⟩;simp only at ri hin hsm hrl|-
 have rix:=fun o=>Qr w0 ri.at o;refine awp_rseq [1,5,6,21,22,23,24] (by rfl) fun K hK=>?_;simp+decide only[qa,ev,putD,Slots.put,Slots.get,Slots.keep,if_true,if_false,true_and,↓qB,qm,qV,cond_false,qz,XZ];apply hK;clear hK K;refine qO (qK (b:=_) rfl (fun hb1=>?_) (fun hb1=>?_))
 ·try simp only[decide_eq_true_eq]at hb1
  have hi':i<lines.length:=by omega
  have eks:=ri.above _ _ es;have rks:=fun o=>Qr w0 eks o;have eg:(lines.map AVal.str).getD i .dead= .str (lines.getD i []):=by simp[List.getD,hi']
  obtain⟨r,cn,f,hp⟩:∃r cn f,WS (lines.getD i []) ((i:Int)+1) dbg=(r,cn,f):=⟨_,_,_,rfl⟩
  have hsl:=lineE_small (s:=lines.getD i []) (line:=(i:Int)+1) (dbg:=dbg);rw[hp]at hsl;simp only at hsl;have hlm:(lines.getD i []).length<=1048576:=by
   have h1:=splitNL_mem (Yf text) (lines.getD i []) (by rw[<-hln,List.getD,List.getElem?_eq_getElem hi'];exact List.getElem_mem hi');have h2:=qcw text;omega
  have hdrop:lines.drop i=lines.getD i []::lines.drop (i+1):=by rw[List.drop_eq_getElem_cons hi'];simp[List.getD,hi']
  refine qW ?_;change Awp _ _ _ _ _ _ _;refine qO ?_;refine Qv ?_;refine awp_rseq [1,5,6,8,9,21,22,23] (by rfl) fun K hK=>?_;simp+decide only[qa,ev,putD,Slots.put,Slots.get,Slots.keep,if_true,if_false,true_and,↓qj,qf,↓Xg,Qa,Qk Tryz.underlying30 sz9,↓qF,qw ag9,↓qd,qb,Nat.zero_add,qE,rks,eg,Int.toNat_natCast,Nat.mul_one];repeat (with_reducible refine And.intro ?_ ?_;· first|trivial|omega|(intro hg;simp only[Bool.and_eq_true,Bool.or_eq_true,Bool.not_eq_true',Bool.and_eq_false_iff,Bool.or_eq_false_iff,Bool.not_eq_false',decide_eq_true_eq,decide_eq_false_iff_not,Zd]at hg;omega))
  apply hK;clear hK K;refine awp_rseq [1,5,6,10,11,12,21,22,23] (by rfl) fun K hK=>?_;simp+decide only[ev,qJ,qG,putD,Slots.put,Slots.get,if_true,if_false,true_and,↓qj,qf,↓qB,qm,qD,cond_false,qz,Xa];try simp(disch:=omega)only[wrap_i64]
  refine qM (V:= .tuple [rowA r, .bool cn,QN f]) (by rfl) (by rfl) ((c_read w0 _ (lines.getD i []) ((i:Int)+1) dbg (by omega) (by omega) (by omega)).val (by rw[hp])) ?_;simp+decide only[ev,putD,Slots.put,Slots.get,if_true,if_false,true_and,↓qj,qf,↓QJ,QC,QG,List.length_cons,List.length_nil,List.getD_cons_zero,List.getD_cons_succ,List.getD_cons_zero,List.getD_cons_succ,Nat.zero_add,Nat.reduceAdd,QN,rowA];refine Qg ze120 (cs:=[.int .i64 0, .bool false, .str [], .int .i64 0]) (by rfl) fun k8q9 hk8q9=>?_;try have hf_8q9:(rdH kx B0 none none .start) k8q9=none:=by first|assumption|(simp only[AHeap.set_none]at hk8q9;simp only[hk8q9])
  refine Qg qas (cs:=[.int .i64 0, .int .i64 0, .int .i64 0]) (by rfl) fun k8q10 hk8q10=>?_;have ne_8q10_8q9:k8q10≠k8q9:=by simp only[AHeap.set_none]at hk8q10;simp only[hk8q10,ne_eq,not_false_eq_true]
  try have hf_8q10:(rdH kx B0 none none .start) k8q10=none:=by first|assumption|(simp only[AHeap.set_none]at hk8q10;simp only[hk8q10])
  refine qo (by rfl) (by rfl) (by repeat (first|exact AHeap.set_same _ _ _|assumption|refine(AHeap.set_ne _ _ (by first|assumption|exact Ne.symm (by assumption))).trans ?_)) ZM (by rfl) (by rfl) (by first|exact Nat.le_refl _|decide|(simp;done)|(simp;omega)) (Nat.zero_le _) (by rfl) ?_;simp only[AVal.cells];simp+decide only[ev,putD,Slots.put,Slots.get,if_true,if_false,true_and,↓qd,qb,setAt,List.set_cons_zero,List.set_cons_succ,Nat.zero_add,Nat.reduceAdd];refine qo (by rfl) (by rfl) (by repeat (first|exact AHeap.set_same _ _ _|assumption|refine(AHeap.set_ne _ _ (by first|assumption|exact Ne.symm (by assumption))).trans ?_)) QA (by rfl) (by rfl) (by first|exact Nat.le_refl _|decide|(simp;done)|(simp;omega)) (Nat.zero_le _) (by rfl) ?_;simp only[AVal.cells];simp+decide only[qa,ev,putD,Slots.get,Slots.keep,if_true,if_false,setAt,List.set_cons_zero,List.set_cons_succ,Nat.zero_add,Nat.reduceAdd];apply hK;clear hK K;refine qO ?_;have hnorm:((((rdH kx B cb mb x).set k8q9 ⟨[.int .i64 0, .bool false, .str [], .int .i64 0],0⟩).set k8q10 ⟨[.int .i64 0, .int .i64 0, .int .i64 0],0⟩).set k8q9 ⟨[.int .i64 r.line, .bool r.more, .str r.text, .int .i64 r.col],0⟩).set k8q10 ⟨[.int .i64 f.e, .int .i64 f.line, .int .i64 f.col],0⟩=((rdH kx B cb mb x).set k8q9 ⟨[.int .i64 r.line, .bool r.more, .str r.text, .int .i64 r.col],0⟩).set k8q10 ⟨[.int .i64 f.e, .int .i64 f.line, .int .i64 f.col],0⟩:=by
   rw[AHeap.set_comm ((rdH kx B cb mb x).set k8q9 ⟨[.int .i64 0, .bool false, .str [], .int .i64 0],0⟩) _ _ ne_8q10_8q9.symm,AHeap.set_set,AHeap.set_set]
  rw[hnorm];obtain⟨a1,a2,a3,a4⟩:=rdH_new ri hk8q9 ⟨[.int .i64 r.line, .bool r.more, .str r.text, .int .i64 r.col],0⟩;have hk2:rdH kx (B.set k8q9 ⟨[.int .i64 r.line, .bool r.more, .str r.text, .int .i64 r.col],0⟩) cb mb x k8q10=none:=by
   rw[<-a1,AHeap.set_ne _ _ ne_8q10_8q9]
   rwa [AHeap.set_ne _ _ ne_8q10_8q9]at hk8q10
  obtain⟨b1,b2,b3,b4⟩:=rdH_new a2 hk2 ⟨[.int .i64 f.e, .int .i64 f.line, .int .i64 f.col],0⟩;rw[a1,b1];obtain⟨B₁,hB₁⟩:∃B₁,B₁=(B.set k8q9 ⟨[.int .i64 r.line, .bool r.more, .str r.text, .int .i64 r.col],0⟩).set k8q10 ⟨[.int .i64 f.e, .int .i64 f.line, .int .i64 f.col],0⟩:=⟨_,rfl⟩
  rw[<-hB₁]at b2|-
  have e0:B₁ k8q9=some ⟨[.int .i64 r.line, .bool r.more, .str r.text, .int .i64 r.col],0⟩:=by rw[hB₁,AHeap.set_ne _ _ ne_8q10_8q9.symm,AHeap.set_same]
  have e1:B₁ k8q10=some ⟨[.int .i64 f.e, .int .i64 f.line, .int .i64 f.col],0⟩:=by rw[hB₁,AHeap.set_same]
  have hB8:B k8q10=none:=by rwa [AHeap.set_ne _ _ ne_8q10_8q9]at b4
  have s0:=fun o=>Qr w0 (b2.other e0) o;have s1:=fun o=>Qr w0 (b2.other e1) o;refine awp_rseq [1,5,6,10,12,21,22,23,43] (by rfl) fun K hK=>?_;simp+decide only[qa,ev,qJ,qG,putD,Slots.put,Slots.get,Slots.keep,if_true,if_false,true_and,↓qF,Qa,qg Xf QA,↓Qn,↓qU,Zk,evP,List.map_nil,↓qB,qm,qV,cond_false,ZO,eq35,↓qj,qf,↓Xc,agP,Qu,qI,qH,qy,implies_true,Bool.and_true,↓qbL,XG,ZN,cv_un,cp_un,↓QP,Qt,Qh,Xm,Xl,qc,List.getD_cons_zero,List.getD_cons_succ,Nat.zero_add,Nat.reduceAdd,qh,allLive,Bool.and_true,s1,Wh];apply hK;clear hK K;refine qK (b:=_) rfl (fun hb2=>?_) (fun hb2=>?_)
  ·try simp only[decide_eq_true_eq,Bool.not_eq_true',Bool.and_eq_true]at hb2
   have iz:=b2;have gz:=hsm.next;have lz:YU dbg (lines.drop (i+1)) (((i+1:Nat):Int)+1) x=YU dbg lines 1 .start:=by
    rw[<-hrl,hdrop,readL_skip (by rw[hp,hb2.2]) hb2.1];rfl
   refine XJ ?_;change Awp _ _ _ _ _ _ _;refine XI [1,5,6,21,22,23] (by rfl) ?_;simp+decide only[qa,ev,qJ,qG,putD,Slots.put,Slots.get,Slots.keep,if_true,if_false,true_and,↓qB,qm,qD,cond_false,qz,Xa,↓qj,qf];try simp(disch:=omega)only[wrap_i64]
   try simp only[Qj]
   exact⟨⟨i+1,_,_,_,_,_⟩,rfl,Sub.refl _,⟨iz,by simp only;omega,gz,lz⟩,by simp only;omega⟩
  ·try simp only[decide_eq_false_iff_not,Bool.not_eq_false',Bool.and_eq_false_iff]at hb2
   refine qW ?_;change Awp _ _ _ _ _ _ _;refine qO ?_;refine awp_rseq [1,5,6,10,12,21,22,23,46] (by rfl) fun K hK=>?_;simp+decide only[qa,ev,qJ,qG,putD,Slots.put,Slots.get,Slots.keep,if_true,if_false,true_and,↓qF,Qa,qg Xf QA,↓Qn,↓qU,Zk,evP,List.map_nil,↓qB,qm,qV,cond_false,ZO,eq35,qc,List.getD_cons_zero,List.getD_cons_succ,Nat.zero_add,Nat.reduceAdd,qh,allLive,Bool.and_true,s1,Wh];apply hK;clear hK K;refine qK (b:=_) rfl (fun hb3=>?_) (fun hb3=>?_)
   ·try simp only[decide_eq_true_eq]at hb3
    have hcn:cn=true:=by
     cases hcn:cn with
     |true=>rfl
     |false=>
      rcases hb2 with e|e
      ·exact absurd hb3 e
      ·rw[hcn]at e
       cases e
    subst hcn;refine XI [1,5,6,12,21,22,23] (by rfl) ?_;simp+decide only[ev,putD,Slots.put,Slots.get,if_true,if_false,true_and,↓qF,Qa,qg Wo ZM,qc,List.getD_cons_zero,List.getD_cons_succ,Nat.zero_add,Nat.reduceAdd,qC,qh,qE,allLive,Bool.and_true,s0];refine QH (by rfl) (by rfl) (c_take w0 B0 kx B₁ M cb mb x b2 r (fun c hc=>by have:=hsm.small c hc;omega) (by have:=hsm.many;omega) (by omega) (hsl.2 rfl).1 (hsl.2 rfl).2.1 (by have:=(hsl.2 rfl).2.2;omega)) fun x11q1 h11q1 hx11q1=>?_;obtain⟨ex,B',M',cb',mb',rfl,i2,s2,m2⟩:=hx11q1;obtain⟨fz,hfz⟩:∃fz,fz=(takeE x r).2:=⟨_,rfl⟩
    rw[<-hfz]at ex;subst ex;have hM8:M' k8q10=none:=m2 _ (by rw[e1];simp) (ri.subM.none hB8);obtain⟨c1,iz⟩:=i2.put (s2 _ _ e1) (ri.sub.none hB8) hM8 ⟨[.int .i64 fz.e, .int .i64 fz.line, .int .i64 fz.col],0⟩;have gz:=qdo hsm (r:=r) (by omega);refine qo (v:= .agg [.int .i64 fz.e, .int .i64 fz.line, .int .i64 fz.col]) (by rfl) (by rfl) (i2.other (s2 _ _ e1)) QA (by rfl) (by rfl) (by simp[]) (Nat.zero_le _) (by rfl) ?_;simp only[setAt,AVal.cells,List.set_cons_zero,List.set_cons_succ,Nat.zero_add,Nat.reduceAdd];rw[c1];have ez:=AHeap.set_same B' k8q10 ⟨[.int .i64 fz.e, .int .i64 fz.line, .int .i64 fz.col],0⟩;simp+decide only[qa,putD,Slots.put,Slots.keep,if_true,if_false,QN];change Awp _ _ _ _ _ _ _;refine awp_rseq [1,5,6,12,21,22,23,51] (by rfl) fun K hK=>?_;simp+decide only[qa,ev,qJ,qG,putD,Slots.put,Slots.get,Slots.keep,if_true,if_false,true_and,↓qF,Qa,qg Xf QA,↓Qn,↓qU,Zk,evP,List.map_nil,↓qB,qm,qV,cond_false,ZO,ne35,qc,List.getD_cons_zero,List.getD_cons_succ,Nat.zero_add,Nat.reduceAdd,qh,allLive,Bool.and_true,Qr w0 (iz.other ez),Wh];apply hK;clear hK K;refine qK (b:=_) rfl (fun hb4=>?_) (fun hb4=>?_)
    ·try simp only[decide_eq_false_iff_not,Bool.not_eq_true']at hb4
     have hres:=readE_fault (text:=text) (dbg:=dbg) hl (by rw[<-hln,<-hrl,hdrop,readL_bad hp hb3 (by rw[<-hfz];exact hb4)]) (by rw[<-hfz];exact hb4);rw[<-hfz]at hres;refine XL 2 [4,5] mixed (by kernel_rfl) (by rfl) (by rfl) fun K hK=>?_;simp+decide only[ev,qJ,qG,putD,Slots.put,Slots.get,if_true,if_false,true_and,↓qF,Qa,qg Xf QA,↓qd,qb,qc,List.getD_cons_zero,List.getD_cons_succ,Nat.zero_add,Nat.reduceAdd,qh,allLive,Bool.and_true,Qr w0 (iz.other ez)];refine qo (v:= .agg [.int .i64 fz.e, .int .i64 fz.line, .int .i64 fz.col]) (by rfl) (by rfl) (iz.other (iz.sub _ _ er)) QA (by rfl) (by rfl) (by simp[]) (Nat.zero_le _) (by rfl) ?_;simp only[setAt,AVal.cells,List.set_cons_zero,List.set_cons_succ,Nat.zero_add,Nat.reduceAdd];simp+decide only[qa,putD,Slots.keep,if_true,if_false];apply hK;clear hK K;refine qN ?_;try simp only[Qf,Qp,YF]
     refine qY h (Sub.trans_set (hs0.trans iz.above) hr) (?_) ?_
     ·simp+decide only[Qy,qp,qi,Slots.get,if_true,if_false,and_true,qp,qi,qg Xf QA,qZ,qc,List.getD_cons_zero,List.getD_cons_succ,Nat.zero_add,Nat.reduceAdd,qh,allLive,Bool.and_true,qc,List.getD_cons_zero,List.getD_cons_succ,Nat.zero_add,Nat.reduceAdd,qh,allLive,Bool.and_true]
     simp+decide only[Slots.get,if_true,if_false,QW,qp,qi,qg Xf QA,qZ,qc,List.getD_cons_zero,List.getD_cons_succ,Nat.zero_add,Nat.reduceAdd,qh,allLive,Bool.and_true,qc,List.getD_cons_zero,List.getD_cons_succ,Nat.zero_add,Nat.reduceAdd,qh,allLive,Bool.and_true];exact⟨.nilSlice,by rw[hres];rfl,by rw[hres];exact⟨[],rfl, .nil,by simp⟩,Sub.refl _⟩
    ·try simp only[decide_eq_true_eq,Bool.not_eq_false']at hb4
     have lz:YU dbg (lines.drop (i+1)) (((i+1:Nat):Int)+1) (takeE x r).1=YU dbg lines 1 .start:=by
      rw[<-hrl,hdrop,readL_take hp hb3 (by rw[<-hfz];exact hb4)];rfl
     refine qW ?_;change Awp _ _ _ _ _ _ _;refine XI [1,5,6,21,22,23] (by rfl) ?_;simp+decide only[qa,ev,qJ,qG,putD,Slots.put,Slots.get,Slots.keep,if_true,if_false,true_and,↓qB,qm,qD,cond_false,qz,Xa,↓qj,qf];try simp(disch:=omega)only[wrap_i64]
     try simp only[Qj]
     exact⟨⟨i+1,_,_,_,_,_⟩,rfl,Sub.refl _,⟨iz,by simp only;omega,gz,lz⟩,by simp only;omega⟩
   ·try simp only[decide_eq_false_iff_not]at hb3
    have iz:=b2;have ez:=e1;obtain⟨fz,hfz⟩:∃fz,fz=f:=⟨_,rfl⟩
    subst hfz;refine qW ?_;change Awp _ _ _ _ _ _ _;refine awp_rseq [1,5,6,12,21,22,23,51] (by rfl) fun K hK=>?_;simp+decide only[qa,ev,qJ,qG,putD,Slots.put,Slots.get,Slots.keep,if_true,if_false,true_and,↓qF,Qa,qg Xf QA,↓Qn,↓qU,Zk,evP,List.map_nil,↓qB,qm,qV,cond_false,ZO,ne35,qc,List.getD_cons_zero,List.getD_cons_succ,Nat.zero_add,Nat.reduceAdd,qh,allLive,Bool.and_true,s1,Wh];apply hK;clear hK K;refine qK (b:=_) rfl (fun hb5=>?_) (fun hb5=>?_)
    ·try simp only[decide_eq_false_iff_not,Bool.not_eq_true']at hb5
     have hres:=readE_fault (text:=text) (dbg:=dbg) hl (by rw[<-hln,<-hrl,hdrop,readL_fault hp hb3]) hb3;refine XL 2 [4,5] mixed (by kernel_rfl) (by rfl) (by rfl) fun K hK=>?_;simp+decide only[ev,qJ,qG,putD,Slots.put,Slots.get,if_true,if_false,true_and,↓qF,Qa,qg Xf QA,↓qd,qb,qc,List.getD_cons_zero,List.getD_cons_succ,Nat.zero_add,Nat.reduceAdd,qh,allLive,Bool.and_true,s1];refine qo (v:= .agg [.int .i64 fz.e, .int .i64 fz.line, .int .i64 fz.col]) (by rfl) (by rfl) (iz.other (iz.sub _ _ er)) QA (by rfl) (by rfl) (by simp[]) (Nat.zero_le _) (by rfl) ?_;simp only[setAt,AVal.cells,List.set_cons_zero,List.set_cons_succ,Nat.zero_add,Nat.reduceAdd];simp+decide only[qa,putD,Slots.keep,if_true,if_false];apply hK;clear hK K;refine qN ?_;try simp only[Qf,Qp,YF]
     refine qY h (Sub.trans_set (hs0.trans iz.above) hr) (?_) ?_
     ·simp+decide only[Qy,qp,qi,Slots.get,if_true,if_false,and_true,qp,qi,qg Xf QA,qZ,qc,List.getD_cons_zero,List.getD_cons_succ,Nat.zero_add,Nat.reduceAdd,qh,allLive,Bool.and_true,qc,List.getD_cons_zero,List.getD_cons_succ,Nat.zero_add,Nat.reduceAdd,qh,allLive,Bool.and_true]
     simp+decide only[Slots.get,if_true,if_false,QW,qp,qi,qg Xf QA,qZ,qc,List.getD_cons_zero,List.getD_cons_succ,Nat.zero_add,Nat.reduceAdd,qh,allLive,Bool.and_true,qc,List.getD_cons_zero,List.getD_cons_succ,Nat.zero_add,Nat.reduceAdd,qh,allLive,Bool.and_true];exact⟨.nilSlice,by rw[hres];rfl,by rw[hres];exact⟨[],rfl, .nil,by simp⟩,Sub.refl _⟩
    ·try simp only[decide_eq_true_eq,Bool.not_eq_false']at hb5
     exact absurd hb5 hb3
 ·try simp only[decide_eq_false_iff_not]at hb1
  obtain rfl:i=lines.length:=by omega
  have hdone:YU dbg (XH (Yf text)) 1 .start=(x,okF):=by
   rw[<-hln,<-hrl,List.drop_length];rfl
  refine XJ ?_;change Awp _ _ _ _ _ _ _;refine Awp.keep [5,6] ?_;exact readEnd w0 h B0 hs0 kr kx text dbg hl er hr B M cb mb x ri (by have:=hsm.many;omega) hdone
theorem readE_long{text:Str}{dbg:Bool}(hl:1048576<text.length):Uk text dbg=([],⟨3,0,0⟩):=by
 unfold Uk;rw[if_pos hl]
theorem c_Read(w0:World)(hm:MaxL w0)(h:AHeap)(text:Str)(dbg:Bool)(hl:text.length<=9223372036854775807):ACall Tryz.prog w0 49 [.str text, .bool dbg] h (ReadR w0 h text dbg):=by
 refine qR (n:=82) (rs:=[.tmp 4, .cell 5 35]) Tryz.func49 rfl rfl rfl rfl (Nat.le_of_ble_eq_true rfl) ?_;simp only[Qd];refine awp_rseq [0,1,5] (by rfl) fun K hK=>?_;simp+decide only[ev,qJ,qG,putD,Slots.put,if_false,true_and,↓qd,qb,Nat.zero_add];refine Qg qas (cs:=[.int .i64 0, .int .i64 0, .int .i64 0]) (by rfl) fun k0q1 hk0q1=>?_;try have hf_0q1:h k0q1=none:=by first|assumption|(simp only[AHeap.set_none]at hk0q1;simp only[hk0q1])
 simp+decide only[qa,putD,Slots.put,Slots.keep,if_true,if_false];apply hK;clear hK K;refine awp_scope ?_;refine qO ?_;refine awp_rseq [0,1,5,16] (by rfl) fun K hK=>?_;simp+decide only[qa,ev,qJ,qG,putD,Slots.put,Slots.get,Slots.keep,if_true,if_false,true_and,↓qj,qf,↓Xz,QK,YC Tryz.underlying9,↓qB,qm,qD,cond_false,qz,UO];apply hK;clear hK K;refine qK (b:=_) rfl (fun hb1=>?_) (fun hb1=>?_)
 ·try simp only[decide_eq_true_eq]at hb1
  refine awp_rseq [4,5] (by rfl) fun K hK=>?_;simp+decide only[ev,qJ,qG,putD,Slots.put,Slots.get,if_true,if_false,true_and,↓Qn,↓qU,bld35_0,evP,List.map_cons,List.map_nil,↓qd,qb];refine qo (by rfl) (by rfl) (by repeat (first|exact AHeap.set_same _ _ _|assumption|refine(AHeap.set_ne _ _ (by first|assumption|exact Ne.symm (by assumption))).trans ?_)) QA (by rfl) (by rfl) (by first|exact Nat.le_refl _|decide|(simp;done)|(simp;omega)) (Nat.zero_le _) (by rfl) ?_;simp only[AHeap.set_set,AVal.cells];simp+decide only[qa,ev,putD,Slots.get,Slots.keep,if_true,if_false,setAt,List.set_cons_zero,List.set_cons_succ,Nat.zero_add,Nat.reduceAdd];apply hK;clear hK K;refine qN ?_;try simp only[Qf,YF]
  refine qY h (by repeat (first|exact Sub.refl _|assumption|refine Sub.trans_set ?_ (by assumption))) (?_) ?_
  ·simp+decide only[Qy,qp,qi,Slots.get,if_true,if_false,and_true,qp,qi,qg Xf QA,qZ,qc,List.getD_cons_zero,List.getD_cons_succ,Nat.zero_add,Nat.reduceAdd,qh,allLive,Bool.and_true,qc,List.getD_cons_zero,List.getD_cons_succ,Nat.zero_add,Nat.reduceAdd,qh,allLive,Bool.and_true]
  simp+decide only[Slots.get,if_true,if_false,QW,qp,qi,qg Xf QA,qZ,qc,List.getD_cons_zero,List.getD_cons_succ,Nat.zero_add,Nat.reduceAdd,qh,allLive,Bool.and_true,qc,List.getD_cons_zero,List.getD_cons_succ,Nat.zero_add,Nat.reduceAdd,qh,allLive,Bool.and_true];have hb:1048576<text.length:=by omega
  exact⟨.nilSlice,by rw[readE_long hb];rfl,by rw[readE_long hb];exact⟨[],rfl, .nil,by simp⟩,Sub.refl _⟩
 ·try simp only[decide_eq_false_iff_not]at hb1
  refine qW ?_;change Awp _ _ _ _ _ _ _;refine awp_rseq [0,1,5,6] (by rfl) fun K hK=>?_;refine Qg ze116 (cs:=[.nilSlice, .int .i64 0, .int .i64 0, .bool false]) (by rfl) fun k3q0 hk3q0=>?_;have ne_3q0_0q1:k3q0≠k0q1:=by simp only[AHeap.set_none]at hk3q0;simp only[hk3q0,ne_eq,not_false_eq_true]
  try have hf_3q0:h k3q0=none:=by first|assumption|(simp only[AHeap.set_none]at hk3q0;simp only[hk3q0])
  simp+decide only[qa,putD,Slots.put,Slots.keep,if_true,if_false];apply hK;clear hK K;refine awp_rseq [1,5,6,7] (by rfl) fun K hK=>?_;simp+decide only[ev,putD,Slots.put,Slots.get,if_true,if_false,true_and,↓qj,qf];refine qM (V:= .str (Yf text)) (by rfl) (by rfl) (c_trimNL w0 _ text hl) ?_;refine QH (by rfl) (by rfl) (c_split w0 hm _ (Yf text) (by have:=qcw text;omega)) fun x4q2 h4q2 hx4q2=>?_;obtain⟨ks,hks,rfl,rfl⟩:=hx4q2;simp+decide only[qa,ev,putD,Slots.put,Slots.get,Slots.keep,if_true,if_false,true_and,↓qd,qb];apply hK;clear hK K;refine qO ?_;refine awp_label ?_;change Awp _ _ _ _ _ _ _;obtain⟨nks,_,hks2⟩:=(AHeap.set_none _ _ _ _).mp hks;obtain⟨nkr,_,hks3⟩:=(AHeap.set_none _ _ _ _).mp hks2;have nkx:k3q0≠k0q1:=((AHeap.set_none _ _ _ _).mp hk3q0).1;have hcomm:((h.set k0q1 ⟨[.int .i64 0, .int .i64 0, .int .i64 0],0⟩).set k3q0 ⟨[.nilSlice, .int .i64 0, .int .i64 0, .bool false],0⟩).set ks ⟨(XH (Yf text)).map AVal.str,0⟩=rdH k3q0 ((h.set k0q1 ⟨[.int .i64 0, .int .i64 0, .int .i64 0],0⟩).set ks ⟨(XH (Yf text)).map AVal.str,0⟩) none none .start:=AHeap.set_comm _ _ _ nks;rw[hcomm];exact readLoop w0 hm h _ (by repeat (first|exact Sub.refl _|assumption|refine Sub.set_both ?_ _ _|refine Sub.trans_set ?_ (by repeat (first|assumption|refine(AHeap.set_ne _ _ (by first|assumption|exact Ne.symm (by assumption))).trans ?_)))) k0q1 k3q0 ks text dbg (XH (Yf text)) rfl (by omega) ((AHeap.set_ne _ _ nkr.symm).trans (AHeap.set_same _ _ _)) hk0q1 (AHeap.set_same _ _ _) ⟨Sub.refl _,(fun _ _ e=>by cases e),(AHeap.set_ne _ _ nks.symm).trans hk3q0,trivial,trivial, .inl ⟨rfl,rfl,rfl⟩⟩
end Go.Proofs.YtlhhaagmakhilaaGreatDoor
namespace Go.Proofs.YtlhhaagmakhilaaGreatDoor
open Go.AM
open Go.Proofs
open Go.Col
open Go.Tok
open Go.RowKit (Below)
set_option maxRecDepth 100000
theorem cardT_nth{w0:World}{h:AHeap}{l:AM.Loc}{o n:Nat}{cp:Cap}{cs:List CardC}(hc:IsCards w0 h (.slice l o n cp) cs){i:Nat}(hi:i<cs.length):
 ∃mv,IsL w0 h 3 mv ((cs.getD i ⟨false,[],[]⟩).marks.map WP)/\rd w0 h l (o+i*3)= .bool (cs.getD i ⟨false,[],[]⟩).left/\rd w0 h l (o+i*3+1)= .str (cs.getD i ⟨false,[],[]⟩).text/\rd w0 h l (o+i*3+2)=mv:=by
 obtain⟨ps,rfl,h2,h3⟩:=hc;rw[List.length_map]at hi;have he:=h2.elem (i:=i) (by rw[List.length_map];exact hi);rw[getD_map (⟨false,[],[]⟩, .dead) hi]at he;have hg:(ps.map (·.1)).getD i ⟨false,[],[]⟩=(ps.getD i (⟨false,[],[]⟩, .dead)).1:=by
  simp[List.getD,hi]
 rw[hg];have hm:ps.getD i (⟨false,[],[]⟩, .dead)∈ps:=by rw[List.getD,List.getElem?_eq_getElem hi];exact List.getElem_mem hi
 simp only[qc,Za,List.cons.injEq,and_true]at he;exact⟨_,h3 _ hm,he.1,he.2.1,he.2.2⟩
theorem rd_subT{w0:World}{h h':AHeap}{l:AM.Loc}{o:Nat}{v:AVal}(hv:rd w0 h l o=v)(hl:v.live=true)(hs:Sub h h'):rd w0 h' l o=v:=by
 have:=cellsAt_mono (w0:=w0) (l:=l) hs 1 o (by simp only[qc,AM.allLive,hv,hl,Bool.and_true]);simp only[qc,List.cons.injEq,and_true]at this;rw[this,hv]
theorem IsCards.liveT{w0:World}{h:AHeap}{v:AVal}{cs:List CardC}(hc:IsCards w0 h v cs):v.live=true:=by
 obtain⟨ps,rfl,h2,h3⟩:=hc;exact h2.live
theorem IsCards.lenT{w0:World}{h:AHeap}{v:AVal}{cs:List CardC}(hc:IsCards w0 h v cs):∀H:AHeap,ZU Tryz.prog H 101 v=⟨True, .int .i64 cs.length⟩:=by
 obtain⟨ps,rfl,h2,h3⟩:=hc;have:=h2.len Tryz.underlying101;intro H;have:=this H;rw[List.length_map]at this|-
 exact this
theorem IsCards.openT{w0:World}{h:AHeap}{v:AVal}{cs:List CardC}(hc:IsCards w0 h v cs)(hn:0<cs.length):∃l o c,v= .slice l o cs.length c:=by
 obtain⟨ps,rfl,h2,h3⟩:=hc;obtain⟨l,o,c,e⟩:=h2.open (fun e=>by rw[List.map_eq_nil_iff]at e;subst e;simp at hn);rw[List.length_map]at e|-
 exact⟨l,o,c,e⟩
theorem scanGo_next{cs:List CardC}{i:Nat}(hi:i<cs.length)(l:List TokC):qbf (cs.drop i) l=if (qae (cs.getD i ⟨false,[],[]⟩) l).2≠okF then([],(qae (cs.getD i ⟨false,[],[]⟩) l).2)else qbf (cs.drop (i+1)) (qae (cs.getD i ⟨false,[],[]⟩) l).1:=by
 rw[List.drop_eq_getElem_cons hi,qbf];simp[List.getD,hi]
theorem Sub.bufBoth{h h':AHeap}{b:Option Buf}(hs:Sub h h'):Sub (QS h b) (QS h' b):=by
 cases b with
 |none=>exact hs
 |some b=>exact Sub.set_both hs _ _
def ScanR(h:AHeap)(R:List TokC×FaultC)(v:AVal)(h':AHeap):Prop:=∃tb,v= .tuple [ZJ (QO 5 tb),QN R.2]/\bufOk h 5 tb/\Uf tb=(R.1.map Xw).flatten/\h'=QS h tb
structure SnG where
 i:Nat
 l:List TokC
 tb:Option Buf
 lf:Bool
 s:Str
 mv:AVal
 at0:Nat
structure SnOk(kx:Nat)(B:AHeap)(cs:List CardC)(g:SnG):Prop where
 inv:ScInv kx B g.tb g.l
 i:g.i<=cs.length
 eq:qbf (cs.drop g.i) g.l=qdv cs
 len:g.l.length<=65536
theorem c_clipT(w0:World)(h:AHeap)(v:AVal)(xs:List (List AVal))(hv:IsL w0 h 5 v xs):ACall Tryz.prog w0 33 [v] h (fun r h'=>r=ZJ v/\h'=h):=by
 have hlen:=hv.len Tryz.underlying26;have h3:=hv.slice3 Tryz.underlying26 Xk .i64 .i64 none rfl;refine qR (n:=9) (rs:=[.tmp 2]) Tryz.func33 rfl rfl rfl rfl (Nat.le_of_ble_eq_true rfl) ?_;simp only[Qd];refine awp_rseq [0] (by rfl) fun K hK=>?_;simp+decide only[qa,ev,qJ,qG,putD,Slots.put,Slots.keep,if_true,if_false,true_and,↓qd,qb];apply hK;clear hK K;refine awp_rseq [2] (by rfl) fun K hK=>?_;simp+decide only[qa,ev,putD,Slots.put,Slots.get,Slots.keep,if_true,if_false,true_and,↓qj,qf,↓Xz,QK,↓WY,Zo,evO,↓qd,qb,hlen,h3];apply hK;clear hK K;refine qN ?_;refine qY _ (Sub.refl _) (Qb (Qe)) ?_;simp+decide only[Slots.get,if_true,and_true,Qw];all_goals first|rfl|exact⟨rfl,rfl⟩|(simp+decide only[if_true,if_false, *];done)|(trace_state;fail)
set_option maxHeartbeats 1000000 in
theorem c_Scan(w0:World)(h:AHeap)(v:AVal)(cs:List CardC)(hc:IsCards w0 h v cs)(hn:cs.length<=4611686018427387904)(hsm:∀c∈cs,c.text.length<=1099511627776/\c.marks.length<=4611686018427387904):
 ACall Tryz.prog w0 50 [v] h (ScanR h (qdv cs)):=by
 have hlv:=hc.liveT;have hln:=hc.lenT;refine qR (n:=27) (rs:=[.tmp 2, .cell 3 35]) Tryz.func50 rfl rfl rfl rfl (Nat.le_of_ble_eq_true rfl) ?_;simp only[Qd];refine awp_rseq [0,3] (by rfl) fun K hK=>?_;simp+decide only[ev,qJ,qG,putD,Slots.put,if_false,true_and,↓qd,qb];refine Qg qas (cs:=[.int .i64 0, .int .i64 0, .int .i64 0]) (by rfl) fun k0q1 hk0q1=>?_;try have hf_0q1:h k0q1=none:=by first|assumption|(simp only[AHeap.set_none]at hk0q1;simp only[hk0q1])
 simp+decide only[qa,putD,Slots.put,Slots.keep,if_true,if_false];apply hK;clear hK K;refine awp_rseq [0,3,4] (by rfl) fun K hK=>?_;refine Qg ze132 (cs:=[.bool false, .str [], .nilSlice, .int .i64 0, .nilSlice]) (by rfl) fun k1q0 hk1q0=>?_;have ne_1q0_0q1:k1q0≠k0q1:=by simp only[AHeap.set_none]at hk1q0;simp only[hk1q0,ne_eq,not_false_eq_true]
 try have hf_1q0:h k1q0=none:=by first|assumption|(simp only[AHeap.set_none]at hk1q0;simp only[hk1q0])
 simp+decide only[qa,putD,Slots.put,Slots.keep,if_true,if_false];obtain⟨B,hB⟩:∃B,B=h.set k0q1 ⟨[.int .i64 0, .int .i64 0, .int .i64 0],0⟩:=⟨_,rfl⟩
 have hBs:Sub h B:=by rw[hB];exact Sub.set hk0q1
 have hBk:B k0q1=some ⟨[.int .i64 0, .int .i64 0, .int .i64 0],0⟩:=by rw[hB];exact AHeap.set_same _ _ _
 rw[<-hB]at hk1q0|-
 apply hK;clear hK K;refine qO ?_;refine awp_rseq [3,4,8,9,10] (by rfl) fun K hK=>?_;simp+decide only[qa,ev,qJ,qG,putD,Slots.put,Slots.get,Slots.keep,if_true,if_false,true_and,↓qj,qf,↓Xz,QK,hln];apply hK;clear hK K;refine Qv ?_;refine XE [3,4,8,9,10] (fun g:SnG=>[(3, .ptr (.own k0q1) 0),(4, .ptr (.own k1q0) 0),(8,v),(9, .int .i64 cs.length),(10, .int .i64 g.i)]) (fun g:SnG=>scH k1q0 B g.tb g.lf g.s g.mv g.at0) (fun g:SnG=>SnOk k1q0 B cs g) (fun g:SnG=>cs.length-g.i) ⟨0,[],none,false,[], .nilSlice,0⟩ (by rfl) (Sub.refl _) ⟨⟨hk1q0,fun _=>trivial,rfl⟩,Nat.zero_le _,rfl,Nat.zero_le _⟩ ?_;rintro⟨i,l,tb,lf0,s0,mv0,at0⟩ ⟨i1,i2,i3,i4⟩;simp only at i1 i2 i3 i4|-
 have hSb:Sub h (scH k1q0 B tb lf0 s0 mv0 at0):=hBs.trans i1.above;refine awp_rseq [3,4,8,9,10,11] (by rfl) fun K hK=>?_;simp+decide only[qa,ev,putD,Slots.put,Slots.get,Slots.keep,if_true,if_false,true_and,↓qB,qm,qV,cond_false,qz,XZ];apply hK;clear hK K;refine qO (qK (b:=_) rfl (fun hb1=>?_) (fun hb1=>?_))
 ·try simp only[decide_eq_true_eq]at hb1
  have hi:i<cs.length:=by omega
  obtain⟨lc,o,cp,rfl⟩:=hc.openT (by omega);obtain⟨mv,e3,e0,e1,e2⟩:=cardT_nth hc hi;obtain⟨c,hcc⟩:∃c,c=cs.getD i ⟨false,[],[]⟩:=⟨_,rfl⟩
  have hnext:=scanGo_next hi l;rw[<-hcc]at e0 e1 e3 hnext;have hcs:=hsm c (by rw[hcc,List.getD,List.getElem?_eq_getElem hi];exact List.getElem_mem hi);have hmv:=e3.live;have hms:=e3.scal;have e0':=rd_subT e0 rfl hSb;have e1':=rd_subT e1 rfl hSb;have e2':=rd_subT e2 hmv hSb;rw[i3]at hnext;refine qW ?_;change Awp _ _ _ _ _ _ _;refine qO ?_;refine Qv ?_;refine awp_rseq [3,4,6,8,9,10] (by rfl) fun K hK=>?_;simp+decide only[ev,putD,Slots.put,Slots.get,if_true,if_false,true_and,↓Xg,Qa,Qk Tryz.underlying101 qbZ,↓qF,qg ag129 qbZ,qc,qC,qE,allLive,Bool.and_true,e0',e1',e2',Int.toNat_natCast,hmv];repeat (with_reducible refine And.intro ?_ ?_;· first|trivial|omega|(intro hg;simp only[Bool.and_eq_true,Bool.or_eq_true,Bool.not_eq_true',Bool.and_eq_false_iff,Bool.or_eq_false_iff,Bool.not_eq_false',decide_eq_true_eq,decide_eq_false_iff_not,Zd]at hg;omega))
  refine Qg ze129 (cs:=[.bool false, .str [], .nilSlice]) (by rfl) fun k4q2 hk4q2=>?_;try have hf_4q2:h k4q2=none:=by first|assumption|(simp only[AHeap.set_none]at hk4q2;simp only[hk4q2])
  refine qo (v:= .agg [.bool c.left, .str c.text,mv]) (by rfl) (by rfl) (AHeap.set_same _ _ _) qbZ (by rfl) (by rfl) (by simp[]) (Nat.zero_le _) (show(true && (true && (mv.scal && true)))=true by rw[hms];rfl) ?_;simp only[AHeap.set_set,setAt,AVal.cells,List.set_cons_zero,List.set_cons_succ,Nat.zero_add,Nat.reduceAdd];simp+decide only[qa,putD,Slots.put,Slots.keep,if_true,if_false];apply hK;clear hK K;obtain⟨a1,a2,a3,a4⟩:=i1.lay hk4q2 ⟨[.bool c.left, .str c.text,mv],0⟩;obtain⟨B2,hB2⟩:∃B2,B2=B.set k4q2 ⟨[.bool c.left, .str c.text,mv],0⟩:=⟨_,rfl⟩
  rw[<-hB2]at a1 a2;have hB2s:Sub B B2:=by rw[hB2];exact Sub.set a4
  have b2k:B2 k4q2=some ⟨[.bool c.left, .str c.text,mv],0⟩:=by rw[hB2];exact AHeap.set_same _ _ _
  have r5:=fun o=>Qr w0 (a2.other (lf:=lf0) (s:=s0) (mv:=mv0) (i:=at0) b2k) o;have hm2:IsL w0 B2 3 mv (c.marks.map WP):=e3.mono (hBs.trans hB2s);rw[a1];refine awp_rseq [3,4,8,9,10] (by rfl) fun K hK=>?_;simp+decide only[ev,putD,Slots.put,Slots.get,if_true,if_false,true_and,↓qF,Qa,qg ag129 qbZ,↓qA,ql,WI,qc,List.getD_cons_zero,List.getD_cons_succ,Nat.zero_add,Nat.reduceAdd,qC,qE,allLive,Bool.and_true,r5,hmv];refine qo (v:= .agg [.bool c.left, .str c.text,mv]) (by rfl) (by rfl) a2.at qbZ (by rfl) (by rfl) (by simp[]) (Nat.zero_le _) (show(true && (true && (mv.scal && true)))=true by rw[hms];rfl) ?_;simp only[setAt,AVal.cells,List.set_cons_zero,List.set_cons_succ,Nat.zero_add,Nat.reduceAdd];rw[a2.set];show QF _ _ _ _ _ (scH k1q0 B2 tb c.left c.text mv at0) _
  simp+decide only[ev,putD,Slots.put,Slots.get,if_true,if_false,true_and,↓qA,ql,YW,Nat.zero_add];refine qo (v:= .int .i64 0) (by rfl) (by rfl) a2.at sz3 (by rfl) (by rfl) (by simp) (Nat.zero_le _) (by rfl) ?_;simp only[setAt,AVal.cells,List.set_cons_zero,List.set_cons_succ];rw[a2.set];show QF _ _ _ _ _ (scH k1q0 B2 tb c.left c.text mv 0) _
  simp+decide only[qa,putD,Slots.keep,if_true,if_false];apply hK;clear hK K;refine awp_rseq [3,4,7,8,9,10] (by rfl) fun K hK=>?_;refine QH (by rfl) (by rfl) (c_card w0 k1q0 B2 tb c mv l a2 hm2 hcs.2 hcs.1 i4) fun x6q0 h6q0 hx6q0=>?_;obtain⟨hv6,hl6,tb',i',hh6,j1⟩:=hx6q0;obtain⟨f,hf⟩:∃f,f=(qae c l).2:=⟨_,rfl⟩
  obtain⟨H6,hH6⟩:∃H6,H6=scH k1q0 B2 tb' c.left c.text mv i':=⟨_,rfl⟩
  have hS6:Sub h H6:=by rw[hH6];exact(hBs.trans hB2s).trans j1.above
  have e06:H6 k0q1=some ⟨[.int .i64 0, .int .i64 0, .int .i64 0],0⟩:=by rw[hH6];exact j1.other (hB2s _ _ hBk)
  rw[<-hf]at hnext;rw[hv6,hh6,<-hH6,<-hf];refine Qg qas (cs:=[.int .i64 0, .int .i64 0, .int .i64 0]) (by rfl) fun k6q1 hk6q1=>?_;try have hf_6q1:h k6q1=none:=by first|assumption|(simp only[AHeap.set_none]at hk6q1;simp only[hk6q1])
  refine qo (by rfl) (by rfl) (by repeat (first|exact AHeap.set_same _ _ _|assumption|refine(AHeap.set_ne _ _ (by first|assumption|exact Ne.symm (by assumption))).trans ?_)) QA (by rfl) (by rfl) (by first|exact Nat.le_refl _|decide|(simp;done)|(simp;omega)) (Nat.zero_le _) (by rfl) ?_;simp only[AHeap.set_set,AVal.cells];simp+decide only[qa,ev,putD,Slots.put,Slots.get,Slots.keep,if_true,if_false,setAt,List.set_cons_zero,List.set_cons_succ,Nat.zero_add,Nat.reduceAdd,QN];apply hK;clear hK K;have hf6:=Sub.none hS6 hk6q1;have ne_6q1_0q1:k6q1≠k0q1:=AHeap.ne_some hk6q1 e06;refine awp_rseq [3,4,7,8,9,10,20] (by rfl) fun K hK=>?_;simp+decide only[qa,ev,qJ,qG,putD,Slots.put,Slots.get,Slots.keep,if_true,if_false,true_and,↓qF,Qa,qg Xf QA,↓Qn,↓qU,Zk,evP,List.map_nil,↓qB,qm,qV,cond_false,ZO,ne35,QV,qc,List.getD_cons_zero,List.getD_cons_succ,Nat.zero_add,Nat.reduceAdd,qh,allLive,Bool.and_true,Wh];apply hK;clear hK K;refine qK (b:=_) rfl (fun hb2=>?_) (fun hb2=>?_)
  ·try simp only[decide_eq_false_iff_not,Bool.not_eq_true']at hb2
   have hres:qdv cs=([],f):=by rw[hnext,if_pos hb2]
   refine XL 2 [2,3] mixed (by kernel_rfl) (by rfl) (by rfl) fun K hK=>?_;simp+decide only[ev,qJ,qG,putD,Slots.put,Slots.get,if_true,if_false,true_and,↓qF,Qa,qg Xf QA,↓qd,qb,QV,qc,List.getD_cons_zero,List.getD_cons_succ,Nat.zero_add,Nat.reduceAdd,qh,allLive,Bool.and_true];refine qo (by rfl) (by rfl) (by repeat (first|exact AHeap.set_same _ _ _|assumption|refine(AHeap.set_ne _ _ (by first|assumption|exact Ne.symm (by assumption))).trans ?_)) QA (by rfl) (by rfl) (by first|exact Nat.le_refl _|decide|(simp;done)|(simp;omega)) (Nat.zero_le _) (by rfl) ?_;simp only[AVal.cells];simp+decide only[qa,ev,putD,Slots.get,Slots.keep,if_true,if_false,setAt,List.set_cons_zero,List.set_cons_succ,Nat.zero_add,Nat.reduceAdd];apply hK;clear hK K;refine qN ?_;try simp only[Qf,Qp]
   refine qY h (by repeat (first|exact Sub.refl _|assumption|refine Sub.set_both ?_ _ _|refine Sub.trans_set ?_ (by repeat (first|assumption|refine(AHeap.set_ne _ _ (by first|assumption|exact Ne.symm (by assumption))).trans ?_)))) (?_) ?_
   ·simp+decide only[Qy,qp,qi,Slots.get,if_true,if_false,and_true,qp,qi,qg Xf QA,qZ,qc,List.getD_cons_zero,List.getD_cons_succ,Nat.zero_add,Nat.reduceAdd,qh,allLive,Bool.and_true,qc,List.getD_cons_zero,List.getD_cons_succ,Nat.zero_add,Nat.reduceAdd,qh,allLive,Bool.and_true]
   simp+decide only[Slots.get,if_true,if_false,QW,qp,qi,qg Xf QA,qZ,qc,List.getD_cons_zero,List.getD_cons_succ,Nat.zero_add,Nat.reduceAdd,qh,allLive,Bool.and_true,qc,List.getD_cons_zero,List.getD_cons_succ,Nat.zero_add,Nat.reduceAdd,qh,allLive,Bool.and_true];exact⟨none,by rw[hres];rfl,trivial,by rw[hres];rfl,rfl⟩
  ·try simp only[decide_eq_true_eq,Bool.not_eq_false']at hb2
   have hres:qdv cs=qbf (cs.drop (i+1)) (qae c l).1:=by rw[hnext,if_neg (by simpa using hb2)]
   refine qW ?_;change Awp _ _ _ _ _ _ _;refine XI [3,4,8,9,10] (by rfl) ?_;simp+decide only[qa,ev,qJ,qG,putD,Slots.put,Slots.get,Slots.keep,if_true,if_false,true_and,↓qB,qm,qD,cond_false,qz,Xa,↓qj,qf];try simp(disch:=omega)only[wrap_i64]
   try simp only[Qj]
   exact⟨⟨i+1,(qae c l).1,tb',c.left,c.text,mv,i'⟩,rfl,(scH_sub hB2s).trans (by rw[<-hH6];exact Sub.set hk6q1),⟨j1.down hB2s,hi,hres.symm,hl6⟩,by simp only;omega⟩
 ·try simp only[decide_eq_false_iff_not]at hb1
  have hres:qdv cs=(l,okF):=by rw[<-i3,List.drop_eq_nil_of_le (by omega)];rfl
  have rx10:=fun o=>Qr w0 (i1.at (lf:=lf0) (s:=s0) (mv:=mv0) (i:=at0)) o;have hbl:=Xj 5 tb;have r0:=fun o=>Qr w0 (i1.other (lf:=lf0) (s:=s0) (mv:=mv0) (i:=at0) hBk) o;refine XJ ?_;change Awp _ _ _ _ _ _ _;refine awp_rseq [2,3] (by rfl) fun K hK=>?_;simp+decide only[ev,putD,Slots.put,Slots.get,if_true,if_false,true_and,↓qA,ql,qcS,↓qF,Qa,qw UF,List.getD_cons_zero,List.getD_cons_succ,Nat.zero_add,rx10,hbl];refine qM (V:=ZJ (QO 5 tb)) (by rfl) (by rfl) (c_clipT w0 _ _ _ (i1.toks _)) ?_;simp+decide only[ev,qJ,qG,putD,Slots.put,Slots.get,if_true,if_false,true_and,↓Qn,↓qU,Zk,evP,List.map_nil,↓qd,qb];refine qo (v:= .agg [.int .i64 0, .int .i64 0, .int .i64 0]) (by rfl) (by rfl) (i1.other hBk) QA (by rfl) (by rfl) (by simp[]) (Nat.zero_le _) (by rfl) ?_;simp only[setAt,AVal.cells,List.set_cons_zero,List.set_cons_succ,Nat.zero_add,Nat.reduceAdd];rw[Yi (i1.other hBk)];simp+decide only[qa,putD,Slots.keep,if_true,if_false];apply hK;clear hK K;refine qN ?_;refine QM (?_) ?_
  ·simp+decide only[Qy,qp,qi,Slots.get,if_true,if_false,and_true,qp,qi,qg Xf QA,qc,List.getD_cons_zero,List.getD_cons_succ,Nat.zero_add,Nat.reduceAdd,qh,allLive,Bool.and_true,qc,List.getD_cons_zero,List.getD_cons_succ,Nat.zero_add,Nat.reduceAdd,qh,allLive,Bool.and_true,r0]
  simp+decide only[Slots.get,if_true,if_false,QW,qp,qi,qg Xf QA,qc,List.getD_cons_zero,List.getD_cons_succ,Nat.zero_add,Nat.reduceAdd,qh,allLive,Bool.and_true,qc,List.getD_cons_zero,List.getD_cons_succ,Nat.zero_add,Nat.reduceAdd,qh,allLive,Bool.and_true,r0];have hsx:Sub h (B.set k1q0 ⟨[.bool lf0, .str s0,mv0, .int .i64 at0,QO 5 tb],0⟩):=hBs.trans (Sub.set i1.hk);exact⟨QS h tb,Sub.bufBoth hsx,tb,by rw[hres];rfl,(i1.ok _).sub hsx,by rw[hres];exact i1.eq,rfl⟩
end Go.Proofs.YtlhhaagmakhilaaGreatDoor
namespace Go.Proofs.YtlhhaagmakhilaaGreatDoor
open Go.AM
open Go.Proofs
open Go.Col
open Go.Tok
open Go.RowKit (Below)
set_option maxRecDepth 100000
theorem qcE(dbg:Bool):∀(ls:List Str) (n:Int) (x:Rd) (N:Nat),RdSm N x->RdSm (N+ls.length) (YU dbg ls n x).1
 |[],_,x,N,h=>h
 |s::ls,n,x,N,h=>by
  have hl:=(lineE_small (s:=s) (line:=n) (dbg:=dbg)).1;have e:N+(s::ls).length=(N+1)+ls.length:=by rw[List.length_cons];omega
  have up:∀k {y:Rd},RdSm (N+1) y->RdSm (N+1+k) y:=fun k y hy=>by
   induction k with
   |zero=>exact hy
   |succ k ih=>exact ih.next
  rw[YU];cases hp:WS s n dbg with
  |mk r q=>
   obtain⟨cn,f⟩:=q;rw[hp]at hl;simp only;split
   ·rw[e];exact qcE dbg ls _ x (N+1) h.next
   ·split
    ·split
     ·rw[e];exact qcE dbg ls _ _ (N+1) (qdo h (by have:r.text.length<=65:=hl;omega))
     ·rw[e];exact up _ (qdo h (by have:r.text.length<=65:=hl;omega))
    ·rw[e];exact up _ h.next
theorem readE_smallT(text:Str)(dbg:Bool):(Uk text dbg).1.length<=1048577/\∀c∈(Uk text dbg).1,c.text.length<=83886160/\c.marks.length<=1048577:=by
 have h:=qcE dbg (XH (Yf text)) 1 .start 0 ⟨Nat.zero_le _,fun c hc=>by cases hc⟩;have h1:=qdr (Yf text);have h2:=qcw text;unfold Uk;split
 ·exact⟨Nat.zero_le _,fun c hc=>by cases hc⟩
 ·simp only
  split
  ·exact⟨Nat.zero_le _,fun c hc=>by cases hc⟩
  ·split
   ·exact⟨Nat.zero_le _,fun c hc=>by cases hc⟩
   ·exact⟨by have:=h.many;simp only;omega,fun c hc=>by have:=h.small c hc;omega⟩
theorem source_small(text:Str)(dbg:Bool):(sourceE text dbg).1.length<=65536/\∀t∈(sourceE text dbg).1,t.text.length<=83886162:=by
 obtain⟨z1,z2⟩:=readE_smallT text dbg;unfold sourceE;split
 ·exact⟨Nat.zero_le _,fun t ht=>by cases ht⟩
 ·refine⟨scanGo_many _ _ (Nat.zero_le _),scanGo_inv _ _ (fun c hc j l hv hj h32 he=>?_) _ (fun t ht=>by cases ht)⟩
  have:=(z2 c hc).1;have:=next_text c.text j l hj;show(Wl c.text j l).text.length<=_
  omega
theorem c_Source(w0:World)(hm:MaxL w0)(h:AHeap)(text:Str)(dbg:Bool)(hl:text.length<=9223372036854775807):ACall Tryz.prog w0 42 [.str text, .bool dbg] h (ScanR h (sourceE text dbg)):=by
 obtain⟨z1,z2⟩:=readE_smallT text dbg;refine qR (n:=22) (rs:=[.tmp 4, .cell 5 35]) Tryz.func42 rfl rfl rfl rfl (Nat.le_of_ble_eq_true rfl) ?_;simp only[Qd];refine awp_rseq [0,1,5] (by rfl) fun K hK=>?_;simp+decide only[ev,qJ,qG,putD,Slots.put,if_false,true_and,↓qd,qb,Nat.zero_add];refine Qg qas (cs:=[.int .i64 0, .int .i64 0, .int .i64 0]) (by rfl) fun k0q1 hk0q1=>?_;try have hf_0q1:h k0q1=none:=by first|assumption|(simp only[AHeap.set_none]at hk0q1;simp only[hk0q1])
 simp+decide only[qa,putD,Slots.put,Slots.keep,if_true,if_false];apply hK;clear hK K;refine awp_rseq [5,6,7] (by rfl) fun K hK=>?_;simp+decide only[ev,putD,Slots.put,Slots.get,if_true,if_false,true_and,↓qj,qf];refine QH (by rfl) (by rfl) (c_Read w0 hm _ text dbg hl) fun x1q2 h1q2 hx1q2=>?_;obtain⟨cv,rfl,hc,hs1⟩:=hx1q2;have hlv:=hc.liveT;obtain⟨cs,hcs⟩:∃cs,cs=(Uk text dbg).1:=⟨_,rfl⟩
 obtain⟨f,hf⟩:∃f,f=(Uk text dbg).2:=⟨_,rfl⟩
 have hso:sourceE text dbg=if f≠okF then([],f)else qdv cs:=by rw[hf,hcs];rfl
 rw[<-hcs]at hc z1 z2;rw[<-hf];have hs_h1q2:Sub h h1q2:=Sub.trans (by repeat (first|exact Sub.refl _|assumption|refine Sub.trans_set ?_ (by assumption))) hs1;have hr_h1q2:=hs_h1q2;have eb_0q1:=hs1 k0q1 _ (by repeat (first|exact AHeap.set_same _ _ _|assumption|refine(AHeap.set_ne _ _ (by first|assumption|exact Ne.symm (by assumption))).trans ?_));simp+decide only[ev,putD,Slots.put,Slots.get,if_true,if_false,true_and,↓qj,qf,↓QJ,QC,QG,List.length_cons,List.length_nil,List.getD_cons_zero,List.getD_cons_succ,List.getD_cons_zero,List.getD_cons_succ,Nat.zero_add,Nat.reduceAdd,QN];refine Qg qas (cs:=[.int .i64 0, .int .i64 0, .int .i64 0]) (by rfl) fun k1q6 hk1q6=>?_;have hn_1q6:h1q2 k1q6=none:=by first|assumption|(simp only[AHeap.set_none]at hk1q6;simp only[hk1q6])
 have hf_1q6:h k1q6=none:=Sub.none hs_h1q2 hn_1q6;have ne_1q6_0q1:k1q6≠k0q1:=AHeap.ne_some hn_1q6 eb_0q1;simp+decide only[ev,putD,Slots.put,Slots.get,if_true,if_false,true_and,↓qd,qb];refine qo (by rfl) (by rfl) (by repeat (first|exact AHeap.set_same _ _ _|assumption|refine(AHeap.set_ne _ _ (by first|assumption|exact Ne.symm (by assumption))).trans ?_)) QA (by rfl) (by rfl) (by first|exact Nat.le_refl _|decide|(simp;done)|(simp;omega)) (Nat.zero_le _) (by rfl) ?_;simp only[AHeap.set_set,AVal.cells];simp+decide only[qa,ev,putD,Slots.get,Slots.keep,if_true,if_false,setAt,List.set_cons_zero,List.set_cons_succ,Nat.zero_add,Nat.reduceAdd];apply hK;clear hK K;refine qO ?_;refine awp_rseq [5,6,7,16] (by rfl) fun K hK=>?_;simp+decide only[qa,ev,qJ,qG,putD,Slots.put,Slots.get,Slots.keep,if_true,if_false,true_and,↓qF,Qa,qg Xf QA,↓Qn,↓qU,Zk,evP,List.map_nil,↓qB,qm,qV,cond_false,ZO,ne35,QV,qc,List.getD_cons_zero,List.getD_cons_succ,Nat.zero_add,Nat.reduceAdd,qh,allLive,Bool.and_true,Wh];apply hK;clear hK K;refine qK (b:=_) rfl (fun hb1=>?_) (fun hb1=>?_)
 ·try simp only[decide_eq_false_iff_not,Bool.not_eq_true']at hb1
  rw[if_pos hb1]at hso;refine XL 2 [4,5] mixed (by kernel_rfl) (by rfl) (by rfl) fun K hK=>?_;simp+decide only[ev,qJ,qG,putD,Slots.put,Slots.get,if_true,if_false,true_and,↓qF,Qa,qg Xf QA,↓qd,qb,QV,qc,List.getD_cons_zero,List.getD_cons_succ,Nat.zero_add,Nat.reduceAdd,qh,allLive,Bool.and_true];refine qo (by rfl) (by rfl) (by repeat (first|exact AHeap.set_same _ _ _|assumption|refine(AHeap.set_ne _ _ (by first|assumption|exact Ne.symm (by assumption))).trans ?_)) QA (by rfl) (by rfl) (by first|exact Nat.le_refl _|decide|(simp;done)|(simp;omega)) (Nat.zero_le _) (by rfl) ?_;simp only[AVal.cells];simp+decide only[qa,ev,putD,Slots.get,Slots.keep,if_true,if_false,setAt,List.set_cons_zero,List.set_cons_succ,Nat.zero_add,Nat.reduceAdd];apply hK;clear hK K;refine qN ?_;try simp only[Qf]
  refine qY h (by repeat (first|exact Sub.refl _|assumption|refine Sub.set_both ?_ _ _|refine Sub.trans_set ?_ (by repeat (first|assumption|refine(AHeap.set_ne _ _ (by first|assumption|exact Ne.symm (by assumption))).trans ?_)))) (?_) ?_
  ·simp+decide only[Qy,qp,qi,Slots.get,if_true,if_false,and_true,qp,qi,qg Xf QA,qZ,qc,List.getD_cons_zero,List.getD_cons_succ,Nat.zero_add,Nat.reduceAdd,qh,allLive,Bool.and_true,qc,List.getD_cons_zero,List.getD_cons_succ,Nat.zero_add,Nat.reduceAdd,qh,allLive,Bool.and_true]
  simp+decide only[Slots.get,if_true,if_false,QW,qp,qi,qg Xf QA,qZ,qc,List.getD_cons_zero,List.getD_cons_succ,Nat.zero_add,Nat.reduceAdd,qh,allLive,Bool.and_true,qc,List.getD_cons_zero,List.getD_cons_succ,Nat.zero_add,Nat.reduceAdd,qh,allLive,Bool.and_true];exact⟨none,by rw[hso];rfl,trivial,by rw[hso];rfl,rfl⟩
 ·try simp only[decide_eq_true_eq,Bool.not_eq_false']at hb1
  rw[if_neg (by simpa using hb1)]at hso;refine qW ?_;change Awp _ _ _ _ _ _ _;refine awp_rseq [4,5] (by rfl) fun K hK=>?_;simp+decide only[ev,putD,Slots.put,Slots.get,if_true,if_false,true_and,↓qj,qf];refine QH (by rfl) (by rfl) (c_Scan w0 _ cv cs (hc.mono (by repeat (first|exact Sub.refl _|assumption|refine Sub.set_both ?_ _ _|refine Sub.trans_set ?_ (by repeat (first|assumption|refine(AHeap.set_ne _ _ (by first|assumption|exact Ne.symm (by assumption))).trans ?_))))) (by omega) (fun c hcm=>by have:=z2 c hcm;omega)) fun x4q1 h4q1 hx4q1=>?_;obtain⟨tb,rfl,o1,o2,rfl⟩:=hx4q1;have hat:=((by repeat (first|exact AHeap.set_same _ _ _|assumption|refine(AHeap.set_ne _ _ (by first|assumption|exact Ne.symm (by assumption))).trans ?_)):(h1q2.set k1q6 ⟨[.int .i64 f.e, .int .i64 f.line, .int .i64 f.col],0⟩) k0q1=some ⟨[.int .i64 0, .int .i64 0, .int .i64 0],0⟩)
  have hlb:=Xj 5 tb;simp+decide only[ev,putD,Slots.put,Slots.get,if_true,if_false,true_and,↓QJ,QC,QG,List.length_cons,List.length_nil,List.getD_cons_zero,List.getD_cons_succ,↓qd,qb,List.getD_cons_zero,List.getD_cons_succ,Nat.zero_add,Nat.reduceAdd,QN];refine qo (v:=QN (qdv cs).2) (by rfl) (by rfl) (ZL o1 hat) QA (by rfl) (by rfl) (by simp[]) (Nat.zero_le _) (by rfl) ?_;simp only[setAt,AVal.cells,QN,List.set_cons_zero,List.set_cons_succ,Nat.zero_add,Nat.reduceAdd];rw[YS o1 hat];have r0:=fun o=>Qr w0 (ZL (ZG o1 hat ⟨[.int .i64 (qdv cs).2.e, .int .i64 (qdv cs).2.line, .int .i64 (qdv cs).2.col],0⟩) (AHeap.set_same _ _ _)) o;simp+decide only[qa,putD,Slots.keep,if_true,if_false];apply hK;clear hK K;refine qN ?_;refine QM (?_) ?_
  ·simp+decide only[Qy,qp,qi,Slots.get,if_true,if_false,and_true,qp,qi,qg Xf QA,qc,List.getD_cons_zero,List.getD_cons_succ,Nat.zero_add,Nat.reduceAdd,qh,allLive,Bool.and_true,qc,List.getD_cons_zero,List.getD_cons_succ,Nat.zero_add,Nat.reduceAdd,qh,allLive,Bool.and_true,r0]
  simp+decide only[Slots.get,if_true,if_false,QW,qp,qi,qg Xf QA,qc,List.getD_cons_zero,List.getD_cons_succ,Nat.zero_add,Nat.reduceAdd,qh,allLive,Bool.and_true,qc,List.getD_cons_zero,List.getD_cons_succ,Nat.zero_add,Nat.reduceAdd,qh,allLive,Bool.and_true,r0];refine⟨QS h tb,?_,tb,by rw[hso];rfl,o1.sub (by repeat (first|exact Sub.refl _|assumption|refine Sub.set_both ?_ _ _|refine Sub.trans_set ?_ (by repeat (first|assumption|refine(AHeap.set_ne _ _ (by first|assumption|exact Ne.symm (by assumption))).trans ?_)))),by rw[hso];exact o2,rfl⟩;exact Sub.bufBoth (by repeat (first|exact Sub.refl _|assumption|refine Sub.set_both ?_ _ _|refine Sub.trans_set ?_ (by repeat (first|assumption|refine(AHeap.set_ne _ _ (by first|assumption|exact Ne.symm (by assumption))).trans ?_))))
end Go.Proofs.YtlhhaagmakhilaaGreatDoor
namespace Go.Proofs.YtlhhaagmakhilaaGreatDoor
open Go.AM
open Go.Proofs
open Go.Col
open Go.Tok
open Go.RowKit (Below)
set_option maxRecDepth 100000
theorem qbd{w0:World}{h:AHeap}{lc:AM.Loc}{o:Nat}{c:Cap}{l:List TokC}(ht:IsL w0 h 5 (.slice lc o l.length c) (l.map Xw)){i:Nat}(hi:i<l.length):
 rd w0 h lc (o+i*5)= .int .u8 (l.getD i Uh).kind.toNat/\rd w0 h lc (o+i*5+1)= .str (l.getD i Uh).text/\rd w0 h lc (o+i*5+2)= .int .i64 (l.getD i Uh).line/\rd w0 h lc (o+i*5+3)= .int .i64 (l.getD i Uh).col/\rd w0 h lc (o+i*5+4)= .bool (l.getD i Uh).left:=by
 have he:=ht.elem (i:=i) (by rw[List.length_map];exact hi);rw[getD_map Uh hi]at he;simp only[qc,Xw,List.cons.injEq,and_true]at he;exact he
theorem UI{w0:World}{h:AHeap}{v:AVal}{l:List TokC}(ht:IsL w0 h 5 v (l.map Xw))(hn:0<l.length):∃lc o c,v= .slice lc o l.length c:=by
 obtain⟨lc,o,c,e⟩:=ht.open (fun e=>by rw[List.map_eq_nil_iff]at e;subst e;simp at hn);rw[List.length_map]at e;exact⟨lc,o,c,e⟩
theorem Zy{w0:World}{h:AHeap}{v:AVal}{l:List TokC}(ht:IsL w0 h 5 v (l.map Xw)):∀H:AHeap,ZU Tryz.prog H 26 v=⟨True, .int .i64 l.length⟩:=by
 intro H;have:=ht.len Tryz.underlying26 H
 rwa [List.length_map]at this
end Go.Proofs.YtlhhaagmakhilaaGreatDoor
namespace Go.Proofs.YtlhhaagmakhilaaGreatDoor
open Go.AM
open Go.Proofs
open Go.Col
open Go.Tok
open Go.RowKit (Below)
set_option maxRecDepth 100000
def sameT(a b:TokC):Bool:=decide (a.kind=b.kind) && decide (a.text=b.text)
def qbg:List TokC->List TokC->Bool
 |[],[]=>true
 |a::l,b::m=>sameT a b && qbg l m
 |_,_=>false
theorem sameE_len:∀{l m:List TokC},l.length≠m.length->qbg l m=false
 |[],[],h=>absurd rfl h
 |[],_::_,_=>rfl
 |_::_,[],_=>rfl
 |a::l,b::m,h=>by
  rw[qbg,sameE_len (l:=l) (m:=m) (fun e=>h (by simp[e])),Bool.and_false]
theorem sameE_step{l m:List TokC}{i:Nat}(h1:i<l.length)(h2:i<m.length):qbg (l.drop i) (m.drop i)=(sameT (l.getD i Uh) (m.getD i Uh) && qbg (l.drop (i+1)) (m.drop (i+1))):=by
 rw[List.drop_eq_getElem_cons h1,List.drop_eq_getElem_cons h2,qbg];simp[List.getD,h1,h2]
theorem c_same1(w0:World)(h:AHeap)(a b:TokC):ACall Tryz.prog w0 41 [.agg (Xw a), .agg (Xw b)] h (fun v h'=>v= .bool (sameT a b)/\h'=h):=by
 unfold Xw;have ek:decide ((a.kind.toNat:Int)=b.kind.toNat)=decide (a.kind=b.kind):=decide_eq_decide.2 ⟨fun q=>UInt8.toNat_inj.1 (by omega),fun q=>by rw[q]⟩;refine qR (n:=17) (rs:=[.tmp 4]) Tryz.func41 rfl rfl rfl rfl (Nat.le_of_ble_eq_true rfl) ?_;simp only[Qd];refine awp_rseq [2,3] (by rfl) fun K hK=>?_;refine Wi (by rfl) (by rfl) (by rfl) fun k0q0 hk0q0=>?_;try have hf_0q0:h k0q0=none:=by first|assumption|(simp only[AHeap.set_none]at hk0q0;simp only[hk0q0])
 skip;refine Wi (by rfl) (by rfl) (by rfl) fun k0q1 hk0q1=>?_;have ne_0q1_0q0:k0q1≠k0q0:=by simp only[AHeap.set_none]at hk0q1;simp only[hk0q1,ne_eq,not_false_eq_true]
 try have hf_0q1:h k0q1=none:=by first|assumption|(simp only[AHeap.set_none]at hk0q1;simp only[hk0q1])
 skip;simp+decide only[qa,ev,qJ,qG,putD,Slots.put,Slots.get,Slots.keep,if_true,if_false,true_and,↓qd,qb,AVal.cells,Nat.zero_add];apply hK;clear hK K;refine awp_rseq [4] (by rfl) fun K hK=>?_;simp+decide only[qa,ev,qJ,qG,putD,Slots.put,Slots.get,Slots.keep,if_true,if_false,true_and,↓qA,ql,fa54_0,↓qF,Qa,qw ag52,↓qB,qm,qV,cond_false,qz,XB,↓qj,qf,↓Xt,agP,Qu,qI,qH,qy,implies_true,UD,↓Zi,XO,WF,agL_ld1,qw ag9,↓Xd,XW,qaR,Zb,qaS,XN,pS_eql,↓QP,Qt,Qh,Xm,Xl,↓qd,qb,QU,ne_eq,not_false_eq_true,ne_0q1_0q0.symm,QV,List.getD_cons_zero,List.getD_cons_succ,Nat.zero_add,qh,qE,ek];apply hK;clear hK K;refine qN ?_;refine qY h (by repeat (first|exact Sub.refl _|assumption|refine Sub.trans_set ?_ (by assumption))) (Qb (Qe)) ?_;simp+decide only[Slots.get,if_true,and_true,Qw];rfl
theorem c_equalFunc(w0:World)(h:AHeap)(v w:AVal)(l m:List TokC)(hv:IsL w0 h 5 v (l.map Xw))(hw:IsL w0 h 5 w (m.map Xw))(hl:l.length<=1099511627776):
 ACall Tryz.prog w0 40 [v,w, .func 41 []] h (fun r h'=>r= .bool (qbg l m)/\h'=h):=by
 have hlv:=hv.live;have hlw:=hw.live;have nv:=Zy hv;have nw:=Zy hw;refine qR (n:=32) (rs:=[.tmp 6]) Tryz.func40 rfl rfl rfl rfl (Nat.le_of_ble_eq_true rfl) ?_;simp only[Qd];refine awp_rseq [0,1,2] (by rfl) fun K hK=>?_;simp+decide only[qa,ev,qJ,qG,putD,Slots.put,Slots.keep,if_true,if_false,true_and,↓qd,qb,Nat.zero_add,Nat.reduceAdd];apply hK;clear hK K;refine qO ?_;refine awp_rseq [0,1,2,14] (by rfl) fun K hK=>?_;simp+decide only[qa,ev,putD,Slots.put,Slots.get,Slots.keep,if_true,if_false,true_and,↓qj,qf,↓Xz,QK,↓qB,qm,qV,cond_false,qz,qaB,nv,nw];apply hK;clear hK K;refine qK (b:=_) rfl (fun hb1=>?_) (fun hb1=>?_)
 ·try simp only[decide_eq_false_iff_not,Bool.not_eq_true']at hb1
  refine awp_rseq [6] (by rfl) fun K hK=>?_;simp+decide only[qa,ev,qJ,qG,putD,Slots.put,Slots.keep,if_true,if_false,true_and,↓qd,qb];apply hK;clear hK K;refine qN ?_;try simp only[Qf]
  refine qY h (by repeat (first|exact Sub.refl _|assumption|refine Sub.trans_set ?_ (by assumption))) (Qb (Qe)) ?_;simp+decide only[Slots.get,if_true,and_true,Qw];rw[sameE_len (by omega)]
 ·try simp only[decide_eq_true_eq,Bool.not_eq_false']at hb1
  have hlen:l.length=m.length:=by omega
  refine qW ?_;change Awp _ _ _ _ _ _ _;refine qO ?_;refine awp_rseq [1,2,15,16,17] (by rfl) fun K hK=>?_;simp+decide only[qa,ev,qJ,qG,putD,Slots.put,Slots.get,Slots.keep,if_true,if_false,true_and,↓qj,qf,↓Xz,QK,nv];apply hK;clear hK K;refine Qv ?_;refine XE [1,2,15,16,17] (fun i:Nat=>[(1,w),(2, .func 41 []),(15,v),(16, .int .i64 l.length),(17, .int .i64 i)]) (fun i:Nat=>h) (fun i:Nat=>i<=l.length/\qbg (l.drop i) (m.drop i)=qbg l m) (fun i:Nat=>l.length-i) 0 (by rfl) (Sub.refl _) ⟨Nat.zero_le _,rfl⟩ ?_;rintro i ⟨hi,hq⟩;refine awp_rseq [1,2,15,16,17,18] (by rfl) fun K hK=>?_;simp+decide only[qa,ev,putD,Slots.put,Slots.get,Slots.keep,if_true,if_false,true_and,↓qB,qm,qV,cond_false,qz,XZ];apply hK;clear hK K;refine qO (qK (b:=_) rfl (fun hb2=>?_) (fun hb2=>?_))
  ·try simp only[decide_eq_true_eq]at hb2
   have hi':i<l.length:=by omega
   obtain⟨lc,o,c,rfl⟩:=UI hv (by omega);obtain⟨lc',o',c',rfl⟩:=UI hw (by omega);obtain⟨e0,e1,e2,e3,e4⟩:=qbd hv hi';obtain⟨a,ha⟩:∃a,a=l.getD i Uh:=⟨_,rfl⟩
   obtain⟨b,hb⟩:∃b,b=m.getD i Uh:=⟨_,rfl⟩
   have hst:=sameE_step (l:=l) (m:=m) hi' (by omega);rw[hq]at hst;rw[<-ha]at e0 e1 e2 e3 e4 hst;rw[<-hb]at hst;have e2':rd w0 h lc (o+i*5+1+1)= .int .i64 a.line:=e2;have e3':rd w0 h lc (o+i*5+1+1+1)= .int .i64 a.col:=e3;have e4':rd w0 h lc (o+i*5+1+1+1+1)= .bool a.left:=e4;refine qW ?_;change Awp _ _ _ _ _ _ _;refine qO ?_;refine Qv ?_;refine awp_rseq [1,2,7,8,15,16,17] (by rfl) fun K hK=>?_;simp+decide only[ev,putD,Slots.put,Slots.get,if_true,if_false,true_and,↓qj,qf,↓Xg,Qa,Qk Tryz.underlying26 Xk,↓qF,qg Zw Xk,qc,qC,qh,qE,allLive,Bool.and_true,e0,e1,e2',e3',e4',Int.toNat_natCast];repeat (with_reducible refine And.intro ?_ ?_;· first|trivial|omega|(intro hg;simp only[Bool.and_eq_true,Bool.or_eq_true,Bool.not_eq_true',Bool.and_eq_false_iff,Bool.or_eq_false_iff,Bool.not_eq_false',decide_eq_true_eq,decide_eq_false_iff_not,Zd]at hg;omega))
   refine Qg qbV (cs:=[.int .u8 0, .str [], .int .i64 0, .int .i64 0, .bool false]) (by rfl) fun k5q3 hk5q3=>?_;try have hf_5q3:h k5q3=none:=by first|assumption|(simp only[AHeap.set_none]at hk5q3;simp only[hk5q3])
   simp+decide only[ev,putD,Slots.put,Slots.get,if_true,if_false,true_and,↓qd,qb];refine qo (by rfl) (by rfl) (by repeat (first|exact AHeap.set_same _ _ _|assumption|refine(AHeap.set_ne _ _ (by first|assumption|exact Ne.symm (by assumption))).trans ?_)) Xk (by rfl) (by rfl) (by first|exact Nat.le_refl _|decide|(simp;done)|(simp;omega)) (Nat.zero_le _) (by rfl) ?_;simp only[AHeap.set_set,AVal.cells];simp+decide only[qa,ev,putD,Slots.get,Slots.keep,if_true,if_false,setAt,List.set_cons_zero,List.set_cons_succ,Nat.zero_add,Nat.reduceAdd];apply hK;clear hK K;obtain⟨H,hH⟩:∃H,H=h.set k5q3 ⟨[.int .u8 a.kind.toNat, .str a.text, .int .i64 a.line, .int .i64 a.col, .bool a.left],0⟩:=⟨_,rfl⟩
   have hsH:Sub h H:=by rw[hH];exact Sub.set hk5q3
   obtain⟨d0,d1,d2,d3,d4⟩:=qbd (hw.mono hsH) (i:=i) (by omega);rw[<-hb]at d0 d1 d2 d3 d4;have d2':rd w0 H lc' (o'+i*5+1+1)= .int .i64 b.line:=d2;have d3':rd w0 H lc' (o'+i*5+1+1+1)= .int .i64 b.col:=d3;have d4':rd w0 H lc' (o'+i*5+1+1+1+1)= .bool b.left:=d4;rw[hH]at d0 d1 d2' d3' d4';refine awp_rseq [1,2,8,9,15,16,17] (by rfl) fun K hK=>?_;simp+decide only[ev,putD,Slots.put,Slots.get,if_true,if_false,true_and,↓qj,qf,↓Xg,Qa,Qk Tryz.underlying26 Xk,↓qF,qg Zw Xk,qc,qC,qh,qE,allLive,Bool.and_true,d0,d1,d2',d3',d4',Int.toNat_natCast];repeat (with_reducible refine And.intro ?_ ?_;· first|trivial|omega|(intro hg;simp only[Bool.and_eq_true,Bool.or_eq_true,Bool.not_eq_true',Bool.and_eq_false_iff,Bool.or_eq_false_iff,Bool.not_eq_false',decide_eq_true_eq,decide_eq_false_iff_not,Zd]at hg;omega))
   refine Qg qbV (cs:=[.int .u8 0, .str [], .int .i64 0, .int .i64 0, .bool false]) (by rfl) fun k6q4 hk6q4=>?_;have ne_6q4_5q3:k6q4≠k5q3:=by simp only[AHeap.set_none]at hk6q4;simp only[hk6q4,ne_eq,not_false_eq_true]
   try have hf_6q4:h k6q4=none:=by first|assumption|(simp only[AHeap.set_none]at hk6q4;simp only[hk6q4])
   refine qo (by rfl) (by rfl) (by repeat (first|exact AHeap.set_same _ _ _|assumption|refine(AHeap.set_ne _ _ (by first|assumption|exact Ne.symm (by assumption))).trans ?_)) Xk (by rfl) (by rfl) (by first|exact Nat.le_refl _|decide|(simp;done)|(simp;omega)) (Nat.zero_le _) (by rfl) ?_;simp only[AHeap.set_set,AVal.cells];simp+decide only[qa,ev,putD,Slots.put,Slots.get,Slots.keep,if_true,if_false,setAt,List.set_cons_zero,List.set_cons_succ,Nat.zero_add,Nat.reduceAdd];apply hK;clear hK K;refine awp_rseq [1,2,15,16,17,30] (by rfl) fun K hK=>?_;simp+decide only[ev,putD,Slots.put,Slots.get,if_true,if_false,true_and,↓qj,qf,↓qF,Qa,qg Zw Xk,QU,ne_eq,not_false_eq_true,ne_6q4_5q3.symm,QV,qc,List.getD_cons_zero,List.getD_cons_succ,Nat.zero_add,Nat.reduceAdd,qC,qh,qE,allLive,Bool.and_true];refine qM (V:= .bool (sameT a b)) (by rfl) (by rfl) (c_same1 w0 _ a b) ?_;simp+decide only[qa,ev,putD,Slots.put,Slots.get,Slots.keep,if_true,if_false,true_and,↓ZY,XG,ZN];apply hK;clear hK K;refine qK (b:=_) rfl (fun hb3=>?_) (fun hb3=>?_)
   ·try simp only[Bool.not_eq_true']at hb3
    refine awp_rseq [6] (by rfl) fun K hK=>?_;simp+decide only[qa,ev,qJ,qG,putD,Slots.put,Slots.keep,if_true,if_false,true_and,↓qd,qb];apply hK;clear hK K;refine qN ?_;try simp only[Qf,Qp]
    refine qY h (by repeat (first|exact Sub.refl _|assumption|refine Sub.trans_set ?_ (by assumption))) (Qb (Qe)) ?_;simp+decide only[Slots.get,if_true,and_true,Qw];rw[hst,hb3,Bool.false_and]
   ·try simp only[Bool.not_eq_false']at hb3
    refine qW ?_;change Awp _ _ _ _ _ _ _;refine XI [1,2,15,16,17] (by rfl) ?_;simp+decide only[qa,ev,qJ,qG,putD,Slots.put,Slots.get,Slots.keep,if_true,if_false,true_and,↓qB,qm,qD,cond_false,qz,Xa,↓qj,qf];try simp(disch:=omega)only[wrap_i64]
    try simp only[Qj]
    exact⟨i+1,rfl,(by repeat (first|exact Sub.refl _|assumption|refine Sub.set_both ?_ _ _|refine Sub.trans_set ?_ (by repeat (first|assumption|refine(AHeap.set_ne _ _ (by first|assumption|exact Ne.symm (by assumption))).trans ?_)))),⟨hi',by rw[hst,hb3,Bool.true_and]⟩,by omega⟩
  ·try simp only[decide_eq_false_iff_not]at hb2
   refine XJ ?_;change Awp _ _ _ _ _ _ _;refine awp_rseq [6] (by rfl) fun K hK=>?_;simp+decide only[qa,ev,qJ,qG,putD,Slots.put,Slots.keep,if_true,if_false,true_and,↓qd,qb];apply hK;clear hK K;refine qN ?_;refine qY h (by repeat (first|exact Sub.refl _|assumption|refine Sub.trans_set ?_ (by assumption))) (Qb (Qe)) ?_;simp+decide only[Slots.get,if_true,and_true,Qw];rw[<-hq,List.drop_eq_nil_of_le (by omega),List.drop_eq_nil_of_le (by omega)];rfl
theorem c_Same(w0:World)(h:AHeap)(v w:AVal)(l m:List TokC)(hv:IsL w0 h 5 v (l.map Xw))(hw:IsL w0 h 5 w (m.map Xw))(hl:l.length<=1099511627776):
 ACall Tryz.prog w0 18 [v,w] h (fun r h'=>r= .bool (qbg l m)/\h'=h):=by
 have hlv:=hv.live;have hlw:=hw.live;refine qR (n:=8) (rs:=[.tmp 4]) Tryz.func18 rfl rfl rfl rfl (Nat.le_of_ble_eq_true rfl) ?_;simp only[Qd];refine awp_rseq [0,1] (by rfl) fun K hK=>?_;simp+decide only[qa,ev,qJ,qG,putD,Slots.put,Slots.keep,if_true,if_false,true_and,↓qd,qb];apply hK;clear hK K;refine awp_rseq [4] (by rfl) fun K hK=>?_;simp+decide only[ev,putD,Slots.put,Slots.get,if_true,if_false,true_and,↓qj,qf];refine qM (V:= .bool (qbg l m)) (by rfl) (by rfl) (c_equalFunc w0 _ v w l m hv hw hl) ?_;simp+decide only[qa,ev,putD,Slots.put,Slots.get,Slots.keep,if_true,if_false,true_and,↓qd,qb];apply hK;clear hK K;refine qN ?_;refine qY _ (Sub.refl _) (Qb (Qe)) ?_;simp+decide only[Slots.get,if_true,and_true,Qw];all_goals first|rfl|exact⟨rfl,rfl⟩|(simp+decide only[if_true,if_false, *];done)|(trace_state;fail)
end Go.Proofs.YtlhhaagmakhilaaGreatDoor
namespace Go.AM
open Go.RowKit (Below)
theorem Xn(b:Bool):(AVal.bool b).scal=true:=rfl
theorem XA(k:IntKind)(n:Int):(AVal.int k n).scal=true:=rfl
theorem XF(s:List UInt8):(AVal.str s).scal=true:=rfl
theorem sc_map(k:Nat):(AVal.map k).scal=true:=rfl
section
variable {P:Program}
theorem pu_lookup(t:TypeId)(x i:Operand)(ok:Bool):XP P (.lookup t x i ok)=true:=rfl
end
section
variable {P:Program} {w0:World} {ops rest:List Oper} {s:Slots} {h:AHeap} {K:Slots->AHeap->Prop} {dst:Option Tmp} {ty:TypeId} {pos:String} {af:Array Edge}
theorem ap_lookup(t:TypeId)(x i:Operand)(ok:Bool):
 QF P w0 ops (⟨dst, .lookup t x i ok,ty,pos,af,none⟩::rest) s h K=((pop P w0 h s (.lookup t x i ok)).pre/\QF P w0 ops rest (putD s dst (pop P w0 h s (.lookup t x i ok)).val) h K):=Wy (pu_lookup t x i ok)
theorem aOps_makeMap{t:TypeId}(hk:∀k,h k=none->QF P w0 ops rest (putD s dst (.map k)) (h.set k (Xv 0 [])) K):QF P w0 ops (⟨dst, .makeMap t none,ty,pos,af,none⟩::rest) s h K:=by
 rw[qbB];exact hk
theorem aOps_putNew{t kt et:TypeId}{m i v:Operand}{k c:Nat}{es:List AVal}(ht:P.underlying t=some (.map kt et))(hm:ev s m= .map k)(hb:h k=some (Xv c es))(hok:qab P kt (ev s i)=true)(hf:qaa (ev s i) es 0=some none)
 (hk:QF P w0 ops rest (putD s dst (.tuple [])) (h.set k (Xv (c+1) (es++[.mapE c (ev s i) (ev s v)]))) K):QF P w0 ops (⟨dst, .mapUpdate t m i v,ty,pos,af,none⟩::rest) s h K:=by
 rw[qbB];simp only[eop,qbG,ht,hm,WR hb,hf];exact⟨hok,hk⟩
end
section
variable {P:Program} {h:AHeap}
theorem pLookup_in{t kt et:TypeId}{z:Value}{k c j:Nat}{es:List AVal}{i v:AVal}{ok:Bool}(ht:P.underlying t=some (.map kt et))(hz:WE P et=some z)(hb:h k=some (Xv c es))(hok:qab P kt i=true)(hf:qaa i es 0=some (some (j,v))):
 UM P h t (.map k) i ok=⟨True,lookR ok v true⟩:=by
 simp only[UM,ht,hz,WR hb,hf,hok]
theorem pLookup_out{t kt et:TypeId}{z:Value}{k c:Nat}{es:List AVal}{i:AVal}{ok:Bool}(ht:P.underlying t=some (.map kt et))(hz:WE P et=some z)(hb:h k=some (Xv c es))(hok:qab P kt i=true)(hf:qaa i es 0=some none):
 UM P h t (.map k) i ok=⟨True,lookR ok (qJ z) false⟩:=by
 simp only[UM,ht,hz,WR hb,hf,hok]
theorem lookR_false(v:AVal)(b:Bool):lookR false v b=v:=rfl
end
end Go.AM
namespace Go.AM
open Go.RowKit (Below)
theorem step_put{P:Program}{fr:Frame}{cs:List Frame}{w w':World}{d:Deferred}{ds:List Deferred}{b:Builtin}{ts:Array TypeId}{t:TypeId}{ks:Array Bool}{v:Value}(hm:fr.mode≠ .run)(hd:fr.defers=d::ds)(ht:d.target= .builtin b ts t ks)
 (hi:(invoke d.target d.args).run P w= .ok (.value v) w'):step P (lone fr cs w)= .next (lone {fr with defers:=ds} cs w'):=by
 obtain⟨tg,a⟩:=d;simp only at ht hi;subst ht;refine step_lone_go ?_;cases hmode:fr.mode with
 |run=>exact absurd hmode hm
 |returning=>simp[stepG,unwind,callDeferred,hmode,hd,hi]
 |panicking chain=>simp[stepG,unwind,callDeferred,hmode,hd,hi]
def RunsB(P:Program):List Deferred->World->World->Prop
 |[],w,w'=>w'=w
 |d::ds,w,w'=>∃b ts t ks v w1,d.target= .builtin b ts t ks/\(invoke d.target d.args).run P w= .ok (.value v) w1/\RunsB P ds w1 w'
theorem qdw{P:Program}:∀(ds:List Deferred) (w w':World) (fr:Frame) (cs:List Frame),fr.mode≠ .run->fr.defers=ds->RunsB P ds w w'->Steps P (lone fr cs w) (lone {fr with defers:=[]} cs w')
 |[],w,w',fr,cs,_,hd,h=>by
  simp only[RunsB]at h;subst h;have e:({fr with defers:=[]}:Frame)=fr:=by cases fr;simp_all
  rw[e];exact Steps.refl P _
 |d::ds,w,w',fr,cs,hm,hd,h=>by
  obtain⟨b,ts,t,ks,v,w1,ht,hi,hr⟩:=h;exact .head (step_put (cs:=cs) hm hd ht hi) (qdw ds w1 w' {fr with defers:=ds} cs hm rfl hr)
def bodyPostB(P:Program)(fn:Func)(R:Ending->World->Prop):Exit->Act->World->Prop
 | .normal,a,w| .ret,a,w=>∃w',RunsB P a.defers w w'/\∃v,(results fn a.tmps).run P w'= .ok v w'/\R (.returned v) w'
 | .outgrown,_,w=>R .outgrown w
 |_,_,_=>False
theorem calls_of_wp_put{P:Program}{f:FuncId}{fn:Func}{c:Code}{args:Array Value}{w:World}{R:Ending->World->Prop}
 (hf:P.funcs[f]?=some fn) (hb:fn.body=some c)
 (h:c.wp P (bodyPostB P fn R) {tmps:=args++Array.replicate (fn.ntmps-args.size) undef,defers:=[]} w):Calls P f args w R:=by
 intro cs;let b:Frame:={(default:Frame)with fn:=f,kind:= .normal}
 have henter:Frame.enter P f args .normal=
  b.at {tmps:=args++Array.replicate (fn.ntmps-args.size) undef,defers:=[]} [.code c]:=by
  simp[Frame.enter,Frame.at,hf,hb,b]
 obtain⟨e,a',w',hq,harr⟩:=h b [] cs;rw[<-henter]at harr;cases e with
 |normal=>
  obtain⟨w'',hr,v,h1,h2⟩:=hq;have hs:=qdw a'.defers w' w'' {b.at a' []with mode:= .returning} cs (by simp) rfl hr;exact⟨.returned v,w'',_,h2,Comes.of_steps (Steps.trans harr (.one step_end)) hs,rfl,rfl,rfl,rfl,fn,hf,h1⟩
 |ret=>
  obtain⟨w'',hr,v,h1,h2⟩:=hq;obtain⟨todo,hs₀⟩:=harr;have hs:=qdw a'.defers w' w'' {b.at a' todo with mode:= .returning} cs (by simp) rfl hr;exact⟨.returned v,w'',_,h2,Comes.of_steps hs₀ hs,rfl,rfl,rfl,rfl,fn,hf,h1⟩
 |panic chain=>exact hq.elim
 |exit id=>exact hq.elim
 |goto l=>exact hq.elim
 |outgrown=>exact⟨.outgrown,w',b,hq,harr.resolve_left (by simp[b]),rfl,trivial⟩
def GD(P:Program)(w0:World)(fn:Func)(R:AVal->AHeap->Prop):Exit->PMap->Act->World->Prop:=fun e Ps a w=>
 e= .ret/\∃w',RunsB P a.defers w w'/\∃v,(results fn a.tmps).run P w'= .ok v w'/\∃χ x h',Ps.le χ/\HRel w0 χ h' w'/\VR χ x v/\R x h'
def retD(P:Program)(w0:World)(rs:List ResultVar)(R:AVal->AHeap->Prop)(ts:Array TypeId)(m i:AVal):Exit->Slots->AHeap->Prop
 | .ret,s,h=>qbH P h ts m i (fun _ h'=>retA P w0 rs R .ret s h')
 |_,_,_=>False
theorem acall_put{P:Program}{w0:World}{f:FuncId}{args:List AVal}{h:AHeap}{R:AVal->AHeap->Prop}{fn:Func}{c:Code}{rs:List ResultVar}{k:Nat}(hf:P.funcs[f]?=some fn)
 (hname:(fn.name== "runtime.NumGoroutine")=false) (hb:fn.body=some c) (hn:fn.ntmps=k) (hrs:fn.results=rs.toArray) (hargs:args.length<=k)
 (hc:Awp P w0 ⟨k,[],GD P w0 fn R⟩ c (retA P w0 rs R) (Qd 0 args) h):ACall P w0 f args h R:=by
 intro fi vals w hr hv;refine .inl ⟨fn,hf,hname,by rw[hb];rfl,?_⟩;have hl:=XC hv;refine calls_of_wp_put hf hb (wp_mono (hc fi _ w hr ⟨?_,rfl,fun i=>?_⟩) fun e a' w' q=>?_)
 ·simp[hn]
  omega
 ·have:=(qbT fi args vals 0 i hv).2 undef (Nat.zero_le i)
  by_cases hi:i<vals.length
  ·have e:(vals.toArray++Array.replicate (fn.ntmps-vals.toArray.size) undef).getD i undef=vals.getD i undef:=by
    simp[Array.getD_eq_getD_getElem?,Array.getElem?_append,hi,List.getD]
   rw[e];simpa using this
  ·have e:(vals.toArray++Array.replicate (fn.ntmps-vals.toArray.size) undef).getD i undef=undef:=by
    simp[Array.getD_eq_getD_getElem?,Array.getElem?_append,hi,Array.getElem?_replicate];split<;>simp
   rw[e];have e2:vals.getD (i-0) undef=undef:=by simp[List.getD,List.getElem?_eq_none (Nat.le_of_not_lt hi)]
   rw[e2]at this;exact this
 ·rcases q with q|⟨_,Ps,hl1,q⟩
  ·obtain⟨Ps,s',h',e1,e2,e3,e4⟩:=q
   cases e<;>simp only[retA]at e4<;>first
    |exact e4.elim
    |skip
   all_goals
    obtain⟨hp,h'',hsub,hR⟩:=e4;have hrs':rs=fn.results.toList:=by rw[hrs]
    rw[hrs']at hp hR;obtain⟨v,f1,f2⟩:=results_ok e2 e3 fn hp;exact⟨w',by rw[e3.defers];rfl,v,f1,v,rfl,Ps,_,h'',e1,e2.forget hsub,f2,hR⟩
  ·obtain⟨rfl,w1,g1,v,g2,χ,x,h',g3,g4,g5,g6⟩:=q
   exact⟨w1,g1,v,g2,v,rfl,χ,x,h',PMap.le_trans hl1 g3,g4,g5,g6⟩
theorem retD_del{P:Program}{w0:World}{rs:List ResultVar}{R:AVal->AHeap->Prop}{ts:Array TypeId}{t kt et:TypeId}{k c j:Nat}{vi x:AVal}{es:List AVal}{s:Slots}{h:AHeap}(h0:ts[0]?=some t)(ht:P.underlying t=some (.map kt et))(hb:h k=some (Xv c es))(hok:qab P kt vi=true)
 (hf:qaa vi es 0=some (some (j,x))) (hk:retA P w0 rs R .ret s (h.set k (Xv c (es.eraseIdx j)))):retD P w0 rs R ts (.map k) vi .ret s h:=by
 simp only[retD,qbH,h0,ht,WR hb,hf];exact⟨hok,hk⟩
end Go.AM
namespace Go.AM
open Go.RowKit (Below)
section
variable {P:Program} {w0:World} {n:FrameK}
def qdJ(P:Program)(w0:World)(l:List Oper):List Oper->Nat->List Bool->Slots->AHeap->(Slots->AHeap->Prop)->Prop
 |[],_,_,s,h,K=>K s h
 |o::r,0,_,s,h,K=>QF P w0 l (o::r) s h K
 |o::r,m+1,true::bs,s,h,K=>∃V,(∀g,Sub h g->QF P w0 l [o] s g fun s' h'=>s'=putD s o.dst V/\h'=g)/\qdJ P w0 l r m bs (putD s o.dst V) h K
 |o::r,m+1,false::bs,s,h,K=>QF P w0 l [o] s h fun s' h'=>Sub h h'/\qdJ P w0 l r m bs s' h' K
 |o::r,m+1,[],s,h,K=>QF P w0 l [o] s h fun s' h'=>Sub h h'/\qdJ P w0 l r m [] s' h' K
theorem jOps_nil{l:List Oper}{m:Nat}{bs:List Bool}{s:Slots}{h:AHeap}{K:Slots->AHeap->Prop}:qdJ P w0 l [] m bs s h K=K s h:=rfl
theorem jOps_cons{l:List Oper}{m:Nat}{bs:List Bool}{o:Oper}{r:List Oper}{s:Slots}{h:AHeap}{K:Slots->AHeap->Prop}:qdJ P w0 l (o::r) (m+1) (false::bs) s h K=QF P w0 l [o] s h fun s' h'=>Sub h h'/\qdJ P w0 l r m bs s' h' K:=rfl
theorem jOps_zero{l:List Oper}{o:Oper}{bs:List Bool}{r:List Oper}{s:Slots}{h:AHeap}{K:Slots->AHeap->Prop}:qdJ P w0 l (o::r) 0 bs s h K=QF P w0 l (o::r) s h K:=rfl
theorem jOps_step{l:List Oper}{m:Nat}{bs:List Bool}(hb:bs.getD 0 false=false){o:Oper}{r:List Oper}{s:Slots}{h:AHeap}{K:Slots->AHeap->Prop}(hj:qdJ P w0 l (o::r) (m+1) bs s h K):QF P w0 l [o] s h fun s' h'=>Sub h h'/\qdJ P w0 l r m (bs.drop 1) s' h' K:=by
 cases bs with
 |nil=>exact hj
 |cons b bs=>
  simp only[List.getD_cons_zero]at hb;subst hb;exact hj
theorem jOps_take{l:List Oper}{m:Nat}{bs:List Bool}(hb:bs.getD 0 false=true){o:Oper}{r:List Oper}{s:Slots}{h:AHeap}{K:Slots->AHeap->Prop}(hj:qdJ P w0 l (o::r) (m+1) bs s h K):∃V,(∀g,Sub h g->QF P w0 l [o] s g fun s' h'=>s'=putD s o.dst V/\h'=g)/\qdJ P w0 l r m (bs.drop 1) (putD s o.dst V) h K:=by
 cases bs with
 |nil=>simp at hb
 |cons b bs=>
  simp only[List.getD_cons_zero]at hb;subst hb;exact hj
def FactC(P:Program)(w0:World)(n:FrameK)(l:List Oper)(g:AHeap)(S:Slots)(o:Oper)(V:AVal):Prop:=
 ∀(Ps:PMap) (w:World) (a:Act) (g':AHeap) (next:Act->World->Prop) (Q:Exit->Act->World->Prop),Sub g g'->HRel w0 Ps g' w->LookOk Ps n l o S a->(∀ψ' v w',Ps.le ψ'->HRel w0 ψ' g' w'->(∀t,o.dst=some t->VR ψ' V v)->next (a.put o.dst v) w')->
  if Region.wanted o (yielded l.toArray a.tmps)=true then o.wp P a w next Q else next (a.put o.dst undef) w
theorem FactR.toC{l:List Oper}{g:AHeap}{S:Slots}{o:Oper}{V:AVal}(h:FactR P w0 n l g S o V):FactC P w0 n l g S o V:=
 fun Ps w a g' next Q h1 h2 h3 h4=>h Ps w a g' next Q h1 h2 h3 fun v hv=>h4 Ps v w Ps.le_refl h2 fun _ _=>hv
theorem FactC.sub{l:List Oper}{g g':AHeap}{S:Slots}{o:Oper}{V:AVal}(h:FactC P w0 n l g S o V)(hs:Sub g g'):FactC P w0 n l g' S o V:=
 fun Ps w a g₂ next Q h1 h2 h3 h4=>h Ps w a g₂ next Q (Sub.trans hs h1) h2 h3 h4
theorem FactC.slots{l:List Oper}{g:AHeap}{S S':Slots}{o:Oper}{V:AVal}(h:FactC P w0 n l g S o V)(hs:∀t∈QI l o,S'.get t=S.get t):FactC P w0 n l g S' o V:=
 fun Ps w a g₂ next Q h1 h2 h3 h4=>h Ps w a g₂ next Q h1 h2 ⟨h3.1,h3.2.1,fun t ht=>by rw[<-hs t ht];exact h3.2.2 t ht⟩ h4
theorem fact_free{l:List Oper}(hall:Xi n l=true){o:Oper}{S:Slots}{g:AHeap}{V:AVal}(ha:∀g',Sub g g'->QF P w0 l [o] S g' fun s' h'=>s'=putD S o.dst V/\h'=g'):FactC P w0 n l g S o V:=
 fun Ps w a g' next Q h1 h2 h3 h4=>one_ok hall (ha g' h1) h2 h3 fun ψ' x h' v w' e1 e2 e3 ⟨e4,e5⟩=>h4 ψ' v w' e1 (e5 ▸ e2) fun t ht=>by
  have:=congrArg (fun s:Slots=>s.get t) e4;simp only[Yh,ht,if_true]at this;rw[<-this];exact e3
def isJ(P:Program)(l:List Oper)(π:List Nat)(fl:List Bool)(m q:Nat):Bool:=decide (q<m) && (fl.getD q false||isF P l (π.getD q 0))
def floatJ(P:Program)(l:List Oper)(π:List Nat)(fl:List Bool)(ws:List (Option Nat))(m:Nat):Bool:=
 UB l && (π.all fun i=>decide (i<l.length)) && ((List.range l.length).all fun i=>π.contains i) &&
 ((List.range π.length).all fun q=>(List.range π.length).all fun r=>decide (q=r)|| !(π.getD q 0==π.getD r 0)) &&
 ((List.range π.length).all fun q=>match ws.getD q none with
   |none=>(List.range q).all fun c=>isJ P l π fl m c
   |some r=>decide (r<q) && Region.waitsFor .any l.toArray (π.getD q 0) (π.getD r 0) && (List.range q).all fun c=>decide (c<=r)||isJ P l π fl m c) &&
 ((List.range π.length).all fun q=>match l[π.getD q 0]? with
   |none=>true
   |some o=>(List.range π.length).all fun r=>match l[π.getD r 0]? with
    |none=>true
    |some oj=>(match oj.dst with
     |none=>true
     |some t=> !(QI l o).contains t||(decide (q<r) && decide (m<=r))||(decide (r<q) && Region.waitsFor .any l.toArray (π.getD q 0) (π.getD r 0)))) &&
 decide (m<=π.length) && ((List.range π.length).all fun q=>decide (q<m)|| !isJ P l π fl m q) &&
 (decide (m=π.length)||(List.range m).all fun q=>(List.range (m+1)).any fun r=>decide (q<r) && Region.waitsFor .any l.toArray (π.getD r 0) (π.getD q 0))
structure FloatJ(P:Program)(l:List Oper)(π:List Nat)(fl:List Bool)(m:Nat):Prop where
 order:UB l=true
 inr:∀q,q<π.length->π.getD q 0<l.length
 onto:∀i,i<l.length->∃q,q<π.length/\π.getD q 0=i
 inj:∀q r,q<π.length->r<π.length->π.getD q 0=π.getD r 0->q=r
 wait:∀q c,q<π.length->c<q->isJ P l π fl m c=false->∃r,c<=r/\r<q/\Region.waitsFor .any l.toArray (π.getD q 0) (π.getD r 0)=true
 data:∀q r o oj t,q<π.length->r<π.length->l[π.getD q 0]?=some o->l[π.getD r 0]?=some oj->oj.dst=some t->t∈QI l o->(q<r/\m<=r)\/(r<q/\Region.waitsFor .any l.toArray (π.getD q 0) (π.getD r 0)=true)
 mle:m<=π.length
 tail:∀q,m<=q->q<π.length->isJ P l π fl m q=false
 sink:m<π.length->∀q,q<m->∃r,q<r/\r<=m/\Region.waitsFor .any l.toArray (π.getD r 0) (π.getD q 0)=true
theorem floatJ_spec{l:List Oper}{π:List Nat}{fl:List Bool}{ws:List (Option Nat)}{m:Nat}(h:floatJ P l π fl ws m=true):FloatJ P l π fl m:=by
 unfold floatJ at h;simp only[Bool.and_eq_true]at h;obtain⟨⟨⟨⟨⟨⟨⟨⟨h1,h2⟩,h3⟩,h4⟩,h5⟩,h6⟩,h7⟩,h8⟩,h9⟩:=h;simp only[List.all_eq_true,List.mem_range]at h2 h3 h4 h5 h6 h8;refine⟨h1,fun q hq=>?_,fun i hi=>?_,fun q r hq hr e=>?_,fun q c hq hc hf=>?_,fun q r o oj t hq hr ho hoj hd ht=>?_,by simpa using h7,fun q hm hq=>?_,fun hm q hq=>?_⟩
 ·have:=h2 (π.getD q 0) (by rw[List.getD,List.getElem?_eq_getElem hq];exact List.getElem_mem hq)
  simpa using this
 ·have:=h3 i hi
  rw[List.contains_iff_mem]at this;obtain⟨q,hq,e⟩:=List.getElem_of_mem this;exact⟨q,hq,by rw[List.getD,List.getElem?_eq_getElem hq];exact e⟩
 ·have:=h4 q hq r hr
  rw[Bool.or_eq_true,decide_eq_true_eq]at this;rcases this with e'|e'
  ·exact e'
  ·rw[e]at e';simp at e'
 ·have:=h5 q hq
  split at this
  ·rw[List.all_eq_true]at this
   rw[this c (List.mem_range.2 hc)]at hf;cases hf
  ·rename_i r _
   simp only[Bool.and_eq_true,decide_eq_true_eq,List.all_eq_true,List.mem_range,Bool.or_eq_true]at this;obtain⟨⟨t1,t2⟩,t3⟩:=this;rcases t3 c hc with e|e
   ·exact⟨r,e,t1,t2⟩
   ·rw[e]at hf;cases hf
 ·have:=h6 q hq
  rw[ho]at this;simp only[List.all_eq_true,List.mem_range]at this;have:=this r hr;rw[hoj]at this;simp only[hd,Bool.or_eq_true,Bool.and_eq_true,decide_eq_true_eq,Bool.not_eq_true']at this;rcases this with(e|e)|e
  ·have hm:(QI l o).contains t=true:=by simpa using ht
   rw[hm]at e;cases e
  ·exact .inl e
  ·exact .inr e
 ·have:=h8 q hq
  simp only[Bool.or_eq_true,decide_eq_true_eq,Bool.not_eq_true']at this;rcases this with e|e
  ·omega
  ·exact e
 ·rw[Bool.or_eq_true,decide_eq_true_eq]at h9
  rcases h9 with e|e
  ·omega
  ·rw[List.all_eq_true]at e
   have:=e q (List.mem_range.2 hq);rw[List.any_eq_true]at this;obtain⟨r,hr,hw⟩:=this;rw[List.mem_range]at hr;simp only[Bool.and_eq_true,decide_eq_true_eq]at hw;exact⟨r,hw.1,by omega,hw.2⟩
theorem advanceJ{l:List Oper}(hall:Xi n l=true){π:List Nat}{fl:List Bool}{m:Nat}(F:FloatJ P l π fl m){K:Slots->AHeap->Prop}{g:AHeap}:∀(d p:Nat) (S:Slots),π.length-p=d->p<=π.length->qdJ P w0 l ((Yy l π).drop p) (m-p) (fl.drop p) S g K->
 ∃p' S',p<=p'/\p'<=π.length/\(p'<π.length->isJ P l π fl m p'=false)/\(∀q,p<=q->q<p'->isJ P l π fl m q=true)/\qdJ P w0 l ((Yy l π).drop p') (m-p') (fl.drop p') S' g K/\
  (∀q o,p<=q->q<p'->l[π.getD q 0]?=some o->∃V,(∀t,o.dst=some t->S'.get t=V)/\FactC P w0 n l g S' o V)/\
  (∀t,(∀q o,p<=q->q<p'->l[π.getD q 0]?=some o->o.dst≠some t)->S'.get t=S.get t):=by
 intro d;induction d with
 |zero=>
  intro p S hd hp ha;exact⟨p,S,Nat.le_refl _,hp,fun h=>by omega,fun q h1 h2=>by omega,ha,fun q o h1 h2=>by omega,fun t _=>rfl⟩
 |succ d ih=>
  intro p S hd hp ha;have hpl:p<π.length:=by omega
  cases hf:isJ P l π fl m p with
  |false=>exact⟨p,S,Nat.le_refl _,hp,fun _=>hf,fun q h1 h2=>by omega,ha,fun q o h1 h2=>by omega,fun t _=>rfl⟩
  |true=>
   have hpm:p<m:=by
    refine Nat.lt_of_not_le fun h=>?_;rw[F.tail p h hpl]at hf;cases hf
   obtain⟨o,ho⟩:∃o,l[π.getD p 0]?=some o:=⟨_,List.getElem?_eq_getElem (F.inr p hpl)⟩
   rw[qcJ F.inr hpl ho,show m-p=(m-(p+1))+1 by omega]at ha;have hfl:(fl.drop p).getD 0 false=fl.getD p false:=by simp[List.getD,List.getElem?_drop]
   have hfd:(fl.drop p).drop 1=fl.drop (p+1):=by rw[List.drop_drop]
   obtain⟨V,hv,hfact⟩:∃V,qdJ P w0 l ((Yy l π).drop (p+1)) (m-(p+1)) (fl.drop (p+1)) (putD S o.dst V) g K/\FactC P w0 n l g S o V:=by
    cases hb:fl.getD p false with
    |true=>
     obtain⟨V,h1,h2⟩:=jOps_take (by rw[hfl,hb]) ha;rw[hfd]at h2;exact⟨V,h2,fact_free hall h1⟩
    |false=>
     have hk2:Yt P o.op=2:=by
      unfold isJ isF at hf;rw[ho,hb]at hf;simp only[Bool.and_eq_true,Bool.false_or]at hf;simpa using hf.2
     have ha:=jOps_step (by rw[hfl,hb]) ha;rw[hfd]at ha;obtain⟨V,⟨_,hv⟩,hfact⟩:=fact_of hall hk2 ha;exact⟨V,hv,hfact.toC⟩
   obtain⟨p',S',a1,a2,a3,a4,a5,a6,a7⟩:=ih (p+1) (putD S o.dst V) (by omega) (by omega) hv;have notlook:∀q oq t,p<=q->q<p'->l[π.getD q 0]?=some oq->oq.dst=some t->t∉QI l o:=fun q oq t h1 h2 h3 h4 ht=>by
    rcases F.data p q o oq t hpl (by omega) ho h3 h4 ht with⟨c1,c2⟩|⟨c1,_⟩
    ·have:=a4 q (by omega) h2
     rw[F.tail q c2 (by omega)]at this;cases this
    ·omega
   have uniq:∀q oq t,p<q->q<π.length->l[π.getD q 0]?=some oq->oq.dst=some t->o.dst≠some t:=fun q oq t h1 h2 h3 h4 e=>by
    have:=((XM F.order ho).2 _ oq t h3 h4).1 e;have:=F.inj p q hpl h2 this;omega
   refine⟨p',S',by omega,a2,a3,fun q h1 h2=>?_,a5,fun q oq h1 h2 hq=>?_,fun t ht=>?_⟩
   ·rcases Nat.eq_or_lt_of_le h1 with e|e
    ·rw[<-e];exact hf
    ·exact a4 q e h2
   ·rcases Nat.eq_or_lt_of_le h1 with e|e
    ·subst e
     rw[ho]at hq;obtain rfl:=Option.some.inj hq;refine⟨V,fun t ht=>?_,hfact.slots fun t ht=>?_⟩
     ·rw[a7 t fun q oq h3 h4 h5 h6=>uniq q oq t h3 (by omega) h5 h6 ht,Yh,if_pos ht]
     ·rw[a7 t fun q oq h3 h4 h5 h6=>notlook q oq t (by omega) (by omega) h5 h6 ht,Yh,if_neg fun e=>notlook p o t (Nat.le_refl _) (by omega) ho e ht]
    ·exact a6 q oq e h2 hq
   ·rw[a7 t fun q oq h3 h4 h5=>ht q oq (by omega) h4 h5,Yh,if_neg (ht p o (Nat.le_refl _) (by omega) ho)]
def PhaseJ(P:Program)(w0:World)(n:FrameK)(l:List Oper)(π:List Nat)(fl:List Bool)(m:Nat)(K:Slots->AHeap->Prop)(listed:Array Bool)(Ps:PMap)(a:Act)(w:World):Prop:=
 listed.size=l.length/\(∀j oj,l[j]?=some oj->listed.getD j false=true->∀e∈oj.after,Region.binds .any e=true->listed.getD e.on false=true)/\a.tmps.size=n/\a.defers=n.dfr/\
 ∃p S g,p<=π.length/\(p<π.length->isJ P l π fl m p=false)/\(∀q,p<=q->q<π.length->listed.getD (π.getD q 0) false=false)/\(∀q,q<p->isJ P l π fl m q=false->listed.getD (π.getD q 0) false=true)/\
  (m<p->∀q,q<p->listed.getD (π.getD q 0) false=true)/\HRel w0 Ps g w/\qdJ P w0 l ((Yy l π).drop p) (m-p) (fl.drop p) S g K/\
  (∀q o,q<p->l[π.getD q 0]?=some o->listed.getD (π.getD q 0) false=false->∃V,(∀t,o.dst=some t->S.get t=V)/\FactC P w0 n l g S o V)/\
  ∀t,(∃q o,q<p/\l[π.getD q 0]?=some o/\o.dst=some t/\listed.getD (π.getD q 0) false=false)\/VR Ps (S.get t) (a.tmps.getD t undef)
theorem qal{l:List Oper}{listed:Array Bool}{i j:Nat}{o:Oper}(ho:l[i]?=some o)(hedges:∀e∈o.after,Region.binds .any e=true->listed.getD e.on false=true)(hw:Region.waitsFor .any l.toArray i j=true):listed.getD j false=true:=by
 obtain⟨oi,g1,e,g2,g3,g4⟩:=Region.waitsFor_spec hw;have g1':l[i]?=some oi:=by simpa using g1
 rw[ho]at g1';obtain rfl:=Option.some.inj g1';rw[<-g4];exact hedges e g2 g3
theorem any_okJ{l:List Oper}(hall:Xi n l=true){π:List Nat}{fl:List Bool}{m:Nat}(F:FloatJ P l π fl m){K:Slots->AHeap->Prop}{fi:PMap}{Q:Exit->Act->World->Prop}
 (hq:∀Ps S g a w,fi.le Ps->HRel w0 Ps g w->SRel Ps n S a->K S g->Q .normal a w):∀(fuel:Nat) (listed:Array Bool) (a:Act) (w:World) (Ps:PMap),fi.le Ps->PhaseJ P w0 n l π fl m K listed Ps a w->
 (listed.toList.filter (!·)).length<=fuel->wpAny P .any l.toArray Q fuel listed a w:=by
 have hB:=F.order;have fin:∀(listed:Array Bool) (a:Act) (w:World) (Ps:PMap),fi.le Ps->PhaseJ P w0 n l π fl m K listed Ps a w->Region.ready .any l.toArray listed=[]->Q .normal a w:=by
  rintro listed a w Ps hle ⟨i1,i2,i3,i4,p,S,g,p1,p2,p3,p4,p5,p6,p7,p8,p9⟩ hrd;have hal:=qdc hB i1 hrd;have hp:p=π.length:=by
   rcases Nat.eq_or_lt_of_le p1 with e|e
   ·exact e
   ·have:=p3 p (Nat.le_refl _) e
    rw[hal _ (F.inr p e)]at this;cases this
  subst hp;rw[show(Yy l π).drop π.length=[] by rw[<-qcI F.inr];simp,jOps_nil]at p7;refine hq Ps S g a w hle p6 ⟨i3,i4,fun t=>?_⟩ p7;rcases p9 t with⟨q,o,c1,c2,c3,c4⟩|c
  ·rw[hal _ (F.inr q c1)]at c4;cases c4
  ·exact c
 intro fuel;induction fuel with
 |zero=>
  intro listed a w Ps hle inv hc;have hrd:Region.ready .any l.toArray listed=[]:=by
   cases hrd:Region.ready .any l.toArray listed with
   |nil=>rfl
   |cons i r=>
    exfalso;have hm:i∈Region.ready .any l.toArray listed:=by rw[hrd];exact List.mem_cons_self
    obtain⟨h1,o,ho,_⟩:=mem_ready.1 hm;have hi:i<listed.size:=by
     have:l[i]?=some o:=by simpa using ho
     rw[inv.1];exact(List.getElem?_eq_some_iff.1 this).1
    have h2:listed.toList[i]?=some false:=by
     simp[Array.getD,hi]at h1;simp[hi,h1]
    have:=List.mem_of_getElem? h2;have hmem:false∈listed.toList.filter (!·):=by simp[List.mem_filter,this]
    have:=List.length_pos_of_mem hmem;omega
  exact⟨hrd,fin listed a w Ps hle inv hrd⟩
 |succ fuel ih=>
  intro listed a w Ps hle inv hc;refine⟨fun hrd=>fin listed a w Ps hle inv hrd,fun i hi=>?_⟩;obtain⟨i1,i2,i3,i4,p,S,g,p1,p2,p3,p4,p5,p6,p7,p8,p9⟩:=inv;obtain⟨h1,o,ho,hedges⟩:=mem_ready.1 hi;have hol:l[i]?=some o:=by simpa using ho
  have hilt:i<l.length:=(List.getElem?_eq_some_iff.1 hol).1;have hisz:i<listed.size:=by rw[i1];exact hilt
  have hif:listed.getD i false=false:=by simp[Array.getD,hisz]at h1|-;exact h1
  have hcount:((listed.setIfInBounds i true).toList.filter (!·)).length<=fuel:=by
   have h2:listed.toList[i]?=some false:=by
    simp[Array.getD,hisz]at h1;simp[hisz,h1]
   have:=qcr listed.toList i h2;have e:(listed.setIfInBounds i true).toList=listed.toList.set i true:=by simp
   rw[e];omega
  have hdn:∀d,o.dst=some d->d<n:=fun d hd=>qcP l i d hall (by rw[Yn,hol];exact hd);obtain⟨q,hql,hqi⟩:=F.onto i hilt;have hoq:l[π.getD q 0]?=some o:=by rw[hqi];exact hol
  have looks:LookOk Ps n l o S a:=⟨i3,i4,fun t ht=>by
   rcases p9 t with⟨r,oj,c1,c2,c3,c4⟩|c
   ·exfalso
    rcases F.data q r o oj t hql (by omega) hoq c2 c3 ht with⟨d1,d2⟩|⟨_,this⟩
    ·rw[p5 (by omega) r c1]at c4
     cases c4
    ·rw[hqi]at this
     rw[qal hol hedges this]at c4;cases c4
   ·exact c⟩
  have closed':∀j oj,l[j]?=some oj->(listed.setIfInBounds i true).getD j false=true->∀e∈oj.after,Region.binds .any e=true->(listed.setIfInBounds i true).getD e.on false=true:=fun j oj hj hl e he hb=>by
   by_cases e1:e.on=i
   ·rw[e1];exact set_self hisz
   ·rw[XD e1]
    by_cases e2:j=i
    ·subst e2
     rw[hol]at hj;obtain rfl:=Option.some.inj hj;exact hedges e he hb
    ·rw[XD e2]at hl
     exact i2 j oj hj hl e he hb
  have other:∀r,r<π.length->r≠q->(listed.setIfInBounds i true).getD (π.getD r 0) false=listed.getD (π.getD r 0) false:=fun r hr hne=>XD fun e=>hne (F.inj r q hr hql (by rw[e,hqi]));have nobehind:p<q->False:=fun hpq=>by
   obtain⟨r,r1,r2,r3⟩:=F.wait q p hql hpq (p2 (by omega));rw[hqi]at r3;have:=qal hol hedges r3;rw[p3 r r1 (by omega)]at this;cases this
  have goal:(if Region.wanted o (yielded l.toArray a.tmps)=true then o.wp P a w (wpAny P .any l.toArray Q fuel (listed.setIfInBounds i true)) Q else wpAny P .any l.toArray Q fuel (listed.setIfInBounds i true) (a.put o.dst undef) w):=by
   rcases Nat.lt_or_ge q p with hqp|hqp
   ·
    obtain⟨V,v1,v2⟩:=p8 q o hqp hoq (by rw[hqi];exact hif);refine v2 Ps w a g _ Q (Sub.refl g) p6 looks fun ψ₂ v wx hle₂ hr₂ hv=>?_;refine ih _ _ _ ψ₂ (PMap.le_trans hle hle₂) ⟨by simp[i1],closed',by rw[qdB];exact i3,by rw[put_defers];exact i4,p,S,g,p1,p2,fun r r1 r2=>?_,fun r r1 r2=>?_,fun hm r r1=>?_,hr₂,p7,fun r oj r1 r2 r3=>?_,fun t=>?_⟩ hcount
    ·rw[other r r2 (by omega)];exact p3 r r1 r2
    ·by_cases e:r=q
     ·rw[e,hqi];exact set_self hisz
     ·rw[other r (by omega) e];exact p4 r r1 r2
    ·by_cases e:r=q
     ·rw[e,hqi];exact set_self hisz
     ·rw[other r (by omega) e];exact p5 hm r r1
    ·by_cases e:r=q
     ·rw[e,hqi,set_self hisz]at r3;cases r3
     ·rw[other r (by omega) e]at r3
      exact p8 r oj r1 r2 r3
    ·by_cases hod:o.dst=some t
     ·right
      rw[v1 t hod,Uz a hod (by rw[i3];exact hdn t hod)];exact hv t hod
     ·rcases p9 t with⟨r,oj,c1,c2,c3,c4⟩|c
      ·refine .inl ⟨r,oj,c1,c2,c3,?_⟩
       rw[other r (by omega) fun e=>by subst e;rw[hoq]at c2;obtain rfl:=Option.some.inj c2;exact hod c3];exact c4
      ·right
       rw[WM a hod];exact Wz hle₂ _ _ c
   ·have hqe:q=p:=by
     rcases Nat.eq_or_lt_of_le hqp with e|e
     ·exact e.symm
     ·exact(nobehind e).elim
    subst hqe;have all_m:m<=q->∀r,r<q->listed.getD (π.getD r 0) false=true:=fun hm r hr=>by
     rcases Nat.eq_or_lt_of_le hm with e|e
     ·subst e
      have key:∀d r,r+d=m->r<m->listed.getD (π.getD r 0) false=true:=by
       intro d;induction d using Nat.strongRecOn with
       |ind d ihd=>
        intro r hd hr;obtain⟨r',s1,s2,s3⟩:=F.sink hql r hr;rcases Nat.eq_or_lt_of_le s2 with e|e
        ·subst e
         rw[hqi]at s3;exact qal hol hedges s3
        ·have hl:=ihd (m-r') (by omega) r' (by omega) e
         obtain⟨oj,hoj⟩:∃oj,l[π.getD r' 0]?=some oj:=⟨_,List.getElem?_eq_getElem (F.inr r' (by omega))⟩
         exact qal hoj (i2 _ oj hoj hl) s3
      exact key (m-r) r (by omega) hr
     ·exact p5 e r hr
    obtain⟨K',ha,hnext⟩:∃K':Slots->AHeap->Prop,QF P w0 l [o] S g K'/\∀s' h',K' s' h'->(q<m->Sub g h')/\qdJ P w0 l ((Yy l π).drop (q+1)) (m-(q+1)) (fl.drop (q+1)) s' h' K:=by
     rw[qcJ F.inr hql hoq]at p7;have hfl:(fl.drop q).getD 0 false=fl.getD q false:=by simp[List.getD,List.getElem?_drop]
     have hfd:(fl.drop q).drop 1=fl.drop (q+1):=by rw[List.drop_drop]
     have hfb:q<m->fl.getD q false=false:=fun c=>by
      have:=p2 hql;unfold isJ at this;rw[decide_eq_true c,Bool.true_and,Bool.or_eq_false_iff]at this;exact this.1
     by_cases c:q<m
     ·rw[show m-q=(m-(q+1))+1 by omega]at p7
      have p7:=jOps_step (by rw[hfl,hfb c]) p7;rw[hfd]at p7;exact⟨_,p7,fun s' h' hx=>⟨fun _=>hx.1,hx.2⟩⟩
     ·rw[show m-q=0 by omega,jOps_zero]at p7
      refine⟨_,aOps_one p7,fun s' h' hx=>⟨fun hc=>absurd hc c,?_⟩⟩;rw[show m-(q+1)=0 by omega];cases hdr:(Yy l π).drop (q+1)with
      |nil=>rw[hdr]at hx;rw[jOps_nil];exact hx
      |cons o' r'=>rw[hdr]at hx;exact hx
    refine one_ok hall ha p6 looks fun ψ' x h' v w' e1 e2 e3 hk=>?_;obtain⟨k1,k2⟩:=hnext _ _ hk;obtain⟨p',S',a1,a2,a3,a4,a5,a6,a7⟩:=advanceJ hall F (π.length-(q+1)) (q+1) (putD S o.dst x) rfl (by omega) k2;have keep:∀r or t,r<q->l[π.getD r 0]?=some or->listed.getD (π.getD r 0) false=false->(or.dst=some t\/t∈QI l or)->S'.get t=S.get t:=fun r or t hr hor hun ht=>by
     have nd:∀u ou,q<=u->u<max p' (q+1)->u<π.length->l[π.getD u 0]?=some ou->ou.dst≠some t:=fun u ou h1 hup h2 h3 h4=>by
      rcases ht with ht|ht
      ·have:=((XM hB hor).2 _ ou t h3 h4).1 ht
       have:=F.inj r u (by omega) h2 this;omega
      ·rcases F.data r u or ou t (by omega) h2 hor h3 h4 ht with⟨c1,c2⟩|⟨c1,_⟩
       ·rcases Nat.eq_or_lt_of_le h1 with e|e
        ·subst e
         rw[all_m c2 r hr]at hun;cases hun
        ·have:=a4 u e (by omega)
         rw[F.tail u c2 h2]at this;cases this
       ·omega
     rw[a7 t fun u ou h1 h2 h3=>nd u ou (by omega) (by omega) (by omega) h3,Yh,if_neg (nd q o (Nat.le_refl _) (by omega) hql hoq)]
    refine ih _ _ _ ψ' (PMap.le_trans hle e1) ⟨by simp[i1],closed',by rw[qdB];exact i3,by rw[put_defers];exact i4,p',S',h',a2,a3,fun r r1 r2=>?_,fun r r1 r2=>?_,fun hm r r1=>?_,e2,a5,fun r oj r1 r2 r3=>?_,fun t=>?_⟩ hcount
    ·rw[other r r2 (by omega)];exact p3 r (by omega) r2
    ·by_cases e:r=q
     ·rw[e,hqi];exact set_self hisz
     ·rw[other r (by omega) e]
      rcases Nat.lt_or_ge r q with c|c
      ·exact p4 r c r2
      ·rw[a4 r (by omega) r1]at r2;cases r2
    ·have hmq:m<=q:=by
      refine Nat.le_of_not_lt fun hc=>?_;have hmp:m<π.length:=by omega
      have:=a4 m (by omega) hm;rw[F.tail m (Nat.le_refl _) hmp]at this;cases this
     by_cases e:r=q
     ·rw[e,hqi];exact set_self hisz
     ·rw[other r (by omega) e]
      rcases Nat.lt_or_ge r q with c|c
      ·exact all_m hmq r c
      ·have:=a4 r (by omega) r1
       rw[F.tail r (by omega) (by omega)]at this;cases this
    ·by_cases e:r=q
     ·rw[e,hqi,set_self hisz]at r3;cases r3
     ·rw[other r (by omega) e]at r3
      rcases Nat.lt_or_ge r q with c|c
      ·obtain⟨V,v1,v2⟩:=p8 r oj c r2 r3
       have hqm:q<m:=by
        refine Nat.lt_of_not_le fun hm=>?_;rw[all_m hm r c]at r3;cases r3
       exact⟨V,fun t ht=>(keep r oj t c r2 r3 (.inl ht)).trans (v1 t ht),(v2.sub (k1 hqm)).slots fun t ht=>keep r oj t c r2 r3 (.inr ht)⟩
      ·exact a6 r oj (by omega) r1 r2
    ·by_cases hod:o.dst=some t
     ·right
      rw[a7 t fun u ou h1 h2 h3 h4=>by
       have:=((XM hB hoq).2 _ ou t h3 h4).1 hod;have:=F.inj q u hql (by omega) this;omega,Yh,if_pos hod,Uz a hod (by rw[i3];exact hdn t hod)]
      exact e3
     ·by_cases hw:∃r or,q+1<=r/\r<p'/\l[π.getD r 0]?=some or/\or.dst=some t
      ·obtain⟨r,or,w1,w2,w3,w4⟩:=hw
       exact .inl ⟨r,or,w2,w3,w4,by rw[other r (by omega) (by omega)];exact p3 r (by omega) (by omega)⟩
      ·have hS:S'.get t=S.get t:=by
        rw[a7 t fun u ou h1 h2 h3 h4=>hw ⟨u,ou,h1,h2,h3,h4⟩,Yh,if_neg hod]
       rcases p9 t with⟨r,oj,c1,c2,c3,c4⟩|c
       ·exact .inl ⟨r,oj,by omega,c2,c3,by rw[other r (by omega) (by omega)];exact c4⟩
       ·right
        rw[hS,WM a hod];exact Wz e1 _ _ c
  simp only[wpOp,ho];split
  ·rename_i hw
   rw[if_pos hw]at goal;exact .inl goal
  ·rename_i hw
   rw[if_neg hw]at goal;exact goal
theorem awp_draw_J{Q:Exit->Slots->AHeap->Prop}{s:Slots}{h:AHeap}{id:Nat}{l:List Oper}(π:List Nat)(fl:List Bool)(ws:List (Option Nat))(m:Nat)(hm:P.follows .mixedOrders=true)(hB:floatJ P l π fl ws m=true)(hd:Xi n l=true)
 (hc:qdJ P w0 l (Yy l π) m fl s h fun s' h'=>Q .normal s' h'):Awp P w0 n (.region id l.toArray true) Q s h:=by
 refine Awp.of0 ?_;intro fi a w hr hs;have F:=floatJ_spec hB;refine wp_region_any hm ?_;have hf:∀j,(Array.replicate l.toArray.size false).getD j false=false:=fun j=>by simp[Array.getD]
 obtain⟨p',S',a1,a2,a3,a4,a5,a6,a7⟩:=advanceJ hd F π.length 0 s rfl (Nat.zero_le _) (by rw[Nat.sub_zero,List.drop_zero];exact hc);refine any_okJ (fi:=fi) hd F (K:=fun s' h'=>Q .normal s' h') (fun Ps S g a' w' hle h1 h2 h3=>⟨Ps,S,g,hle,h1,h2,h3⟩) _ _ _ _ fi fi.le_refl
  ⟨by simp,fun j oj _ hl=>(by rw[hf]at hl;cases hl),hs.size,hs.defers,p',S',h,a2,a3,fun r _ _=>hf _,fun r r1 r2=>?_,fun hm' r r1=>?_,hr.drew,a5,fun r oj r1 r2 _=>a6 r oj (Nat.zero_le _) r1 r2,fun t=>?_⟩ ?_
 ·rw[a4 r (Nat.zero_le _) r1]at r2;cases r2
 ·have:=a4 m (Nat.zero_le _) hm'
  rw[F.tail m (Nat.le_refl _) (by omega)]at this;cases this
 ·by_cases hw:∃r or,r<p'/\l[π.getD r 0]?=some or/\or.dst=some t
  ·obtain⟨r,or,w2,w3,w4⟩:=hw
   exact .inl ⟨r,or,w2,w3,w4,hf _⟩
  ·right
   rw[a7 t fun u ou _ h2 h3 h4=>hw ⟨u,ou,h2,h3,h4⟩];exact hs.val t
 ·have:=List.length_filter_le (!·) (Array.replicate l.toArray.size false).toList
  simpa using this
end
end Go.AM
namespace Go.AM
section
variable {P:Program} {w0:World} {ops rest:List Oper} {s:Slots} {h:AHeap} {K:Slots->AHeap->Prop} {dst:Option Tmp} {ty:TypeId} {pos:String} {af:Array Edge}
theorem vOps_gno{fo:Operand}{args:List Operand}{ts:Array TypeId}{j:Nat}{want:Bool}(hg:gv s ops j= .bool (!want))(hr:ZP P w0 ops rest (putD s dst (.tuple [])) h K):
 ZP P w0 ops (⟨dst, .call ⟨.value fo,args.toArray,ts⟩,ty,pos,af,some (j,want)⟩::rest) s h K:=by
 refine qcv (V:= .dead) (f:=0) (cap:=[]) (xs:=[]) (by rw[hg];rfl) (fun e=>?_) (fun e=>?_) ?_
 ·rw[hg]at e;cases want<;>cases e
 ·rw[hg]at e;cases want<;>cases e
 ·rw[hg];cases want<;>exact hr
theorem fOps_gno{hZ:AHeap}{fo:Operand}{args:List Operand}{ts:Array TypeId}{j:Nat}{want:Bool}(hg:gv s ops j= .bool (!want))(hr:ZB P w0 ops hZ rest (putD s dst (.tuple [])) h K):
 ZB P w0 ops hZ (⟨dst, .call ⟨.value fo,args.toArray,ts⟩,ty,pos,af,some (j,want)⟩::rest) s h K:=by
 refine fOps_gcall (V:= .bool true) (f:=0) (cap:=[]) (xs:=[]) (by rw[hg];rfl) (fun e=>?_) trivial (fun e=>?_) ?_
 ·rw[hg]at e;cases want<;>cases e
 ·rw[hg]at e;cases want<;>cases e
 ·rw[hg];cases want<;>exact hr
theorem aOps_gbuild{t:TypeId}{n:Nat}{ps:List (Nat×Operand)}{cs:List AVal}{j:Nat}{want:Bool}{g:AVal}(hg:gv s ops j=g)(hkn:Yu g=true)(hb:QY g want=true->qaw P t n (evP s ps)=some cs)
 (hk:∀k H,Sub h H->(QY g want=true->H k=some ⟨cs,0⟩)->QF P w0 ops rest (putD s dst (Qs (QY g want) (.slice (.own k) 0 n (.exact n)))) H K):
 QF P w0 ops (⟨dst, .buildSlice t n ps.toArray,ty,pos,af,some (j,want)⟩::rest) s h K:=by
 subst hg;have h0:qI ops j=none->False:=fun hj=>by unfold gv at hkn;rw[hj]at hkn;cases hkn
 cases hj:qI ops j with
 |none=>exact(h0 hj).elim
 |some d=>
  have e:gv s ops j=s.get d:=by unfold gv;rw[hj]
  rw[e]at hkn hb hk;refine aOps_ge hj rfl hkn (fun q=>?_) (fun q=>?_)
  ·refine QD (hb q) fun k hk'=>?_
   have:=hk k (h.set k ⟨cs,0⟩) (Sub.set hk') (fun _=>AHeap.set_same _ _ _);rw[q,Qs]at this;exact this
  ·have:=hk 0 h (Sub.refl _) (fun z=>by rw[q]at z;cases z)
   rw[q,Qs]at this;exact this
end
theorem awp_put_deleteD{P:Program}{w0:World}{k id:Nat}{l pre:List Oper}{m i:Operand}{ts:Array TypeId}{ty:TypeId}{pos:String}{af:Array Edge}{rest:Code}{s:Slots}{h:AHeap}{fn:Func}{rs:List ResultVar}{R:AVal->AHeap->Prop}{Q:Exit->Slots->AHeap->Prop}{vm vi:AVal}(L:List Nat)
 (hl:l=pre++[⟨none, .defer ⟨.builtin .delete,[m,i].toArray,ts⟩,ty,pos,af,none⟩]) (hd:Xi k l=true) (hrs:fn.results=rs.toArray) (hmx:P.follows .mixedOrders=true) (hB:Region.lexTailB .any l.toArray pre.length=true) (hp:(pre.all fun o=>XP P o.op)=true)
 (hc:∀K:Slots->AHeap->Prop,(∀s h,(∀d,Awp P w0 ⟨k,[d],fun _ _ _ _=>False⟩ rest (retD P w0 rs R ts vm vi) s h)->K s h)->QF P w0 l pre s h (fun s' h'=>ev s' m=vm/\ev s' i=vi/\K (s'.keep L) h')):
 Awp P w0 ⟨k,[],GD P w0 fn R⟩ (.seq (.region id l.toArray true) rest) Q s h:=by
 have hdp:Xi k pre=true:=by
  have:∀(p q:List Oper),Xi k (p++q)=true->Xi k p=true:=by
   intro p q hp;induction p with
   |nil=>rfl
   |cons o p ih=>
    simp only[List.cons_append,Xi,Bool.and_eq_true]at hp|-
    exact⟨hp.1,ih hp.2⟩
  exact this pre _ (hl ▸ hd)
 have hc':=hc (fun s h=>∀d,Awp P w0 ⟨k,[d],fun _ _ _ _=>False⟩ rest (retD P w0 rs R ts vm vi) s h) (fun _ _ hk=>hk);have htake:l.take pre.length=pre:=by rw[hl];simp
 have hdrop:l.drop pre.length=[⟨none, .defer ⟨.builtin .delete,[m,i].toArray,ts⟩,ty,pos,af,none⟩]:=by rw[hl];simp
 intro fi a w hr hs;refine wp_seq (wp_region_still_tail (w:=w) pre.length hmx hB ?_);rw[htake,hdrop];refine still_ok (w:=w.drew) (n:=⟨k,[],GD P w0 fn R⟩) l hd hr.drew _ _ pre [] s a hp hdp (by simpa using hc') hs fun s' a' hs' hk=>?_;obtain⟨em,ei,hk⟩:=hk;simp only[wpList];rw[if_pos (by simp[Region.wanted])];have hvm:=hs'.ev m;have hvi:=hs'.ev i;rw[em]at hvm;rw[ei]at hvi;generalize hdd:({target:= .builtin .delete ts ty (([m,i].toArray).map fun| .const _=>true|_=>false),args:=([m,i].toArray).map a'.eval}:Deferred)=d;have hx:(execOp a'.eval ⟨none, .defer ⟨.builtin .delete,[m,i].toArray,ts⟩,ty,pos,af,none⟩).run P w.drew= .ok (.defer d) w.drew:=by
  subst hdd;simp[execOp,resolve];exact⟨by cases m<;>rfl,by cases i<;>rfl⟩
 refine .inl ?_;show Oper.wp P _ a' w.drew _ _
 simp only[Oper.wp,hx,Oper.upon_defer,Act.put,Exit.then];refine wp_mono (Awp.keep L (hk d) fi _ w.drew hr.drew ⟨hs'.size,by rw[hs'.defers],hs'.val⟩) fun e a'' w'' q=>?_;rcases q with⟨χ,s'',h'',e1,e2,e3,e4⟩|⟨_,χ,_,q⟩
 ·cases e<;>simp only[retD]at e4<;>first
   |exact e4.elim
   |skip
  obtain⟨w3,h3,f1,f2,f3⟩:=delete_ok (ty:=ty) e4 e2 (Wz e1 _ _ hvm) (Wz e1 _ _ hvi);obtain⟨hp,h4,hsub,hR⟩:=f3;have hrs':rs=fn.results.toList:=by rw[hrs]
  rw[hrs']at hp hR;obtain⟨v,g1,g2⟩:=results_ok f2 e3 fn hp;refine .inr ⟨trivial,χ,e1,rfl,w3,?_,v,g1,χ,_,h4,χ.le_refl,f2.forget hsub,g2,hR⟩;rw[e3.defers];subst hdd;exact⟨.delete,ts,ty,_,undef,w3,rfl,by simpa[invoke,builtin]using XU f1,rfl⟩
 ·exact q.elim
theorem awp_put_deleteE{P:Program}{w0:World}{k id:Nat}{l:List Oper}{m i:Operand}{ts:Array TypeId}{ty:TypeId}{pos:String}{af:Array Edge}{rest:Code}{s:Slots}{h:AHeap}{fn:Func}{rs:List ResultVar}{R:AVal->AHeap->Prop}{Q:Exit->Slots->AHeap->Prop}{vm vi:AVal}(L:List Nat)(m0:Nat)
 (hl:l.drop m0=[⟨none, .defer ⟨.builtin .delete,[m,i].toArray,ts⟩,ty,pos,af,none⟩]) (hd:Xi k l=true) (hrs:fn.results=rs.toArray) (hmx:P.follows .mixedOrders=true) (hB:Region.lexTailB .any l.toArray m0=true) (hp:((l.take m0).all fun o=>XP P o.op)=true)
 (hc:∀K:Slots->AHeap->Prop,(∀s h,(∀d,Awp P w0 ⟨k,[d],fun _ _ _ _=>False⟩ rest (retD P w0 rs R ts vm vi) s h)->K s h)->QF P w0 l (l.take m0) s h (fun s' h'=>ev s' m=vm/\ev s' i=vi/\K (s'.keep L) h')):
 Awp P w0 ⟨k,[],GD P w0 fn R⟩ (.seq (.region id l.toArray true) rest) Q s h:=by
 have hlen:(l.take m0).length=m0:=by
  have:=congrArg List.length hl;rw[List.length_drop,List.length_singleton]at this;rw[List.length_take];omega
 exact awp_put_deleteD L (pre:=l.take m0) (by rw[<-hl,List.take_append_drop]) hd hrs hmx (by rw[hlen];exact hB) hp hc
end Go.AM
namespace Go.Cop
open Go.Col (Str FaultC okF)
open Go.Tok
set_option maxRecDepth 100000
def noT:TokC:=⟨0,[],0,0,false⟩
def alike:List TokC->List TokC->Bool
 |[],[]=>true
 |a::l,b::m=>(decide (a.kind=b.kind) && decide (a.text=b.text)) && alike l m
 |_,_=>false
def COPY:Str:=[67,79,80,89]
def BY:Str:=[66,89]
def Uj:Str:=[82,69,80,76,65,67,73,78,71]
structure RepC where
 old:List TokC
 new:List TokC
structure MemC where
 name:Str
 toks:List TokC
def Wn(l old:List TokC):Bool:=decide (old.length<=l.length) && alike old (l.take old.length)
def repGo(r:List RepC):Nat->List TokC->List TokC
 |0,_=>[]
 |_+1,[]=>[]
 |f+1,t::l=>match r.find? (fun x=>Wn (t::l) x.old)with
  |none=>t::repGo r f l
  |some x=>x.new++repGo r f ((t::l).drop x.old.length)
def qbN(r:List RepC)(l:List TokC):List TokC:=repGo r l.length l
def qcd(l:List TokC)(r:List RepC):List TokC×Int:=
 if r.any (fun x=>decide (x.old=[]))=true then([],1)
 else if 65536<(qbN r l).length then([],3)else(qbN r l,0)
def Zc(l:List TokC)(i:Nat)(ks:List UInt8):Bool:=decide (i<l.length) && ks.contains (l.getD i noT).kind
def ZZ(l:List TokC)(i:Nat)(s:Str):Bool:=Zc l i [1] && decide ((l.getD i noT).text=s)
structure Opd where
 ok:Bool
 lo:Nat
 hi:Nat
 at_:Nat
def Zn(l:List TokC)(i:Nat):Nat:=i+((l.drop i).takeWhile (fun t=> !decide (t.kind=7))).length
def QZ(l:List TokC)(i:Nat)(empty:Bool):Opd:=
 if Zc l i [1,2,3]=true then⟨true,i,i+1,i+1⟩
 else if Zc l i [7]=false then⟨false,0,0,i⟩
 else if Zn l (i+1)=l.length\/(empty=false/\Zn l (i+1)=i+1)then⟨false,0,0,Zn l (i+1)⟩
 else⟨true,i+1,Zn l (i+1),Zn l (i+1)+1⟩
def qbU(l:List TokC)(i j:Nat):List TokC:=(l.drop i).take (j-i)
structure Pair where
 ok:Bool
 rep:RepC
 at_:Nat
def YA(l:List TokC)(i:Nat):Pair:=
 let a:=QZ l i false
 if a.ok=false then⟨false,⟨[],[]⟩,a.at_⟩
 else if ZZ l a.at_ BY=false then⟨false,⟨[],[]⟩,a.at_⟩
 else
  let b:=QZ l (a.at_+1) true
  ⟨b.ok,⟨qbU l a.lo a.hi,qbU l b.lo b.hi⟩,b.at_⟩
structure Pairs where
 ok:Bool
 reps:List RepC
 at_:Nat
def Yz(l:List TokC):Nat->Nat->Bool->List RepC->Pairs
 |0,i,_,acc=>⟨true,acc,i⟩
 |f+1,i,first,acc=>
  if first=true\/(i<l.length/\Zc l i [6]=false)then
   (let p:=YA l i
   if p.ok=false then⟨false,[],p.at_⟩else Yz l f p.at_ false (acc++[p.rep]))
  else⟨true,acc,i⟩
structure Stm where
 ok:Bool
 name:TokC
 reps:List RepC
 at_:Nat
def noStm(i:Nat):Stm:=⟨false,noT,[],i⟩
def Ut(l:List TokC)(name:TokC)(p:Pairs):Stm:=
 if p.ok=false then noStm p.at_
 else if Zc l p.at_ [6]=false then noStm p.at_
 else⟨true,name,p.reps,p.at_+1⟩
def QT(l:List TokC)(i:Nat):Stm:=
 if Zc l i [1,3]=false then noStm i
 else Ut l (l.getD i noT) (if ZZ l (i+1) Uj=true then Yz l (l.length+2) (i+2) true []else⟨true,[],i+1⟩)
def Xo(l:List TokC)(i:Nat):Nat:=i+((l.drop i).takeWhile (fun t=> !(decide (t.kind=1) && decide (t.text=COPY)))).length
def qaN(l:List TokC)(copies at_:Nat):FaultC:=
 if at_<l.length then⟨4,(l.getD at_ noT).line,(l.getD at_ noT).col⟩else⟨4,(l.getD copies noT).line,(l.getD copies noT).col⟩
def addE(names:List Str)(s:Str):List Str:=if names.contains s=true then names else names++[s]
structure Xs where
 names:List Str
 copies:Nat
inductive Xr where
 |bad (f:FaultC)
 |ok (out:List TokC) (st:Xs)
def qcy(lim:Bool)(l:List TokC):Bool:=lim && decide (65536<l.length)
def qaK(lim:Bool)(mem:List MemC)(op:List Str)(rec:List TokC->List Str->Xs->Xr)(s:Stm)(st:Xs):Xr:=
 match mem.find? (fun m=>decide (m.name=s.name.text))with
 |none=> .bad ⟨7,s.name.line,s.name.col⟩
 |some m=>
  if op.contains s.name.text=true then .bad ⟨10,s.name.line,s.name.col⟩
  else if 8<=op.length\/(lim=true/\4096<st.copies+1)then .bad ⟨3,s.name.line,s.name.col⟩
  else match rec m.toks (op++[s.name.text]) ⟨addE st.names s.name.text,st.copies+1⟩with
   | .bad f=> .bad f
   | .ok l st'=>if qcy lim l=true then .bad ⟨3,s.name.line,s.name.col⟩else if qcy lim (qbN s.reps l)=true then .bad ⟨3,s.name.line,s.name.col⟩else .ok (qbN s.reps l) st'
def qbo(lim:Bool)(mem:List MemC)(op:List Str)(rec:List TokC->List Str->Xs->Xr)(l:List TokC):Nat->Nat->List TokC->Xs->Xr
 |0,_,out,st=> .ok out st
 |f+1,i,out,st=>
  let c:=Xo l i
  if l.length<=c then .ok (out++l.drop i) st
  else
   let s:=QT l (c+1)
   if s.ok=false then .bad (qaN l c s.at_)
   else match qaK lim mem op rec s st with
    | .bad f=> .bad f
    | .ok inner st'=>if qcy lim (out++qbU l i c++inner)=true then .bad ⟨3,s.name.line,s.name.col⟩else qbo lim mem op rec l f s.at_ (out++qbU l i c++inner) st'
def listE(lim:Bool)(mem:List MemC):Nat->List TokC->List Str->Xs->Xr
 |0,l,op,st=>qbo lim mem op (fun _ _ st=> .ok [] st) l (l.length+1) 0 [] st
 |d+1,l,op,st=>qbo lim mem op (listE lim mem d) l (l.length+1) 0 [] st
def WJ(lim:Bool)(l:List TokC)(mem:List MemC):Xr:=listE lim mem 8 l [] ⟨[],0⟩
def qdm(l:List TokC):Nat->Nat->List Str->List Str×FaultC
 |0,_,names=>(names,okF)
 |f+1,i,names=>
  let c:=Xo l i
  if l.length<=c then(names,okF)
  else
   let s:=QT l (c+1)
   if s.ok=false then([],qaN l c s.at_)
   else qdm l f s.at_ (addE names s.name.text)
def usesE(l:List TokC):List Str×FaultC:=qdm l (l.length+1) 0 []
end Go.Cop
namespace Go.Cop
open Go.Col (Str FaultC okF)
open Go.Tok
set_option maxRecDepth 100000
theorem drop_cons{α:Type}(d:α){l:List α}{i:Nat}(hi:i<l.length):l.drop i=l.getD i d::l.drop (i+1):=by
 rw[List.drop_eq_getElem_cons hi];simp[List.getD,hi]
theorem fitsR_len{l o:List TokC}(h:Wn l o=true):o.length<=l.length:=by
 unfold Wn at h;simp only[Bool.and_eq_true,decide_eq_true_eq]at h;exact h.1
theorem repGo_fuel{r:List RepC}(hr:∀x∈r,x.old≠[]):∀(f g:Nat) (l:List TokC),l.length<=f->l.length<=g->repGo r f l=repGo r g l
 |0,g,l,hf,_=>by
  rw[List.eq_nil_of_length_eq_zero (by omega:l.length=0)];cases g<;>rfl
 |f+1,0,l,_,hg=>by
  rw[List.eq_nil_of_length_eq_zero (by omega:l.length=0)];rfl
 |f+1,g+1,[],_,_=>rfl
 |f+1,g+1,t::l,hf,hg=>by
  simp only[List.length_cons]at hf hg;simp only[repGo];cases hq:r.find? (fun x=>Wn (t::l) x.old)with
  |none=>simp only;rw[repGo_fuel hr f g l (by omega) (by omega)]
  |some x=>
   simp only;have hx:0<x.old.length:=List.length_pos_iff.2 (hr x (List.mem_of_find?_eq_some hq));have hd:((t::l).drop x.old.length).length<=l.length:=by simp;omega
   rw[repGo_fuel hr f g _ (by omega) (by omega)]
theorem repE_nil(r:List RepC):qbN r []=[]:=rfl
theorem repE_step{r:List RepC}(hr:∀x∈r,x.old≠[]){l:List TokC}{i:Nat}(hi:i<l.length):qbN r (l.drop i)=match r.find? (fun x=>Wn (l.drop i) x.old)with
 |none=>l.getD i noT::qbN r (l.drop (i+1))
 |some x=>x.new++qbN r (l.drop (i+x.old.length)):=by
 unfold qbN;have e:=drop_cons noT hi;rw[show(l.drop i).length=(l.drop (i+1)).length+1 by simp;omega];rw[e];simp only[repGo];rw[<-e];cases hq:r.find? (fun x=>Wn (l.drop i) x.old)with
 |none=>rfl
 |some x=>
  simp only;have hx:0<x.old.length:=List.length_pos_iff.2 (hr x (List.mem_of_find?_eq_some hq));rw[List.drop_drop,repGo_fuel hr _ _ (l.drop (i+x.old.length)) (by simp;omega) (Nat.le_refl _)]
theorem find_idx{r:List RepC}{p:RepC->Bool}:(r.findIdx? p=none/\r.find? p=none)\/∃i x,r.findIdx? p=some i/\r.find? p=some x/\i<r.length/\r[i]?=some x:=by
 cases h:r.findIdx? p with
 |none=>
  left;refine⟨rfl,?_⟩;rw[List.findIdx?_eq_none_iff]at h;rw[List.find?_eq_none];intro x hx;simp[h x hx]
 |some i=>
  right;rw[List.findIdx?_eq_some_iff_getElem]at h;obtain⟨h1,h2,h3⟩:=h;refine⟨i,r[i],rfl,?_,h1,by simp[h1]⟩;rw[List.find?_eq_some_iff_getElem];exact⟨h2,i,h1,rfl,fun j hj=>by simpa using h3 j hj⟩
theorem Ud{l:List TokC}{i:Nat}{ks:List UInt8}(h:Zc l i ks=true):i<l.length:=by
 unfold Zc at h;simp only[Bool.and_eq_true,decide_eq_true_eq]at h;exact h.1
theorem qbM{α:Type}(p:α->Bool):∀l:List α,(l.takeWhile p).length<=l.length
 |[]=>Nat.le_refl _
 |a::l=>by
  rw[List.takeWhile_cons];split
  ·simp;exact qbM p l
  ·simp
theorem pseudoEnd_le{l:List TokC}{i:Nat}(h:i<=l.length):i<=Zn l i/\Zn l i<=l.length:=by
 unfold Zn;have:=qbM (fun t:TokC=> !decide (t.kind=7)) (l.drop i);rw[List.length_drop]at this;omega
theorem qaZ{l:List TokC}{i:Nat}(h:i<=l.length):i<=Xo l i/\Xo l i<=l.length:=by
 unfold Xo;have:=qbM (fun t:TokC=> !(decide (t.kind=1) && decide (t.text=COPY))) (l.drop i);rw[List.length_drop]at this;omega
theorem qcO{l:List TokC}{i:Nat}{e:Bool}(h:i<=l.length):i<=(QZ l i e).at_/\(QZ l i e).at_<=l.length/\((QZ l i e).ok=true->i<(QZ l i e).at_/\(QZ l i e).lo<=(QZ l i e).hi/\(QZ l i e).hi<=l.length/\(e=false->(QZ l i e).lo<(QZ l i e).hi)):=by
 unfold QZ;split
 ·rename_i h1
  have:=Ud h1;exact⟨by simp only;omega,by simp only;omega,fun _=>⟨by simp only;omega,by simp only;omega,by simp only;omega,fun _=>by simp only;omega⟩⟩
 ·split
  ·exact⟨Nat.le_refl _,h,fun q=>by cases q⟩
  ·rename_i h2
   have h2':Zc l i [7]=true:=by simpa using h2
   have hl:=Ud h2';obtain⟨p1,p2⟩:=pseudoEnd_le (l:=l) (i:=i+1) (by omega);split
   ·exact⟨by simp only;omega,p2,fun q=>by cases q⟩
   ·rename_i h3
    have hne:Zn l (i+1)≠l.length:=fun q=>h3 (.inl q);refine⟨by simp only;omega,by simp only;omega,fun _=>⟨by simp only;omega,p1,p2,fun he=>?_⟩⟩;simp only;have:Zn l (i+1)≠i+1:=fun q=>h3 (.inr ⟨he,q⟩);omega
theorem pair_at{l:List TokC}{i:Nat}(h:i<=l.length):i<=(YA l i).at_/\(YA l i).at_<=l.length/\((YA l i).ok=true->i<(YA l i).at_/\(YA l i).rep.old≠[]):=by
 obtain⟨a1,a2,a3⟩:=qcO (e:=false) h;unfold YA;simp only;split
 ·exact⟨a1,a2,fun q=>by cases q⟩
 ·rename_i h1
  have h1':(QZ l i false).ok=true:=by simpa using h1
  obtain⟨b1,b2,b3,b4⟩:=a3 h1';split
  ·exact⟨a1,a2,fun q=>by cases q⟩
  ·rename_i h2
   have h2':ZZ l (QZ l i false).at_ BY=true:=by simpa using h2
   have hl:(QZ l i false).at_<l.length:=by
    unfold ZZ at h2';simp only[Bool.and_eq_true]at h2';exact Ud h2'.1
   obtain⟨c1,c2,c3⟩:=qcO (l:=l) (i:=(QZ l i false).at_+1) (e:=true) (by omega);refine⟨by simp only;omega,c2,fun _=>⟨by simp only;omega,?_⟩⟩;simp only[qbU];intro q;have:=congrArg List.length q;have:=b4 rfl;simp at*
   omega
theorem pairs_at{l:List TokC}:∀(f i:Nat) (first:Bool) (acc:List RepC),i<=l.length->(∀x∈acc,x.old≠[])->i<=(Yz l f i first acc).at_/\(Yz l f i first acc).at_<=l.length/\∀x∈(Yz l f i first acc).reps,x.old≠[]
 |0,i,first,acc,h,ha=>⟨Nat.le_refl _,h,ha⟩
 |f+1,i,first,acc,h,ha=>by
  rw[Yz];split
  ·obtain⟨p1,p2,p3⟩:=pair_at h
   simp only;split
   ·exact⟨p1,p2,fun x hx=>by cases hx⟩
   ·rename_i hok
    obtain⟨p4,p5⟩:=p3 (by simpa using hok);obtain⟨q1,q2,q3⟩:=pairs_at f (YA l i).at_ false (acc++[(YA l i).rep]) p2 (fun x hx=>by
     rcases List.mem_append.1 hx with hx|hx
     ·exact ha x hx
     ·rw[List.mem_singleton.1 hx];exact p5)
    exact⟨by omega,q2,q3⟩
  ·exact⟨Nat.le_refl _,h,ha⟩
theorem wordAt_lt{l:List TokC}{i:Nat}{s:Str}(h:ZZ l i s=true):i<l.length:=by
 unfold ZZ at h;simp only[Bool.and_eq_true]at h;exact Ud h.1
theorem Wp{l:List TokC}{i:Nat}(h:i<=l.length):i<=(QT l i).at_/\(QT l i).at_<=l.length/\((QT l i).ok=true->i<(QT l i).at_)/\∀x∈(QT l i).reps,x.old≠[]:=by
 unfold QT;split
 ·exact⟨Nat.le_refl _,h,(fun q=>by cases q),(fun x hx=>by cases hx)⟩
 ·rename_i h1
  have hl:=Ud (show Zc l i [1,3]=true by simpa using h1);have key:∀p:Pairs,i+1<=p.at_->p.at_<=l.length->(∀x∈p.reps,x.old≠[])->i<=(Ut l (l.getD i noT) p).at_/\(Ut l (l.getD i noT) p).at_<=l.length/\((Ut l (l.getD i noT) p).ok=true->i<(Ut l (l.getD i noT) p).at_)/\∀x∈(Ut l (l.getD i noT) p).reps,x.old≠[]:=by
   intro p p1 p2 p3;unfold Ut;split
   ·exact⟨by simp only[noStm];omega,p2,(fun q=>by cases q),(fun x hx=>by cases hx)⟩
   ·split
    ·exact⟨by simp only[noStm];omega,p2,(fun q=>by cases q),(fun x hx=>by cases hx)⟩
    ·rename_i h3
     have:=Ud (show Zc l p.at_ [6]=true by simpa using h3);exact⟨by simp only;omega,by simp only;omega,fun _=>by simp only;omega,p3⟩
  split
  ·rename_i h2
   have hw:=wordAt_lt h2;obtain⟨q1,q2,q3⟩:=pairs_at (l:=l) (l.length+2) (i+2) true [] (by omega) (fun x hx=>by cases hx);exact key _ (by omega) q2 q3
  ·exact key _ (Nat.le_refl _) (by simp only;omega) (fun x hx=>by cases hx)
end Go.Cop
namespace Go.Cop
open Go.Col (Str FaultC okF)
open Go.Tok
set_option maxRecDepth 100000
theorem faultAt_ne(l:List TokC)(c a:Nat):qaN l c a≠okF:=by
 unfold qaN;split<;>simp[okF]
section
variable {lim:Bool} {mem:List MemC}
end
end Go.Cop
namespace Go.Cop
open Go.Col (Str FaultC okF)
open Go.Tok
set_option maxRecDepth 100000
section
variable {lim:Bool} {mem:List MemC}
def memOf(mem:List MemC)(s:Str):Option MemC:=mem.find? (fun m=>decide (m.name=s))
end
end Go.Cop
namespace Go.Cop
open Go.Col (Str FaultC okF)
open Go.Tok
set_option maxRecDepth 100000
def isCopy(t:TokC):Bool:=decide (t.kind=1) && decide (t.text=COPY)
section
variable {lim:Bool} {mem:List MemC}
end
end Go.Cop
namespace Go.Cop
open Go.Col (Str FaultC okF)
open Go.Tok
set_option maxRecDepth 100000
theorem pairs_fuel(l:List TokC):∀(f g i:Nat) (first:Bool) (acc:List RepC),i<=l.length->l.length+1<=f+i->l.length+1<=g+i->Yz l f i first acc=Yz l g i first acc
 |0,g,i,first,acc,h,hf,hg=>by omega
 |f+1,0,i,first,acc,h,hf,hg=>by omega
 |f+1,g+1,i,first,acc,h,hf,hg=>by
  rw[Yz,Yz];split
  ·obtain⟨p1,p2,p3⟩:=pair_at h
   simp only;split
   ·rfl
   ·rename_i hok
    obtain⟨p4,_⟩:=p3 (by simpa using hok);exact pairs_fuel l f g _ _ _ p2 (by omega) (by omega)
  ·rfl
section
variable {c b:List TokC}
end
end Go.Cop
namespace Go.Cop
open Go.Col (Str FaultC okF)
open Go.Tok
set_option maxRecDepth 100000
def wd(s:Str):TokC:=⟨1,s,0,0,false⟩
def perC:TokC:=⟨6,[46],0,0,false⟩
def psC:TokC:=⟨7,[61,61],0,0,false⟩
def numC:TokC:=⟨2,[53],0,0,false⟩
def quoC(s:Str):TokC:=⟨3,s,0,0,false⟩
def plainC:List TokC:=[wd [65],wd [66],wd [67],wd BY,numC,quoC [65],perC,⟨5,[40],0,0,false⟩]
def pairsC:List (List TokC):=[
 [wd [65],wd BY,wd [66]],
 [wd [66],wd BY,wd [65],wd [65],wd BY,wd [67]],
 [psC,wd [65],wd [66],psC,wd BY,psC,psC],
 [psC,wd [65],psC,wd BY,psC,wd [65],wd [65],psC],
 [numC,wd BY,psC,wd COPY,wd [77,49],perC,psC],
 [psC,perC,psC,wd BY,quoC [88],psC,wd [67],psC,wd BY,wd [67]]]
def nameC(n:Nat):Str:=if n=255 then[77,57]else[77,UInt8.ofNat (48+n%8)]
def chunkC(n:Nat):List TokC:=
 if n<160 then[plainC.getD (n%8) noT]
 else wd COPY::wd (nameC n)::((if 200<=n then wd Uj::pairsC.getD (n%6) []else[])++(if n=254 then[]else[perC]))
def rawC(ns:List Nat):List TokC:=ns.flatMap chunkC
def clsT(t:TokC):Bool:=(decide (t.kind=1) && [[65],[66],[67],BY].contains t.text)||(decide (t.kind=2) && decide (t.text=[53]))||(decide (t.kind=3) && decide (t.text=[65]))
def W:Nat->TokC->Nat
 |0,_=>1
 |j+1,t=>if clsT t=true then 3*2^j else 1
end Go.Cop
namespace Go.Cop
open Go.Col (Str FaultC okF)
open Go.Tok
set_option maxRecDepth 100000
end Go.Cop
namespace Go.Cop
open Go.Col (Str FaultC okF)
open Go.Tok
set_option maxRecDepth 100000
def strip(t:TokC):TokC:=⟨t.kind,t.text,0,0,false⟩
section
variable (l:List TokC)
end
def X:Nat->Nat
 |0=>6144
 |1=>768
 |2=>96
 |_=>12
def Y:Nat->Nat
 |0=>73
 |1=>9
 |2=>1
 |_=>0
structure Lib(mem:List MemC):Prop where
 few:∀op:List Str,op.Nodup->(∀x∈op,memOf mem x≠none)->op.length<=3
 raw:∀n m,memOf mem n=some m->∃ns,m.toks.map strip=rawC ns/\ns.length<=8/\∀n∈ns,n<256
section
variable {mem:List MemC} (hL:Lib mem)
include hL
end
end Go.Cop
namespace Go.Cop
open Go.Col (Str FaultC okF)
open Go.Tok
set_option maxRecDepth 100000
end Go.Cop
namespace Go.Cop
open Go.Col (Str FaultC okF sp)
open Go.Tok
set_option maxRecDepth 100000
section
variable {c n p:TokC} (hc:isCopy c=true) (hst:QT [c,n,p] 1=⟨true,n,[],3⟩)
include hc hst
end
end Go.Cop
namespace Go.Cop
open Go.Col (Str FaultC okF sp)
open Go.Tok
set_option maxRecDepth 100000
def YT(s:Str):List TokC:=(sourceE (sp 11++s) false).1
def qau(n i:Nat)(again:Bool):Str:=[88,32]++(if i+1=n then(if again then[67,79,80,89,32,78,65,46]else[89])else[67,79,80,89,32,78,UInt8.ofNat (66+i),46,32,89])
def UE(i:Nat):Str:=[78,UInt8.ofNat (65+i)]
def qap(n:Nat)(again:Bool):List MemC:=(List.range n).map fun i=>⟨UE i,YT (qau n i again)⟩
def deepE(n:Nat)(again:Bool):Xr:=WJ true (YT [67,79,80,89,32,78,65,46]) (qap n again)
def deepOk(n:Nat)(again:Bool):Bool:=
 match deepE n again with
 | .bad f=>if 8<n then decide (f.e=3)else again && decide (f.e=10)
 | .ok out st=>decide (n<=8) && (!again && (decide (out.length=2*n) && (decide (st.names=(List.range n).map UE) && (List.range n).all fun i=>
    decide ((out.getD i noT).text=[88]) && (decide ((out.getD (n+i) noT).text=[89]) && decide (usesE (YT (qau n i again))=((if i+1=n then[]else[UE (i+1)]),okF))))))
theorem deep_law:∀k:Fin 12,deepOk (k.val+1) false=true/\deepOk (k.val+1) true=true:=by decide+kernel
def qcl:List MemC:=[⟨[65],YT [48,53,32,88,32,80,73,67,32,57,40,51,41,46]⟩,⟨[66],YT [48,49,32,82,46,32,67,79,80,89,32,65,32,82,69,80,76,65,67,73,78,71,32,88,32,66,89,32,89,46]⟩]
end Go.Cop
namespace Go.Cop
open Go.Col Go.Tok
end Go.Cop
namespace Go.Proofs.YtlhhaagmakhilaaGreatDoor
open Go.AM
open Go.Proofs
open Go.Col
open Go.Tok
open Go.Cop
open Go.RowKit (Below)
set_option maxRecDepth 100000
theorem noT_bad:noT=Uh:=rfl
def kinC(k:UInt8):List AVal:=[.int .u8 k.toNat]
theorem kin_len{w0:World}{h:AHeap}{v:AVal}{ks:List UInt8}(hv:IsL w0 h 1 v (ks.map kinC)):∀H:AHeap,ZU Tryz.prog H 159 v=⟨True, .int .i64 ks.length⟩:=by
 have:=hv.len Tryz.underlying159
 rwa [List.length_map]at this
theorem kin_open{w0:World}{h:AHeap}{v:AVal}{ks:List UInt8}(hv:IsL w0 h 1 v (ks.map kinC))(hn:0<ks.length):∃lc o c,v= .slice lc o ks.length c:=by
 obtain⟨lc,o,c,e⟩:=hv.open (fun e=>by rw[List.map_eq_nil_iff]at e;subst e;simp at hn);rw[List.length_map]at e;exact⟨lc,o,c,e⟩
theorem kin_at{w0:World}{h:AHeap}{ks:List UInt8}{lc:AM.Loc}{o:Nat}{c:Cap}(hv:IsL w0 h 1 (.slice lc o ks.length c) (ks.map kinC)){i:Nat}(hi:i<ks.length):rd w0 h lc (o+i*1)= .int .u8 (ks.getD i 0).toNat:=by
 have he:=hv.at0 (i:=i) (by rw[List.length_map];exact hi) (by decide);rw[getD_map (ys:=ks) 0 hi]at he;exact he
theorem c_indexK(w0:World)(h:AHeap)(v:AVal)(ks:List UInt8)(x:UInt8)(hv:IsL w0 h 1 v (ks.map kinC))(hl:ks.length<=1000):
 ACall Tryz.prog w0 114 [v, .int .u8 x.toNat] h (fun r h'=>(∃n:Int,r= .int .i64 n/\decide (0<=n)=ks.contains x)/\h'=h):=by
 have hlv:=hv.live;have nv:=kin_len hv;refine qR (n:=19) (rs:=[.tmp 4]) Tryz.func114 rfl rfl rfl rfl (Nat.le_of_ble_eq_true rfl) ?_;simp only[Qd];refine awp_rseq [0,1] (by rfl) fun K hK=>?_;simp+decide only[qa,ev,qJ,qG,putD,Slots.put,Slots.keep,if_true,if_false,true_and,↓qd,qb,Nat.zero_add];apply hK;clear hK K;refine qO ?_;refine awp_rseq [0,1,7,8] (by rfl) fun K hK=>?_;simp+decide only[qa,ev,qJ,qG,putD,Slots.put,Slots.get,Slots.keep,if_true,if_false,true_and,↓qj,qf,↓Xz,QK,nv];apply hK;clear hK K;refine Qv ?_;refine XE [0,1,7,8] (fun i:Nat=>[(0,v),(1, .int .u8 x.toNat),(7, .int .i64 ks.length),(8, .int .i64 i)]) (fun i:Nat=>h) (fun i:Nat=>i<=ks.length/\(ks.take i).contains x=false) (fun i:Nat=>ks.length-i) 0 (by rfl) (Sub.refl _) ⟨Nat.zero_le _,by simp⟩ ?_;rintro i ⟨hi,hq⟩;refine awp_rseq [0,1,7,8,9] (by rfl) fun K hK=>?_;simp+decide only[qa,ev,putD,Slots.put,Slots.get,Slots.keep,if_true,if_false,true_and,↓qB,qm,qV,cond_false,qz,XZ];apply hK;clear hK K;refine qO (qK (b:=_) rfl (fun hb1=>?_) (fun hb1=>?_))
 ·try simp only[decide_eq_true_eq]at hb1
  have hi':i<ks.length:=by omega
  obtain⟨lc,o,c,rfl⟩:=kin_open hv (by omega);have e0:=kin_at hv hi';rw[Nat.mul_one]at e0;refine qW ?_;change Awp _ _ _ _ _ _ _;refine qO ?_;refine Qv ?_;refine awp_rseq [0,1,5,7,8] (by rfl) fun K hK=>?_;simp+decide only[qa,ev,putD,Slots.put,Slots.get,Slots.keep,if_true,if_false,true_and,↓qj,qf,↓qd,qb];apply hK;clear hK K;refine awp_rseq [0,1,5,7,8,16] (by rfl) fun K hK=>?_;simp+decide only[qa,ev,putD,Slots.put,Slots.get,Slots.keep,if_true,if_false,true_and,↓qj,qf,↓Xg,Qa,Qk Tryz.underlying159 sz52,↓qF,qw ag52,↓qB,qm,qV,cond_false,qz,XB,qh,e0,Int.toNat_natCast,Nat.mul_one];repeat (with_reducible refine And.intro ?_ ?_;· first|trivial|omega|(intro hg;simp only[Bool.and_eq_true,Bool.or_eq_true,Bool.not_eq_true',Bool.and_eq_false_iff,Bool.or_eq_false_iff,Bool.not_eq_false',decide_eq_true_eq,decide_eq_false_iff_not,Zd]at hg;omega))
  apply hK;clear hK K;refine qK (b:=_) rfl (fun hb2=>?_) (fun hb2=>?_)
  ·try simp only[decide_eq_true_eq]at hb2
   refine awp_rseq [4] (by rfl) fun K hK=>?_;simp+decide only[qa,ev,putD,Slots.put,Slots.get,Slots.keep,if_true,if_false,true_and,↓qj,qf,↓qd,qb];apply hK;clear hK K;refine qN ?_;try simp only[Qf,Qp]
   refine qY h (by repeat (first|exact Sub.refl _|assumption|refine Sub.trans_set ?_ (by assumption))) (Qb (Qe)) ?_;simp+decide only[Slots.get,if_true,and_true,Qw];refine⟨i,rfl,?_⟩;have hx:x=ks.getD i 0:=UInt8.toNat_inj.1 (by omega);have hm:ks.contains x=true:=by
    rw[List.contains_iff_mem,hx,List.getD,List.getElem?_eq_getElem hi'];exact List.getElem_mem hi'
   rw[hm,decide_eq_true_eq];omega
  ·try simp only[decide_eq_false_iff_not]at hb2
   refine qW ?_;change Awp _ _ _ _ _ _ _;refine XI [0,1,7,8] (by rfl) ?_;simp+decide only[qa,ev,qJ,qG,putD,Slots.put,Slots.get,Slots.keep,if_true,if_false,true_and,↓qB,qm,qD,cond_false,qz,Xa,↓qj,qf];try simp(disch:=omega)only[wrap_i64]
   try simp only[Qj]
   refine⟨i+1,rfl,Sub.refl _,⟨hi',?_⟩,by omega⟩;rw[List.take_add_one,List.getElem?_eq_getElem hi'];have hx:ks[i]≠x:=fun e=>hb2 (by rw[List.getD,List.getElem?_eq_getElem hi',<-e];rfl);simp only[Option.toList_some,List.contains_eq_mem,List.mem_append,List.mem_singleton,decide_eq_false_iff_not,not_or]at hq|-
   exact⟨hq,fun e=>hx e.symm⟩
 ·try simp only[decide_eq_false_iff_not]at hb1
  refine XJ ?_;change Awp _ _ _ _ _ _ _;refine awp_rseq [4] (by rfl) fun K hK=>?_;simp+decide only[qa,ev,qJ,qG,putD,Slots.put,Slots.keep,if_true,if_false,true_and,↓qd,qb];apply hK;clear hK K;refine qN ?_;refine qY h (by repeat (first|exact Sub.refl _|assumption|refine Sub.trans_set ?_ (by assumption))) (Qb (Qe)) ?_;simp+decide only[Slots.get,if_true,and_true,Qw];refine⟨-1,rfl,?_⟩;rw[List.take_of_length_le (by omega)]at hq;rw[hq];rfl
theorem c_containsK(w0:World)(h:AHeap)(v:AVal)(ks:List UInt8)(x:UInt8)(hv:IsL w0 h 1 v (ks.map kinC))(hl:ks.length<=1000):
 ACall Tryz.prog w0 84 [v, .int .u8 x.toNat] h (fun r h'=>r= .bool (ks.contains x)/\h'=h):=by
 have hlv:=hv.live;refine qR (n:=9) (rs:=[.tmp 4]) Tryz.func84 rfl rfl rfl rfl (Nat.le_of_ble_eq_true rfl) ?_;simp only[Qd];refine awp_rseq [0,1] (by rfl) fun K hK=>?_;simp+decide only[qa,ev,qJ,qG,putD,Slots.put,Slots.keep,if_true,if_false,true_and,↓qd,qb,Nat.zero_add];apply hK;clear hK K;refine awp_rseq [4] (by rfl) fun K hK=>?_;simp+decide only[ev,putD,Slots.put,Slots.get,if_true,if_false,true_and,↓qj,qf];refine QH (by rfl) (by rfl) (c_indexK w0 _ v ks x hv hl) fun x1q2 h1q2 hx1q2=>?_;obtain⟨⟨n,rfl,hn⟩,he⟩:=hx1q2;subst h1q2;simp+decide only[qa,ev,qJ,qG,putD,Slots.put,Slots.get,Slots.keep,if_true,if_false,true_and,↓qB,qm,qD,cond_false,qz,qaC,↓qd,qb];apply hK;clear hK K;refine qN ?_;refine qY h (by repeat (first|exact Sub.refl _|assumption|refine Sub.trans_set ?_ (by assumption))) (Qb (Qe)) ?_;simp+decide only[Slots.get,if_true,and_true,Qw];rw[<-hn]
def parB(v:AVal)(i:Nat):Blk:=⟨[v, .int .i64 i],0⟩
theorem c_isIn(w0:World)(h:AHeap)(kp:Nat)(v:AVal)(l:List TokC)(i:Nat)(kv:AVal)(ks:List UInt8)(hk:h kp=some (parB v i))(hv:IsL w0 h 5 v (l.map Xw))(hkv:IsL w0 h 1 kv (ks.map kinC))(hks:ks.length<=1000)(hi:i<l.length):
 ACall Tryz.prog w0 66 [.ptr (.own kp) 0,kv] h (fun r h'=>r= .bool (Zc l i ks)/\h'=h):=by
 have rx:=fun o=>Qr w0 hk o;unfold parB at rx;have hlv:=hv.live;have hlk:=hkv.live;have nv:=Zy hv;obtain⟨lc,o,c,rfl⟩:=UI hv (by omega);obtain⟨e0,-,-,-,-⟩:=qbd hv hi;have hki:Zc l i ks=ks.contains (l.getD i noT).kind:=by unfold Zc;rw[decide_eq_true hi,Bool.true_and]
 rw[hki,noT_bad];refine qR (n:=30) (rs:=[.tmp 4]) Tryz.func66 rfl rfl rfl rfl (Nat.le_of_ble_eq_true rfl) ?_;simp only[Qd];refine awp_rseq [0,1] (by rfl) fun K hK=>?_;simp+decide only[qa,ev,qJ,qG,putD,Slots.put,Slots.keep,if_true,if_false,true_and,↓qd,qb,Nat.zero_add];apply hK;clear hK K;refine Wv [4] mixed (by kernel_rfl) (by rfl) fun K hK=>?_;simp+decide only[ev,putD,Slots.put,Slots.get,if_true,if_false,true_and,↓qcu,qf,↓qbD,qL,Ql,↓Ua,ql,Yr,↓vp_load,Zp,qw ag3,UC,qw UF,↓vp_len,QK,Zj Tryz.underlying26,↓vp_binOp,qm,qV,cond_false,qz,XZ,↓vg_move,vgP,qbY,qI,qH,qy,implies_true,↓qdl,qbu,qbv,↓UG,Zt,Zu,↓vg_load,Um,cv_load,cp_load,↓vg_indexAddr,Qk Tryz.underlying26 Xk,cv_iaddrl,cv_iaddrr,cp_iaddrl,cp_iaddrr,fa54_0,qw ag52,List.getD_cons_zero,List.getD_cons_succ,Nat.zero_add,qh,rx,hlv,e0,Int.toNat_natCast,Nat.add_zero];repeat (with_reducible refine And.intro ?_ ?_;· first|trivial|omega|(intro hg;simp only[Bool.and_eq_true,Bool.or_eq_true,Bool.not_eq_true',Bool.and_eq_false_iff,Bool.or_eq_false_iff,Bool.not_eq_false',decide_eq_true_eq,decide_eq_false_iff_not,Zd]at hg;omega))
 refine qcv (V:= .bool (ks.contains (l.getD i Uh).kind)) (f:=_) (cap:=_) (xs:=_) (by first|rfl|(simp+decide only[gv,qI,Slots.get,if_true,if_false,QR,qH])) (fun hg=>⟨rfl,?_⟩) (fun hg=>c_containsK w0 _ kv ks _ hkv hks) ?_
 ·try simp+decide only[gv,qI,Slots.get,if_true,if_false,qy]at hg
  simp+decide only[evs,ev,Slots.get,if_true,if_false,hg,Qo,List.append_nil,List.map_cons,List.map_nil]
 simp+decide only[qbc,ev,qJ,qG,putD,Slots.put,Slots.get,Slots.keep,if_true,if_false,true_and,gv,qI,qy,↓vp_pick,Qt,Qh,Xm,Xl,↓qbW,qb];apply hK;clear hK K;refine qN ?_;refine qY h (by repeat (first|exact Sub.refl _|assumption|refine Sub.trans_set ?_ (by assumption))) (Qb (Qe)) ?_;simp+decide only[Slots.get,if_true,and_true,Qw];rw[decide_eq_true (by omega),Bool.true_and]
theorem c_isOut(w0:World)(h:AHeap)(kp:Nat)(v:AVal)(l:List TokC)(i:Nat)(kv:AVal)(ks:List UInt8)(hk:h kp=some (parB v i))(hv:IsL w0 h 5 v (l.map Xw))(hlk:kv.live=true)(hi:¬i<l.length):
 ACall Tryz.prog w0 66 [.ptr (.own kp) 0,kv] h (fun r h'=>r= .bool (Zc l i ks)/\h'=h):=by
 have rx:=fun o=>Qr w0 hk o;unfold parB at rx;have hlv:=hv.live;have nv:=Zy hv;have hki:Zc l i ks=false:=by unfold Zc;rw[decide_eq_false hi,Bool.false_and]
 rw[hki];have hge:¬((i:Int)<l.length):=by omega
 refine qR (n:=30) (rs:=[.tmp 4]) Tryz.func66 rfl rfl rfl rfl (Nat.le_of_ble_eq_true rfl) ?_;simp only[Qd];refine awp_rseq [0,1] (by rfl) fun K hK=>?_;simp+decide only[qa,ev,qJ,qG,putD,Slots.put,Slots.keep,if_true,if_false,true_and,↓qd,qb,Nat.zero_add];apply hK;clear hK K;refine Wv [4] mixed (by kernel_rfl) (by rfl) fun K hK=>?_;simp+decide only[ev,putD,Slots.put,Slots.get,if_true,if_false,true_and,↓qcu,qf,↓qbD,qL,Ql,↓Ua,ql,Yr,↓vp_load,Zp,qw ag3,UC,qw UF,↓vp_len,QK,↓vp_binOp,qm,qV,cond_false,qz,XZ,↓vg_move,vgP,qbY,qI,qH,qy,implies_true,decide_false,Zm,false_implies,↓qdl,↓UG,↓vg_load,Um,↓vg_indexAddr,List.getD_cons_zero,List.getD_cons_succ,Nat.zero_add,qh,rx,hlv,nv,hge];refine vOps_gno (by rfl) ?_;simp+decide only[qbc,ev,qJ,qG,putD,Slots.put,Slots.get,Slots.keep,if_true,if_false,true_and,↓vp_pick,Qt,Qh,↓qbW,qb];apply hK;clear hK K;refine qN ?_;refine qY h (by repeat (first|exact Sub.refl _|assumption|refine Sub.trans_set ?_ (by assumption))) (Qb (Qe)) ?_;simp+decide only[Slots.get,if_true,and_true,Qw];all_goals first|rfl|exact⟨rfl,rfl⟩|(simp+decide only[if_true,if_false, *];done)|(trace_state;fail)
theorem c_is(w0:World)(h:AHeap)(kp:Nat)(v:AVal)(l:List TokC)(i:Nat)(kv:AVal)(ks:List UInt8)(hk:h kp=some (parB v i))(hv:IsL w0 h 5 v (l.map Xw))(hkv:IsL w0 h 1 kv (ks.map kinC))(hks:ks.length<=1000):
 ACall Tryz.prog w0 66 [.ptr (.own kp) 0,kv] h (fun r h'=>r= .bool (Zc l i ks)/\h'=h):=by
 by_cases hi:i<l.length
 ·exact c_isIn w0 h kp v l i kv ks hk hv hkv hks hi
 ·exact c_isOut w0 h kp v l i kv ks hk hv hkv.live hi
end Go.Proofs.YtlhhaagmakhilaaGreatDoor
namespace Go.Proofs.YtlhhaagmakhilaaGreatDoor
open Go.AM
open Go.Proofs
open Go.Col
open Go.Tok
open Go.Cop
open Go.RowKit (Below)
set_option maxRecDepth 100000
theorem set_id{h:AHeap}{k:Nat}{b:Blk}(hk:h k=some b):h.set k b=h:=by
 funext j;by_cases e:j=k
 ·subst e;rw[AHeap.set_same,hk]
 ·rw[AHeap.set_ne _ _ e]
theorem qaM{w0:World}{H:AHeap}{k:Nat}{ks:List UInt8}(hk:H k=some ⟨byteCells ks,0⟩):IsL w0 H 1 (.slice (.own k) 0 ks.length (.exact ks.length)) (ks.map kinC):=by
 have hw:∀x∈ks.map kinC,x.length=1:=fun x hx=>by obtain⟨y,_,rfl⟩:=List.mem_map.1 hx;rfl
 have hc:byteCells ks=(ks.map kinC).flatten:=by
  clear hk hw;induction ks with
  |nil=>rfl
  |cons k ks ih=>rw[List.map_cons,List.flatten_cons,<-ih];rfl
 have:=IsL.own (w0:=w0) (es:=1) (xs:=ks.map kinC) hk hw hc (by rw[Yv];intro x hx;obtain⟨y,_,rfl⟩:=List.mem_map.1 hx;rfl) (.exact ks.length) (by simp)
 rwa [List.length_map]at this
theorem c_wordPIn(w0:World)(h:AHeap)(kp:Nat)(v:AVal)(l:List TokC)(i:Nat)(s:Str)(eb_p:h kp=some ⟨[v, .int .i64 i],0⟩)(hv:IsL w0 h 5 v (l.map Xw))(hl:l.length<=1099511627776)(hi:i<l.length):
 ACall Tryz.prog w0 51 [.ptr (.own kp) 0, .str s] h (fun r h'=>r= .bool (ZZ l i s)/\h'=h.set kp ⟨[v, .int .i64 ((if ZZ l i s=true then i+1 else i:Nat):Int)],0⟩):=by
 have hs_h:Sub h h:=Sub.refl h;have hlv:=hv.live;have nv:=Zy hv;obtain⟨lc,o,c,rfl⟩:=UI hv (by omega);have hki:ZZ l i s=(Zc l i [1] && decide ((l.getD i Uh).text=s)):=rfl;obtain⟨kb,hkb⟩:∃kb,kb=Zc l i [1]:=⟨_,rfl⟩
 rw[<-hkb]at hki;rw[hki];refine qR (n:=31) (rs:=[.tmp 4]) Tryz.func51 rfl rfl rfl rfl (Nat.le_of_ble_eq_true rfl) ?_;simp only[Qd];refine awp_rseq [0,1] (by rfl) fun K hK=>?_;simp+decide only[qa,ev,qJ,qG,putD,Slots.put,Slots.keep,if_true,if_false,true_and,↓qd,qb,Nat.zero_add];apply hK;clear hK K;refine qO ?_;refine qdb [0,1,2,3,4,5,6,7,8,9,10,11,12,13,14,15,16,17,18] [none,none,some 1,some 2,some 3,some 4,some 5,some 6,some 7,some 4,some 9,some 10,some 11,some 8,some 13,some 14,some 4,some 15,some 4] 19 [0,23] mixed (by kernel_rfl) (by rfl) fun K hK=>?_;simp only[Yy,List.filterMap_cons,List.filterMap_nil,List.getElem?_cons_zero,List.getElem?_cons_succ];simp+decide only[qa,ev,putD,Slots.put,Slots.get,if_true,if_false,true_and,qaY,qbr,WZ,↓qj,qf];refine QD (cs:=byteCells [1]) (by kernel_rfl) fun k1q1 hk1q1=>?_;have hn_1q1:h k1q1=none:=by first|assumption|(simp only[AHeap.set_none]at hk1q1;simp only[hk1q1])
 have hf_1q1:h k1q1=none:=Sub.none hs_h hn_1q1;have ne_1q1_p:k1q1≠kp:=AHeap.ne_some hn_1q1 eb_p;rw[qa];refine And.intro (by first|exact Sub.refl _|assumption|exact Sub.set (by assumption)) ?_;simp+decide only[putD,Slots.put,if_false];refine qM (V:= .bool kb) (by rfl) (by rfl) (by rw[hkb];exact c_is w0 _ kp _ l i _ [1] (by repeat (first|exact AHeap.set_same _ _ _|assumption|refine(AHeap.set_ne _ _ (by first|assumption|exact Ne.symm (by assumption))).trans ?_)) (hv.mono (by repeat (first|exact Sub.refl _|assumption|refine Sub.set_both ?_ _ _|refine Sub.trans_set ?_ (by repeat (first|assumption|refine(AHeap.set_ne _ _ (by first|assumption|exact Ne.symm (by assumption))).trans ?_))))) (qaM (k:=k1q1) (ks:=[1]) (by repeat (first|exact AHeap.set_same _ _ _|assumption|refine(AHeap.set_ne _ _ (by first|assumption|exact Ne.symm (by assumption))).trans ?_))) (by decide)) ?_;rw[qa];refine And.intro (by first|exact Sub.refl _|assumption|exact Sub.set (by assumption)) ?_;simp+decide only[qa,ev,qJ,qG,putD,Slots.put,Slots.get,Slots.keep,if_true,if_false,true_and,WZ,↓ZY,XG,ZN,qf,↓Xc,agP,Qu,qI,qH,Qc,implies_true,Bool.not_not,↓ZV,qL,Ql,qbu,qbv,↓Xt,ql,UC,Zt,Zu,↓Zi,XO,WF,agL_ld5,qw UF,Yr,qw ag3,↓ZC,agL_il5,agL_ir5,Qk Tryz.underlying26 Xk,UD,qw ag9,↓Xd,qm,qV,cond_false,XW,qaR,Zb,qaS,XN,qcM,↓QP,Qt,Qh,qbO,ZF,QU,ne_eq,not_false_eq_true,ne_1q1_p.symm,Qr w0 eb_p,List.getD_cons_zero,List.getD_cons_succ,Nat.zero_add,qh,qE,hlv,Int.toNat_natCast,Nat.add_zero,(qbd (hv.mono (Sub.set hn_1q1)) hi).2.1];repeat (with_reducible refine And.intro ?_ ?_;· first|trivial|omega|(intro hg;simp only[Bool.and_eq_true,Bool.or_eq_true,Bool.not_eq_true',Bool.and_eq_false_iff,Bool.or_eq_false_iff,Bool.not_eq_false',decide_eq_true_eq,decide_eq_false_iff_not,Zd]at hg;omega))
 apply hK;clear hK K;refine qK (b:=_) rfl (fun hb1=>?_) (fun hb1=>?_)
 ·try simp only[decide_eq_false_iff_not,Bool.not_eq_true',Bool.or_eq_true]at hb1
  refine awp_rseq [4] (by rfl) fun K hK=>?_;simp+decide only[qa,ev,qJ,qG,putD,Slots.put,Slots.keep,if_true,if_false,true_and,↓qd,qb];apply hK;clear hK K;refine qN ?_;try simp only[Qf]
  refine QM (Qb (Qe)) ?_;simp+decide only[Slots.get,if_true,Qw];have hf:(kb && decide ((l.getD i Uh).text=s))=false:=by
   rcases hb1 with q|q
   ·rw[q];rfl
   ·rw[decide_eq_false q,Bool.and_false]
  exact⟨h,Sub.set hn_1q1,by rw[hf],by rw[hf];exact(set_id eb_p).symm⟩
 ·try simp only[decide_eq_true_eq,Bool.not_eq_false',Bool.or_eq_false_iff]at hb1
  refine qW ?_;change Awp _ _ _ _ _ _ _;refine awp_rseq [] (by rfl) fun K hK=>?_;simp+decide only[ev,qJ,qG,putD,Slots.put,Slots.get,if_true,if_false,true_and,↓qj,qf,↓Qi,qL,Ql,↓qA,ql,Yr,↓qF,Qa,qw ag3,↓qB,qm,qD,cond_false,qz,Xa,QU,ne_eq,not_false_eq_true,ne_1q1_p.symm,Qr w0 eb_p,List.getD_cons_zero,List.getD_cons_succ,Nat.zero_add,qh];try simp(disch:=omega)only[wrap_i64]
  refine qo (by rfl) (by rfl) (by repeat (first|exact AHeap.set_same _ _ _|assumption|refine(AHeap.set_ne _ _ (by first|assumption|exact Ne.symm (by assumption))).trans ?_)) sz3 (by rfl) (by rfl) (by first|exact Nat.le_refl _|decide|(simp;done)|(simp;omega)) (Nat.zero_le _) (by rfl) ?_;simp only[AVal.cells];simp+decide only[qa,ev,putD,Slots.get,Slots.keep,if_true,if_false,setAt,List.set_cons_zero,List.set_cons_succ];apply hK;clear hK K;refine awp_rseq [4] (by rfl) fun K hK=>?_;simp+decide only[qa,ev,qJ,qG,putD,Slots.put,Slots.keep,if_true,true_and,↓qd,qb];apply hK;clear hK K;refine qN ?_;refine QM (Qb (Qe)) ?_;simp+decide only[Slots.get,if_true,Qw];have hf:(kb && decide ((l.getD i Uh).text=s))=true:=by
   simp only[Bool.and_eq_true,decide_eq_true_eq];simpa using hb1
  exact⟨h.set kp ⟨[.slice lc o l.length c, .int .i64 ((i+1:Nat):Int)],0⟩,Sub.set_both (Sub.set hn_1q1) _ _,by rw[hf],by rw[hf];rfl⟩
theorem c_wordPOut(w0:World)(h:AHeap)(kp:Nat)(v:AVal)(l:List TokC)(i:Nat)(s:Str)(eb_p:h kp=some ⟨[v, .int .i64 i],0⟩)(hv:IsL w0 h 5 v (l.map Xw))(hi:¬i<l.length):
 ACall Tryz.prog w0 51 [.ptr (.own kp) 0, .str s] h (fun r h'=>r= .bool (ZZ l i s)/\h'=h.set kp ⟨[v, .int .i64 ((if ZZ l i s=true then i+1 else i:Nat):Int)],0⟩):=by
 have hs_h:Sub h h:=Sub.refl h;have hlv:=hv.live;have nv:=Zy hv;have hk0:Zc l i [1]=false:=by unfold Zc;rw[decide_eq_false hi,Bool.false_and]
 have hki:ZZ l i s=false:=by unfold ZZ;rw[hk0,Bool.false_and]
 rw[hki];refine qR (n:=31) (rs:=[.tmp 4]) Tryz.func51 rfl rfl rfl rfl (Nat.le_of_ble_eq_true rfl) ?_;simp only[Qd];refine awp_rseq [0,1] (by rfl) fun K hK=>?_;simp+decide only[qa,ev,qJ,qG,putD,Slots.put,Slots.keep,if_true,if_false,true_and,↓qd,qb,Nat.zero_add];apply hK;clear hK K;refine qO ?_;refine qdb [0,1,2,3,4,5,6,7,8,9,10,11,12,13,14,15,16,17,18] [none,none,some 1,some 2,some 3,some 4,some 5,some 6,some 7,some 4,some 9,some 10,some 11,some 8,some 13,some 14,some 4,some 15,some 4] 19 [0,23] mixed (by kernel_rfl) (by rfl) fun K hK=>?_;simp only[Yy,List.filterMap_cons,List.filterMap_nil,List.getElem?_cons_zero,List.getElem?_cons_succ];simp+decide only[qa,ev,putD,Slots.put,Slots.get,if_true,if_false,true_and,qaY,qbr,WZ,↓qj,qf];refine QD (cs:=byteCells [1]) (by kernel_rfl) fun k1q1 hk1q1=>?_;have hn_1q1:h k1q1=none:=by first|assumption|(simp only[AHeap.set_none]at hk1q1;simp only[hk1q1])
 have hf_1q1:h k1q1=none:=Sub.none hs_h hn_1q1;have ne_1q1_p:k1q1≠kp:=AHeap.ne_some hn_1q1 eb_p;rw[qa];refine And.intro (by first|exact Sub.refl _|assumption|exact Sub.set (by assumption)) ?_;simp+decide only[putD,Slots.put,if_false];refine qM (V:= .bool false) (by rfl) (by rfl) (by rw[<-hk0];exact c_is w0 _ kp _ l i _ [1] (by repeat (first|exact AHeap.set_same _ _ _|assumption|refine(AHeap.set_ne _ _ (by first|assumption|exact Ne.symm (by assumption))).trans ?_)) (hv.mono (by repeat (first|exact Sub.refl _|assumption|refine Sub.set_both ?_ _ _|refine Sub.trans_set ?_ (by repeat (first|assumption|refine(AHeap.set_ne _ _ (by first|assumption|exact Ne.symm (by assumption))).trans ?_))))) (qaM (k:=k1q1) (ks:=[1]) (by repeat (first|exact AHeap.set_same _ _ _|assumption|refine(AHeap.set_ne _ _ (by first|assumption|exact Ne.symm (by assumption))).trans ?_))) (by decide)) ?_;rw[qa];refine And.intro (by first|exact Sub.refl _|assumption|exact Sub.set (by assumption)) ?_;simp+decide only[qa,ev,qJ,qG,putD,Slots.put,Slots.get,Slots.keep,if_true,if_false,true_and,WZ,↓ZY,XG,ZN,qf,↓Xc,agP,Qu,qI,qH,Qc,implies_true,Bool.not_false,Bool.not_true,Zm,false_implies,qcH,agL_deadT,↓ZV,qL,↓Xt,ql,↓Zi,XO,↓ZC,↓Xd,qm,qV,cond_false,↓QP,Qt,Qh];apply hK;clear hK K;refine qK (b:=_) rfl (fun hb1=>?_) (fun hb1=>?_)
 ·try simp only at hb1
  refine awp_rseq [4] (by rfl) fun K hK=>?_;simp+decide only[qa,ev,qJ,qG,putD,Slots.put,Slots.keep,if_true,if_false,true_and,↓qd,qb];apply hK;clear hK K;refine qN ?_;try simp only[Qf]
  refine qY h (by repeat (first|exact Sub.refl _|assumption|refine Sub.trans_set ?_ (by assumption))) (Qb (Qe)) ?_;simp+decide only[Slots.get,if_true,if_false,true_and,Qw];exact(set_id eb_p).symm
 ·exact absurd hb1 (by decide)
theorem c_wordP(w0:World)(h:AHeap)(kp:Nat)(v:AVal)(l:List TokC)(i:Nat)(s:Str)(eb_p:h kp=some ⟨[v, .int .i64 i],0⟩)(hv:IsL w0 h 5 v (l.map Xw))(hl:l.length<=1099511627776):
 ACall Tryz.prog w0 51 [.ptr (.own kp) 0, .str s] h (fun r h'=>r= .bool (ZZ l i s)/\h'=h.set kp ⟨[v, .int .i64 ((if ZZ l i s=true then i+1 else i:Nat):Int)],0⟩):=by
 by_cases hi:i<l.length
 ·exact c_wordPIn w0 h kp v l i s eb_p hv hl hi
 ·exact c_wordPOut w0 h kp v l i s eb_p hv hi
end Go.Proofs.YtlhhaagmakhilaaGreatDoor
namespace Go.Proofs.YtlhhaagmakhilaaGreatDoor
open Go.AM
open Go.Proofs
open Go.Col
open Go.Tok
open Go.Cop
open Go.RowKit (Below)
set_option maxRecDepth 100000
def operV(v:AVal)(o:Opd):AVal:=if o.ok=true then subL 5 v o.lo o.hi else .nilSlice
theorem pseudo_step{l:List TokC}{i:Nat}(hi:i<l.length):(Zn l i=if (l.getD i noT).kind=7 then i else Zn l (i+1)):=by
 unfold Zn;rw[drop_cons noT hi,List.takeWhile_cons];split
 ·rename_i h
  rw[if_neg (by simpa using h),List.length_cons];omega
 ·rename_i h
  rw[if_pos (by simpa using h)];rfl
theorem pseudo_end{l:List TokC}{i:Nat}(hi:l.length<=i):Zn l i=i:=by
 unfold Zn;rw[List.drop_eq_nil_of_le hi];rfl
theorem kind_seven{l:List TokC}{i:Nat}(hi:i<l.length):Zc l i [7]=decide ((l.getD i noT).kind=7):=by
 unfold Zc;rw[decide_eq_true hi,Bool.true_and];simp
set_option maxHeartbeats 1000000 in
theorem c_operandB(w0:World)(B:AHeap)(kp:Nat)(v:AVal)(l:List TokC)(i:Nat)(e:Bool)(hb:B kp=none)(hv:IsL w0 B 5 v (l.map Xw))(hl:l.length<=1099511627776)(hi:i<=l.length):
 ACall Tryz.prog w0 85 [.ptr (.own kp) 0, .bool e] (B.set kp ⟨[v, .int .i64 i],0⟩) (fun r h'=>r= .tuple [operV v (QZ l i e), .bool (QZ l i e).ok]/\h'=B.set kp ⟨[v, .int .i64 (QZ l i e).at_],0⟩):=by
 have hlv:=hv.live;have nv:=Zy hv;obtain⟨H0,hH0⟩:∃H0,H0=B.set kp ⟨[v, .int .i64 i],0⟩:=⟨_,rfl⟩
 have hs_H0:Sub B H0:=by rw[hH0];exact Sub.set hb
 have eb_p:H0 kp=some ⟨[v, .int .i64 i],0⟩:=by rw[hH0];exact AHeap.set_same _ _ _
 rw[<-hH0];obtain⟨k1,hk1⟩:∃k,k=Zc l i [1,2,3]:=⟨_,rfl⟩
 obtain⟨k2,hk2⟩:∃k,k=Zc l i [7]:=⟨_,rfl⟩
 obtain⟨O,ho⟩:∃O,O=QZ l i e:=⟨_,rfl⟩
 rw[<-ho];unfold QZ at ho;rw[<-hk1,<-hk2]at ho;refine qR (n:=107) (rs:=[.tmp 4, .tmp 5]) Tryz.func85 rfl rfl rfl rfl (Nat.le_of_ble_eq_true rfl) ?_;simp only[Qd];refine awp_rseq [0,1] (by rfl) fun K hK=>?_;simp+decide only[qa,ev,qJ,qG,putD,Slots.put,Slots.keep,if_true,if_false,true_and,↓qd,qb,Nat.zero_add];apply hK;clear hK K;refine awp_rseq [0,1,6] (by rfl) fun K hK=>?_;simp+decide only[qa,ev,putD,Slots.put,Slots.get,Slots.keep,if_true,if_false,true_and,↓qj,qf,↓Qi,qL,Ql,↓qA,ql,Yr,↓qF,Qa,qw ag3,↓qd,qb,Qr w0 eb_p,List.getD_cons_zero,List.getD_cons_succ,Nat.zero_add,qh];apply hK;clear hK K;refine qO ?_;refine awp_rseq [0,1,6,13] (by rfl) fun K hK=>?_;simp+decide only[ev,putD,Slots.put,Slots.get,if_true,if_false,true_and,↓qj,qf];refine QD (cs:=byteCells [1,2,3]) (by kernel_rfl) fun k2q1 hk2q1=>?_;have hn_2q1:H0 k2q1=none:=by first|assumption|(simp only[AHeap.set_none]at hk2q1;simp only[hk2q1])
 have hf_2q1:B k2q1=none:=Sub.none hs_H0 hn_2q1;have ne_2q1_p:k2q1≠kp:=AHeap.ne_some hn_2q1 eb_p;refine qM (V:= .bool k1) (by rfl) (by rfl) (by rw[hk1];exact c_is w0 _ kp _ l i _ [1,2,3] (by repeat (first|exact AHeap.set_same _ _ _|assumption|refine(AHeap.set_ne _ _ (by first|assumption|exact Ne.symm (by assumption))).trans ?_)) (hv.mono (by repeat (first|exact Sub.refl _|assumption|refine Sub.set_both ?_ _ _|refine Sub.trans_set ?_ (by repeat (first|assumption|refine(AHeap.set_ne _ _ (by first|assumption|exact Ne.symm (by assumption))).trans ?_))))) (qaM (k:=k2q1) (ks:=[1,2,3]) (by repeat (first|exact AHeap.set_same _ _ _|assumption|refine(AHeap.set_ne _ _ (by first|assumption|exact Ne.symm (by assumption))).trans ?_))) (by decide)) ?_;simp+decide only[qa,putD,Slots.put,Slots.keep,if_true,if_false];apply hK;clear hK K;refine qK (b:=_) rfl (fun hb1=>?_) (fun hb1=>?_)
 ·skip
  have hlt:i<l.length:=Ud (hk1.symm.trans hb1);have hsl:=hv.slice Tryz.underlying26 Xk (some (.int .i64 i)) (some (.int .i64 ((i:Int)+1))) (l:=i) (r:=(i:Int)+1) rfl rfl (by omega) (by omega) (by rw[List.length_map];omega);refine awp_rseq [0,6] (by rfl) fun K hK=>?_;simp+decide only[ev,qJ,qG,putD,Slots.put,Slots.get,if_true,if_false,true_and,↓qj,qf,↓Qi,qL,Ql,↓qA,ql,Yr,↓qF,Qa,qw ag3,↓qB,qm,qD,cond_false,qz,Xa,QU,ne_eq,not_false_eq_true,ne_2q1_p.symm,Qr w0 eb_p,List.getD_cons_zero,List.getD_cons_succ,Nat.zero_add,qh];try simp(disch:=omega)only[wrap_i64]
  refine qo (by rfl) (by rfl) (by repeat (first|exact AHeap.set_same _ _ _|assumption|refine(AHeap.set_ne _ _ (by first|assumption|exact Ne.symm (by assumption))).trans ?_)) sz3 (by rfl) (by rfl) (by first|exact Nat.le_refl _|decide|(simp;done)|(simp;omega)) (Nat.zero_le _) (by rfl) ?_;simp only[AVal.cells];simp+decide only[qa,ev,putD,Slots.get,Slots.keep,if_true,if_false,setAt,List.set_cons_zero,List.set_cons_succ];apply hK;clear hK K;refine XR [4,5] mixed (by kernel_rfl) (by rfl) (by rfl) fun K hK=>?_;simp+decide only[qa,ev,qJ,qG,putD,Slots.put,Slots.get,Slots.keep,if_true,if_false,true_and,↓qj,qf,↓Qi,qL,Ql,↓qA,ql,UC,↓qF,Qa,qw UF,Yr,qw ag3,↓WY,Zo,evO,↓qd,qb,QV,List.getD_cons_zero,List.getD_cons_succ,Nat.zero_add,qh,hlv,hsl];apply hK;clear hK K;refine qN ?_;try simp only[Qf]
  refine QM (Qb (Qb (Qe))) ?_;simp+decide only[Slots.get,if_true,if_false,Wd];rw[if_pos hb1]at ho;refine⟨B.set kp ⟨[v, .int .i64 ((i:Int)+1)],0⟩,?_,?_,?_⟩
  ·exact Sub.set_both (by repeat (first|exact Sub.refl _|assumption|refine Sub.set_both ?_ _ _|refine Sub.trans_set ?_ (by repeat (first|assumption|refine(AHeap.set_ne _ _ (by first|assumption|exact Ne.symm (by assumption))).trans ?_)))) _ _
  ·rw[ho];rfl
  ·rw[ho];rfl
 ·skip
  refine qW ?_;change Awp _ _ _ _ _ _ _;refine qO ?_;refine awp_rseq [0,1,6,34] (by rfl) fun K hK=>?_;simp+decide only[ev,putD,Slots.put,Slots.get,if_true,if_false,true_and,↓qj,qf];refine QD (cs:=byteCells [7]) (by kernel_rfl) fun k5q1 hk5q1=>?_;have ne_5q1_2q1:k5q1≠k2q1:=by simp only[AHeap.set_none]at hk5q1;simp only[hk5q1,ne_eq,not_false_eq_true]
  have hn_5q1:H0 k5q1=none:=by first|assumption|(simp only[AHeap.set_none]at hk5q1;simp only[hk5q1])
  have hf_5q1:B k5q1=none:=Sub.none hs_H0 hn_5q1;have ne_5q1_p:k5q1≠kp:=AHeap.ne_some hn_5q1 eb_p;refine qM (V:= .bool k2) (by rfl) (by rfl) (by rw[hk2];exact c_is w0 _ kp _ l i _ [7] (by repeat (first|exact AHeap.set_same _ _ _|assumption|refine(AHeap.set_ne _ _ (by first|assumption|exact Ne.symm (by assumption))).trans ?_)) (hv.mono (by repeat (first|exact Sub.refl _|assumption|refine Sub.set_both ?_ _ _|refine Sub.trans_set ?_ (by repeat (first|assumption|refine(AHeap.set_ne _ _ (by first|assumption|exact Ne.symm (by assumption))).trans ?_))))) (qaM (k:=k5q1) (ks:=[7]) (by repeat (first|exact AHeap.set_same _ _ _|assumption|refine(AHeap.set_ne _ _ (by first|assumption|exact Ne.symm (by assumption))).trans ?_))) (by decide)) ?_;simp+decide only[qa,ev,putD,Slots.put,Slots.get,Slots.keep,if_true,if_false,true_and,↓ZY,XG,ZN];apply hK;clear hK K;refine qK (b:=_) rfl (fun hb2=>?_) (fun hb2=>?_)
  ·try simp only[Bool.not_eq_true']at hb2
   refine awp_rseq [4,5] (by rfl) fun K hK=>?_;simp+decide only[qa,ev,qJ,qG,putD,Slots.put,Slots.keep,if_true,if_false,true_and,↓qd,qb];apply hK;clear hK K;refine qN ?_;try simp only[Qf]
   refine QM (Qb (Qb (Qe))) ?_;simp+decide only[Slots.get,if_true,if_false,Wd];rw[if_neg (by rw[hb1];decide),if_pos (by simpa using hb2)]at ho;refine⟨H0,(by repeat (first|exact Sub.refl _|assumption|refine Sub.set_both ?_ _ _|refine Sub.trans_set ?_ (by repeat (first|assumption|refine(AHeap.set_ne _ _ (by first|assumption|exact Ne.symm (by assumption))).trans ?_)))),?_,?_⟩
   ·rw[ho];rfl
   ·rw[ho];exact hH0
  ·try simp only[Bool.not_eq_false']at hb2
   have hlt:i<l.length:=Ud (ks:=[7]) (by rw[<-hk2];simpa using hb2);rw[if_neg (by rw[hb1];decide),if_neg (by simpa using hb2)]at ho;refine qW ?_;change Awp _ _ _ _ _ _ _;refine awp_rseq [0,1,6] (by rfl) fun K hK=>?_;simp+decide only[ev,qJ,qG,putD,Slots.put,Slots.get,if_true,if_false,true_and,↓qj,qf,↓Qi,qL,Ql,↓qA,ql,Yr,↓qF,Qa,qw ag3,↓qB,qm,qD,cond_false,qz,Xa,QU,ne_eq,not_false_eq_true,ne_2q1_p.symm,ne_5q1_p.symm,Qr w0 eb_p,List.getD_cons_zero,List.getD_cons_succ,Nat.zero_add,qh];try simp(disch:=omega)only[wrap_i64]
   refine qo (by rfl) (by rfl) (by repeat (first|exact AHeap.set_same _ _ _|assumption|refine(AHeap.set_ne _ _ (by first|assumption|exact Ne.symm (by assumption))).trans ?_)) sz3 (by rfl) (by rfl) (by first|exact Nat.le_refl _|decide|(simp;done)|(simp;omega)) (Nat.zero_le _) (by rfl) ?_;simp only[AVal.cells];simp+decide only[qa,ev,putD,Slots.get,Slots.keep,if_true,if_false,setAt,List.set_cons_zero,List.set_cons_succ];apply hK;clear hK K;refine qO ?_;refine Qv ?_;refine XE [0,1,6] (fun j:Nat=>[(0, .ptr (.own kp) 0),(1, .bool e),(6, .int .i64 i)]) (fun j:Nat=>B.set kp ⟨[v, .int .i64 j],0⟩) (fun j:Nat=>i+1<=j/\j<=l.length/\Zn l j=Zn l (i+1)) (fun j:Nat=>l.length-j) (i+1) (by rfl) (Sub.set_both (by repeat (first|exact Sub.refl _|assumption|refine Sub.set_both ?_ _ _|refine Sub.trans_set ?_ (by repeat (first|assumption|refine(AHeap.set_ne _ _ (by first|assumption|exact Ne.symm (by assumption))).trans ?_)))) _ _) ⟨Nat.le_refl _,hlt,rfl⟩ ?_;rintro j ⟨hj1,hj2,hj3⟩;obtain⟨H1,hH1⟩:∃H1,H1=B.set kp ⟨[v, .int .i64 j],0⟩:=⟨_,rfl⟩
   have hs_H1:Sub B H1:=by rw[hH1];exact Sub.set hb
   have eb_p:H1 kp=some ⟨[v, .int .i64 j],0⟩:=by rw[hH1];exact AHeap.set_same _ _ _
   rw[<-hH1];refine qO ?_;refine qdb [0,1,2,3,4,5,6,7,8,9,10,11,12,13,14,15] [none,none,none,none,none,none,none,none,none,none,none,none,none,some 12,some 13,some 14] 16 [0,1,6,57] mixed (by kernel_rfl) (by rfl) fun K hK=>?_;simp only[Yy,List.filterMap_cons,List.filterMap_nil,List.getElem?_cons_zero,List.getElem?_cons_succ];simp+decide only[qa,ev,putD,Slots.put,Slots.get,if_true,if_false,true_and,qaY,qbr,WZ,↓qj,qf,↓Qi,qL,Ql,↓qA,ql,Yr,↓qF,Qa,qw ag3,UC,qw UF,↓Xz,QK,↓qB,qm,qV,cond_false,qz,XZ,↓Xc,agP,Qu,qI,qH,qy,implies_true,Qr w0 eb_p,List.getD_cons_zero,List.getD_cons_succ,Nat.zero_add,qh,hlv,nv];refine aOps_gbuild (cs:=byteCells [7]) (g:= .bool (decide ((j:Int)<l.length))) (by rfl) (by rfl) (fun _=>by kernel_rfl) fun k8q12 h8q12 hs8 hb8=>?_;have hs_h8q12:Sub B h8q12:=Sub.trans (by repeat (first|exact Sub.refl _|assumption|refine Sub.trans_set ?_ (by assumption))) hs8;have hr_h8q12:Sub H1 h8q12:=Sub.trans (by repeat (first|exact Sub.refl _|assumption|refine Sub.trans_set ?_ (by assumption))) hs8;have eb_p:=hs8 kp _ (by repeat (first|exact AHeap.set_same _ _ _|assumption|refine(AHeap.set_ne _ _ (by first|assumption|exact Ne.symm (by assumption))).trans ?_));rw[qa];refine And.intro (by first|exact Sub.refl _|assumption|exact Sub.set (by assumption)) ?_;simp+decide only[putD,Slots.put,if_false,qy];first
   |(refine Ye (by rfl) ?_;refine qM (V:= .bool (Zc l j [7])) (by rfl) (by rfl) (by
    have hq0:(decide ((j:Int)<l.length)==true)=true:=hg;have hq:decide ((j:Int)<l.length)=true:=by simpa using hq0
    exact c_is w0 _ kp _ l j _ [7] (by repeat (first|exact AHeap.set_same _ _ _|assumption|refine(AHeap.set_ne _ _ (by first|assumption|exact Ne.symm (by assumption))).trans ?_)) (hv.mono (by repeat (first|exact Sub.refl _|assumption|refine Sub.set_both ?_ _ _|refine Sub.trans_set ?_ (by repeat (first|assumption|refine(AHeap.set_ne _ _ (by first|assumption|exact Ne.symm (by assumption))).trans ?_))))) (qaM (k:=k8q12) (ks:=[7]) (hb8 hq0)) (by decide)) ?_)
   |(refine Uv (by rfl) (by rfl) ?_)
   |(refine XK (V:= .bool (Zc l j [7])) (f:=_) (cap:=_) (xs:=_) (by first|rfl|(simp+decide only[gv,qI,Slots.get,if_true,if_false,QR,qH])) (fun hg=>⟨rfl,?_⟩) (fun hg=>by
    have hq0:(decide ((j:Int)<l.length)==true)=true:=hg;have hq:decide ((j:Int)<l.length)=true:=by simpa using hq0
    exact c_is w0 _ kp _ l j _ [7] (by repeat (first|exact AHeap.set_same _ _ _|assumption|refine(AHeap.set_ne _ _ (by first|assumption|exact Ne.symm (by assumption))).trans ?_)) (hv.mono (by repeat (first|exact Sub.refl _|assumption|refine Sub.set_both ?_ _ _|refine Sub.trans_set ?_ (by repeat (first|assumption|refine(AHeap.set_ne _ _ (by first|assumption|exact Ne.symm (by assumption))).trans ?_))))) (qaM (k:=k8q12) (ks:=[7]) (hb8 hq0)) (by decide)) ?_;· (simp+decide only[gv,qI,Slots.get,if_true,if_false,qy]at hg;simp+decide only[evs,ev,Slots.get,if_true,if_false,hg,Qo,List.append_nil,List.map_cons,List.map_nil]<;>try rfl))
   rw[qa];refine And.intro (by first|exact Sub.refl _|assumption|exact Sub.set (by assumption)) ?_;simp+decide only[qa,ev,qJ,qG,putD,Slots.put,Slots.get,Slots.keep,if_true,if_false,true_and,WZ,gv,qI,qy,↓qbL,XG,agP,Qu,qH,implies_true,ZN,cv_un,cp_un,↓QP,Qt,Qh,Xm,Xl];apply hK;clear hK K;refine qK (b:=_) rfl (fun hb3=>?_) (fun hb3=>?_)
   ·try simp only[decide_eq_true_eq,Bool.not_eq_true',Bool.and_eq_true]at hb3
    have hj4:j<l.length:=by omega
    have hst:=pseudo_step hj4;have hk8:=kind_seven hj4;rw[hb3.2]at hk8;rw[if_neg (by simpa using hk8.symm)]at hst;refine qW ?_;change Awp _ _ _ _ _ _ _;refine Qv ?_;refine XI [0,1,6] (by rfl) ?_;simp+decide only[ev,qJ,qG,putD,Slots.put,Slots.get,if_true,if_false,true_and,↓qj,qf,↓Qi,qL,Ql,↓qA,ql,Yr,↓qF,Qa,qw ag3,↓qB,qm,qD,cond_false,qz,Xa,Qr w0 eb_p,List.getD_cons_zero,List.getD_cons_succ,Nat.zero_add,qh];try simp(disch:=omega)only[wrap_i64]
    refine qo (by rfl) (by rfl) (by repeat (first|exact AHeap.set_same _ _ _|assumption|refine(AHeap.set_ne _ _ (by first|assumption|exact Ne.symm (by assumption))).trans ?_)) sz3 (by rfl) (by rfl) (by first|exact Nat.le_refl _|decide|(simp;done)|(simp;omega)) (Nat.zero_le _) (by rfl) ?_;simp only[AVal.cells];simp+decide only[qa,ev,putD,Slots.get,Slots.keep,if_true,if_false,setAt,List.set_cons_zero,List.set_cons_succ];try simp only[Qj,Yc]
    exact⟨j+1,rfl,Sub.set_both (by repeat (first|exact Sub.refl _|assumption|refine Sub.set_both ?_ _ _|refine Sub.trans_set ?_ (by repeat (first|assumption|refine(AHeap.set_ne _ _ (by first|assumption|exact Ne.symm (by assumption))).trans ?_)))) _ _,⟨by omega,hj4,by rw[<-hst];exact hj3⟩,by omega⟩
   ·try simp only[decide_eq_false_iff_not,Bool.not_eq_false',Bool.and_eq_false_iff]at hb3
    have hje:Zn l (i+1)=j:=by
     rw[<-hj3];rcases Nat.lt_or_ge j l.length with hj4|hj4
     ·have hk8:=kind_seven hj4
      rcases hb3 with q|q
      ·omega
      ·rw[q]at hk8
       rw[pseudo_step hj4,if_pos (by simpa using hk8.symm)]
     ·exact pseudo_end hj4
    rw[hje]at ho;refine XJ ?_;change Awp _ _ _ _ _ _ _;refine qO ?_;refine XR [0,6,87] mixed (by kernel_rfl) (by rfl) (by rfl) fun K hK=>?_;simp+decide only[qa,ev,qJ,qG,putD,Slots.put,Slots.get,Slots.keep,if_true,if_false,true_and,↓qj,qf,↓Qi,qL,Ql,↓qA,ql,Yr,↓qF,Qa,qw ag3,UC,qw UF,↓Xz,QK,↓qB,qm,qV,cond_false,qz,XB,↓Xc,agP,Qu,qI,qH,QR,Yk,qy,Qc,cv_cv,implies_true,↓qbL,XG,ZN,cv_un,cp_un,↓ZV,qbu,qbv,↓Xt,Zt,Zu,↓Zi,XO,WF,agL_ld3,↓Xd,qD,XW,qaR,Zb,qaS,Xa,↓ag_pick,Qt,Qh,XV,cp_nest1,Xl,ZF,cv_pick,cp_pick,↓QP,Qr w0 eb_p,List.getD_cons_zero,List.getD_cons_succ,Nat.zero_add,qh,hlv,nv];try simp(disch:=omega)only[wrap_i64]
    apply hK;clear hK K;refine qK (b:=_) rfl (fun hb4=>?_) (fun hb4=>?_)
    ·try simp only[decide_eq_true_eq,Bool.not_eq_true',Bool.and_eq_true,Bool.or_eq_true]at hb4
     refine awp_rseq [4,5] (by rfl) fun K hK=>?_;simp+decide only[qa,ev,qJ,qG,putD,Slots.put,Slots.keep,if_true,if_false,true_and,↓qd,qb];apply hK;clear hK K;refine qN ?_;try simp only[Qf]
     refine QM (Qb (Qb (Qe))) ?_;simp+decide only[Slots.get,if_true,if_false,Wd];rw[if_pos (by
      rcases hb4 with q|⟨q1,q2⟩
      ·left;omega
      ·exact .inr ⟨q1,by omega⟩)]at ho
     refine⟨H1,(by repeat (first|exact Sub.refl _|assumption|refine Sub.set_both ?_ _ _|refine Sub.trans_set ?_ (by repeat (first|assumption|refine(AHeap.set_ne _ _ (by first|assumption|exact Ne.symm (by assumption))).trans ?_)))),?_,?_⟩
     ·rw[ho];rfl
     ·rw[ho];exact hH1
    ·try simp only[decide_eq_false_iff_not,Bool.not_eq_false',Bool.and_eq_false_iff,Bool.or_eq_false_iff]at hb4
     rw[if_neg (by
      rintro(q|⟨q1,q2⟩)
      ·omega
      ·obtain⟨-,z⟩:=hb4
       rcases z with z|z
       ·rw[q1]at z;cases z
       ·omega)]at ho
     have hsl:=hv.slice Tryz.underlying26 Xk (some (.int .i64 ((i:Int)+1))) (some (.int .i64 (j:Int))) (l:=(i:Int)+1) (r:=(j:Int)) rfl rfl (by omega) (by omega) (by rw[List.length_map];omega);refine qW ?_;change Awp _ _ _ _ _ _ _;refine awp_rseq [0,6] (by rfl) fun K hK=>?_;simp+decide only[ev,qJ,qG,putD,Slots.put,Slots.get,if_true,if_false,true_and,↓qj,qf,↓Qi,qL,Ql,↓qA,ql,Yr,↓qF,Qa,qw ag3,↓qB,qm,qD,cond_false,qz,Xa,Qr w0 eb_p,List.getD_cons_zero,List.getD_cons_succ,Nat.zero_add,qh];try simp(disch:=omega)only[wrap_i64]
     refine qo (by rfl) (by rfl) (by repeat (first|exact AHeap.set_same _ _ _|assumption|refine(AHeap.set_ne _ _ (by first|assumption|exact Ne.symm (by assumption))).trans ?_)) sz3 (by rfl) (by rfl) (by first|exact Nat.le_refl _|decide|(simp;done)|(simp;omega)) (Nat.zero_le _) (by rfl) ?_;simp only[AVal.cells];simp+decide only[qa,ev,putD,Slots.get,Slots.keep,if_true,if_false,setAt,List.set_cons_zero,List.set_cons_succ];apply hK;clear hK K;refine XR [4,5] mixed (by kernel_rfl) (by rfl) (by rfl) fun K hK=>?_;simp+decide only[ev,qJ,qG,putD,Slots.put,Slots.get,if_true,if_false,true_and,↓qj,qf,↓Qi,qL,Ql,↓qA,ql,UC,↓qF,Qa,qw UF,↓qB,qm,qD,cond_false,qz,Xa,Yr,qw ag3,Ul,QV,List.getD_cons_zero,List.getD_cons_succ,Nat.zero_add,qh,hlv,Int.add_sub_cancel];try simp(disch:=omega)only[wrap_i64]
     try simp+decide only[qa,ev,qJ,qG,putD,Slots.put,Slots.get,Slots.keep,if_true,if_false,true_and,↓WY,Zo,evO,↓qd,qb,hsl]
     apply hK;clear hK K;refine qN ?_;refine QM (Qb (Qb (Qe))) ?_;simp+decide only[Slots.get,if_true,if_false,Wd];refine⟨B.set kp ⟨[v, .int .i64 ((j:Int)+1)],0⟩,?_,?_,?_⟩
     ·exact Sub.set_both (by repeat (first|exact Sub.refl _|assumption|refine Sub.set_both ?_ _ _|refine Sub.trans_set ?_ (by repeat (first|assumption|refine(AHeap.set_ne _ _ (by first|assumption|exact Ne.symm (by assumption))).trans ?_)))) _ _
     ·rw[ho];rfl
     ·rw[ho];rfl
end Go.Proofs.YtlhhaagmakhilaaGreatDoor
namespace Go.Proofs.YtlhhaagmakhilaaGreatDoor
open Go.AM
open Go.Proofs
open Go.Col
open Go.Tok
open Go.Cop
open Go.RowKit (Below)
set_option maxRecDepth 100000
theorem del_set_same{H:AHeap}{k:Nat}(b:Blk):(H.del k).set k b=H.set k b:=by
 funext j;by_cases e:j=k<;>simp[AHeap.set,AHeap.del,e]
theorem ZK{H:AHeap}(k:Nat):H.del k k=none:=by simp[AHeap.del]
theorem qaJ{B H:AHeap}{k:Nat}(hs:Sub B H)(hb:B k=none):Sub B (H.del k):=fun j b hj=>by
 have hne:j≠k:=fun e=>by subst e;rw[hb]at hj;cases hj
 simp only[AHeap.del,hne,if_false];exact hs j b hj
theorem Zg{B H:AHeap}{k:Nat}(hs:Sub B H)(hb:B k=none)(b:Blk):Sub B (H.set k b):=fun j c hj=>by
 have hne:j≠k:=fun e=>by subst e;rw[hb]at hj;cases hj
 rw[AHeap.set_ne _ _ hne];exact hs j c hj
theorem c_operandH(w0:World)(H B:AHeap)(kp:Nat)(v:AVal)(l:List TokC)(i:Nat)(e:Bool)(hk:H kp=some ⟨[v, .int .i64 i],0⟩)(hs:Sub B H)(hb:B kp=none)(hv:IsL w0 B 5 v (l.map Xw))(hl:l.length<=1099511627776)(hi:i<=l.length):
 ACall Tryz.prog w0 85 [.ptr (.own kp) 0, .bool e] H (fun r h'=>r= .tuple [operV v (QZ l i e), .bool (QZ l i e).ok]/\h'=H.set kp ⟨[v, .int .i64 (QZ l i e).at_],0⟩):=by
 have:=c_operandB w0 (H.del kp) kp v l i e (ZK kp) (hv.mono (qaJ hs hb)) hl hi;simp only[del_set_same]at this
 rwa [set_id hk]at this
theorem qdF{w0:World}{h:AHeap}{v:AVal}{l:List TokC}(hv:IsL w0 h 5 v (l.map Xw)){o:Opd}(h1:o.lo<=o.hi)(h2:o.hi<=l.length)(ok:o.ok=true):IsL w0 h 5 (operV v o) ((qbU l o.lo o.hi).map Xw):=by
 have:=hv.sub (i:=o.lo) (j:=o.hi) h1 (by rw[List.length_map];exact h2);unfold operV qbU;rw[if_pos ok,List.map_take,List.map_drop];exact this
theorem operV_scal{w0:World}{h:AHeap}{v:AVal}{l:List TokC}(hv:IsL w0 h 5 v (l.map Xw))(o:Opd):(operV v o).scal=true:=by
 unfold operV;split
 ·generalize l.map Xw=xs at hv
  cases hv with
  |nil=>rfl
  |mk lc of n c xs hn hw hc hl hcap=>cases c<;>rfl
 ·rfl
theorem isL_Sc{w0:World}{h:AHeap}{es:Nat}{v:AVal}{xs:List (List AVal)}(hv:IsL w0 h es v xs):Sc v:=by
 cases hv with
 |nil=>trivial
 |mk lc o n c xs hn hw hc hl hcap=>trivial
theorem operV_Sc{w0:World}{h:AHeap}{v:AVal}{l:List TokC}(hv:IsL w0 h 5 v (l.map Xw))(o:Opd):Sc (operV v o)=True:=by
 refine eq_true ?_;unfold operV;split
 ·generalize l.map Xw=xs at hv
  cases hv with
  |nil=>trivial
  |mk lc of n c xs hn hw hc hl hcap=>cases c<;>trivial
 ·trivial
abbrev RepQ:=RepC×AVal×AVal
def UY(q:RepQ):List AVal:=[q.2.1,q.2.2]
structure RepOk(w0:World)(h:AHeap)(q:RepQ):Prop where
 old:IsL w0 h 5 q.2.1 (q.1.old.map Xw)
 new:IsL w0 h 5 q.2.2 (q.1.new.map Xw)
theorem RepOk.mono{w0:World}{h h':AHeap}{q:RepQ}(hq:RepOk w0 h q)(hs:Sub h h'):RepOk w0 h' q:=⟨hq.old.mono hs,hq.new.mono hs⟩
def PairR(w0:World)(B:AHeap)(p:Pair)(r:AVal):Prop:=∃ov nv,r= .tuple [.agg [ov,nv], .bool p.ok]/\ov.scal=true/\nv.scal=true/\(p.ok=true->RepOk w0 B (p.rep,ov,nv))
theorem c_pairBad(w0:World)(H B:AHeap)(kp:Nat)(v:AVal)(l:List TokC)(i:Nat)(eb_p:H kp=some ⟨[v, .int .i64 i],0⟩)(hs_H:Sub B H)(hb:B kp=none)(hv:IsL w0 B 5 v (l.map Xw))(hl:l.length<=1099511627776)(hi:i<=l.length)(hok:(QZ l i false).ok=false):
 ACall Tryz.prog w0 67 [.ptr (.own kp) 0] H (fun r h'=>PairR w0 B (YA l i) r/\h'=H.set kp ⟨[v, .int .i64 (YA l i).at_],0⟩):=by
 have hp:YA l i=⟨false,⟨[],[]⟩,(QZ l i false).at_⟩:=by unfold YA;simp only[hok,if_true]
 rw[hp];have hlv:=hv.live;have hss:=operV_scal hv (QZ l i false);have hsl:=ZW hss;obtain⟨ov,hov⟩:∃ov,ov=operV v (QZ l i false):=⟨_,rfl⟩
 rw[<-hov]at hss hsl;refine qR (n:=29) (rs:=[.cell 2 46, .tmp 3]) Tryz.func67 rfl rfl rfl rfl (Nat.le_of_ble_eq_true rfl) ?_;simp only[Qd];refine awp_rseq [0,2] (by rfl) fun K hK=>?_;refine Qg ze46 (cs:=[.nilSlice, .nilSlice]) (by rfl) fun k0q0 hk0q0=>?_;have hn_0q0:H k0q0=none:=by first|assumption|(simp only[AHeap.set_none]at hk0q0;simp only[hk0q0])
 have hf_0q0:B k0q0=none:=Sub.none hs_H hn_0q0;have ne_0q0_p:k0q0≠kp:=AHeap.ne_some hn_0q0 eb_p;simp+decide only[qa,ev,qJ,qG,putD,Slots.put,Slots.keep,if_true,if_false,true_and,↓qd,qb];apply hK;clear hK K;refine awp_rseq [0,2,4,5] (by rfl) fun K hK=>?_;simp+decide only[ev,putD,Slots.put,Slots.get,if_true,if_false,true_and,↓qj,qf];refine QH (by rfl) (by rfl) (c_operandH w0 _ B kp v l i false (by repeat (first|exact AHeap.set_same _ _ _|assumption|refine(AHeap.set_ne _ _ (by first|assumption|exact Ne.symm (by assumption))).trans ?_)) (by repeat (first|exact Sub.refl _|assumption|refine Sub.set_both ?_ _ _|refine Sub.trans_set ?_ (by repeat (first|assumption|refine(AHeap.set_ne _ _ (by first|assumption|exact Ne.symm (by assumption))).trans ?_)))) hb hv hl hi) fun x1q1 h1q1 hx1q1=>?_;rw[<-hov,hok]at hx1q1;obtain⟨rfl,rfl⟩:=hx1q1;simp+decide only[qa,ev,putD,Slots.put,Slots.get,Slots.keep,if_true,if_false,true_and,↓qj,qf,↓QJ,QC,QG,List.length_cons,List.length_nil,List.getD_cons_zero,List.getD_cons_succ,↓qd,qb,List.getD_cons_zero,List.getD_cons_succ,Nat.zero_add,Nat.reduceAdd];apply hK;clear hK K;refine qO ?_;refine awp_rseq [0,2,4,18] (by rfl) fun K hK=>?_;simp+decide only[ev,putD,Slots.put,Slots.get,if_true,if_false,true_and,↓qj,qf,↓ZY,XG,ZN,↓Xc,agP,Qu,qI,qH,Qc,implies_true,Bool.not_false,Bool.not_true,Zm];refine Uv (by rfl) (by rfl) ?_;simp+decide only[qa,ev,qJ,qG,putD,Slots.put,Slots.get,Slots.keep,if_true,if_false,true_and,qI,Qc,↓qbL,XG,agP,Qu,qH,Bool.not_true,Zm,false_implies,qcH,↓QP,Qt,Qh];apply hK;clear hK K;refine qK (b:=_) rfl (fun hb1=>?_) (fun hb1=>?_)
 ·try simp only at hb1
  refine awp_rseq [2,3] (by rfl) fun K hK=>?_;simp+decide only[ev,qJ,qG,putD,Slots.put,Slots.get,if_false,true_and,↓Qn,↓qU,bld46_,evP,List.map_nil];refine qo (by rfl) (by rfl) (by repeat (first|exact AHeap.set_same _ _ _|assumption|refine(AHeap.set_ne _ _ (by first|assumption|exact Ne.symm (by assumption))).trans ?_)) sz46 (by rfl) (by rfl) (by first|exact Nat.le_refl _|decide|(simp;done)|(simp;omega)) (Nat.zero_le _) (by first|rfl|(simp+decide only[ev,putD,Slots.put,Slots.get,if_true,if_false,AVal.cells,Qz,Bool.and_true,Bool.true_and,hss])) ?_;simp only[AVal.cells];simp+decide only[qa,ev,qJ,qG,putD,Slots.put,Slots.get,Slots.keep,if_true,if_false,true_and,↓qd,qb,setAt,List.set_cons_zero,List.set_cons_succ,Nat.zero_add];apply hK;clear hK K;refine qN ?_;try simp only[Qf]
  refine QM (?_) ?_
  ·simp+decide only[Qy,qp,qi,Slots.get,if_true,if_false,and_true,qp,qi,qg ag46 sz46,qZ,qc,List.getD_cons_zero,List.getD_cons_succ,Nat.zero_add,QL,allLive,Bool.and_true,qc,List.getD_cons_zero,List.getD_cons_succ,Nat.zero_add,QL,allLive,Bool.and_true]
  simp+decide only[Slots.get,if_true,if_false,QW,qp,qi,qg ag46 sz46,qZ,qc,List.getD_cons_zero,List.getD_cons_succ,Nat.zero_add,QL,allLive,Bool.and_true,qc,List.getD_cons_zero,List.getD_cons_succ,Nat.zero_add,QL,allLive,Bool.and_true];refine⟨H.set kp ⟨[v, .int .i64 (QZ l i false).at_],0⟩,Sub.trans_set (Sub.set_both (Sub.set hn_0q0) _ _) ((AHeap.set_ne _ _ ne_0q0_p).trans hn_0q0),⟨.nilSlice, .nilSlice,rfl,rfl,rfl,fun q=>by cases q⟩,rfl⟩
 ·exact absurd hb1 (by decide)
theorem c_wordH(w0:World)(H B:AHeap)(kp:Nat)(v:AVal)(l:List TokC)(i:Nat)(s:Str)(hk:H kp=some ⟨[v, .int .i64 i],0⟩)(hs:Sub B H)(hv:IsL w0 B 5 v (l.map Xw))(hl:l.length<=1099511627776):
 ACall Tryz.prog w0 51 [.ptr (.own kp) 0, .str s] H (fun r h'=>r= .bool (ZZ l i s)/\h'=H.set kp ⟨[v, .int .i64 ((if ZZ l i s=true then i+1 else i:Nat):Int)],0⟩):=c_wordP w0 H kp v l i s hk (hv.mono hs) hl
theorem c_pairGood(w0:World)(H B:AHeap)(kp:Nat)(v:AVal)(l:List TokC)(i:Nat)(eb_p:H kp=some ⟨[v, .int .i64 i],0⟩)(hs_H:Sub B H)(hb:B kp=none)(hv:IsL w0 B 5 v (l.map Xw))(hl:l.length<=1099511627776)(hi:i<=l.length)(hok:(QZ l i false).ok=true):
 ACall Tryz.prog w0 67 [.ptr (.own kp) 0] H (fun r h'=>PairR w0 B (YA l i) r/\h'=H.set kp ⟨[v, .int .i64 (YA l i).at_],0⟩):=by
 obtain⟨o1,o2,o3⟩:=qcO (e:=false) hi;obtain⟨o3,o4,o5⟩:=o3 hok;have hp:YA l i=if ZZ l (QZ l i false).at_ BY=false then⟨false,⟨[],[]⟩,(QZ l i false).at_⟩else⟨(QZ l ((QZ l i false).at_+1) true).ok,⟨qbU l (QZ l i false).lo (QZ l i false).hi,qbU l (QZ l ((QZ l i false).at_+1) true).lo (QZ l ((QZ l i false).at_+1) true).hi⟩,(QZ l ((QZ l i false).at_+1) true).at_⟩:=by
  conv=>lhs;unfold YA
  simp only[hok];rfl
 have hlv:=hv.live;have hsc:=fun o=>operV_scal hv o;have hsl:=fun o=>ZW (hsc o);have hSc:=fun o=>operV_Sc hv o;obtain⟨a,ha⟩:∃a,a=QZ l i false:=⟨_,rfl⟩
 rw[<-ha]at hok hp o1 o2 o3 o4 o5;obtain⟨W,hW⟩:∃W,W=ZZ l a.at_ BY:=⟨_,rfl⟩
 refine qR (n:=29) (rs:=[.cell 2 46, .tmp 3]) Tryz.func67 rfl rfl rfl rfl (Nat.le_of_ble_eq_true rfl) ?_;simp only[Qd];refine awp_rseq [0,2] (by rfl) fun K hK=>?_;refine Qg ze46 (cs:=[.nilSlice, .nilSlice]) (by rfl) fun k0q0 hk0q0=>?_;have hn_0q0:H k0q0=none:=by first|assumption|(simp only[AHeap.set_none]at hk0q0;simp only[hk0q0])
 have hf_0q0:B k0q0=none:=Sub.none hs_H hn_0q0;have ne_0q0_p:k0q0≠kp:=AHeap.ne_some hn_0q0 eb_p;simp+decide only[qa,ev,qJ,qG,putD,Slots.put,Slots.keep,if_true,if_false,true_and,↓qd,qb];apply hK;clear hK K;refine awp_rseq [0,2,4,5] (by rfl) fun K hK=>?_;simp+decide only[ev,putD,Slots.put,Slots.get,if_true,if_false,true_and,↓qj,qf];refine QH (by rfl) (by rfl) (c_operandH w0 _ B kp v l i false (by repeat (first|exact AHeap.set_same _ _ _|assumption|refine(AHeap.set_ne _ _ (by first|assumption|exact Ne.symm (by assumption))).trans ?_)) (by repeat (first|exact Sub.refl _|assumption|refine Sub.set_both ?_ _ _|refine Sub.trans_set ?_ (by repeat (first|assumption|refine(AHeap.set_ne _ _ (by first|assumption|exact Ne.symm (by assumption))).trans ?_)))) hb hv hl hi) fun x1q1 h1q1 hx1q1=>?_;rw[<-ha,hok]at hx1q1;obtain⟨rfl,rfl⟩:=hx1q1;simp+decide only[qa,ev,putD,Slots.put,Slots.get,Slots.keep,if_true,if_false,true_and,↓qj,qf,↓QJ,QC,QG,List.length_cons,List.length_nil,List.getD_cons_zero,List.getD_cons_succ,↓qd,qb,List.getD_cons_zero,List.getD_cons_succ,Nat.zero_add,Nat.reduceAdd];apply hK;clear hK K;refine qO ?_;refine awp_rseq [0,2,4,18] (by rfl) fun K hK=>?_;simp+decide only[ev,putD,Slots.put,Slots.get,if_true,if_false,true_and,↓qj,qf,↓ZY,XG,ZN,↓Xc,agP,Qu,qI,qH,Qc,implies_true,Bool.not_false,Bool.not_true,Qo];refine Ye (by rfl) ?_;refine QH (by rfl) (by rfl) (c_wordH w0 _ B kp v l a.at_ BY (AHeap.set_same _ _ _) (by repeat (first|exact Sub.refl _|assumption|refine Sub.set_both ?_ _ _|refine Sub.trans_set ?_ (by repeat (first|assumption|refine(AHeap.set_ne _ _ (by first|assumption|exact Ne.symm (by assumption))).trans ?_)))) hv hl) fun x2q4 h2q4 hx2q4=>?_;obtain⟨rfl,rfl⟩:=hx2q4;rw[<-hW];simp+decide only[qa,ev,qJ,qG,putD,Slots.put,Slots.get,Slots.keep,if_true,if_false,true_and,qI,Qc,↓qbL,XG,agP,Qu,qH,implies_true,Bool.not_false,Qo,Bool.false_or,ZN,↓QP,Qt,Qh,ZF];apply hK;clear hK K;refine qK (b:=_) rfl (fun hb1=>?_) (fun hb1=>?_)
 ·try simp only[Bool.not_eq_true']at hb1
  refine awp_rseq [2,3] (by rfl) fun K hK=>?_;simp+decide only[ev,qJ,qG,putD,Slots.put,Slots.get,if_false,true_and,↓Qn,↓qU,bld46_,evP,List.map_nil];refine qo (by rfl) (by rfl) (by repeat (first|exact AHeap.set_same _ _ _|assumption|refine(AHeap.set_ne _ _ (by first|assumption|exact Ne.symm (by assumption))).trans ?_)) sz46 (by rfl) (by rfl) (by first|exact Nat.le_refl _|decide|(simp;done)|(simp;omega)) (Nat.zero_le _) (by first|rfl|(simp+decide only[ev,putD,Slots.put,Slots.get,if_true,if_false,AVal.cells,Qz,Bool.and_true,Bool.true_and,hsc])) ?_;simp only[AHeap.set_set,AVal.cells];simp+decide only[qa,ev,qJ,qG,putD,Slots.put,Slots.get,Slots.keep,if_true,if_false,true_and,↓qd,qb,setAt,List.set_cons_zero,List.set_cons_succ,Nat.zero_add];apply hK;clear hK K;refine qN ?_;try simp only[Qf]
  refine QM (?_) ?_
  ·simp+decide only[Qy,qp,qi,Slots.get,if_true,if_false,and_true,qp,qi,qg ag46 sz46,qZ,qc,List.getD_cons_zero,List.getD_cons_succ,Nat.zero_add,QL,allLive,Bool.and_true,qc,List.getD_cons_zero,List.getD_cons_succ,Nat.zero_add,QL,allLive,Bool.and_true]
  simp+decide only[Slots.get,if_true,if_false,QW,qp,qi,qg ag46 sz46,qZ,qc,List.getD_cons_zero,List.getD_cons_succ,Nat.zero_add,QL,allLive,Bool.and_true,qc,List.getD_cons_zero,List.getD_cons_succ,Nat.zero_add,QL,allLive,Bool.and_true];rw[if_pos (by rw[<-hW];exact hb1)]at hp;rw[hp];simp only[hb1,Bool.false_eq_true,if_false];exact⟨H.set kp ⟨[v, .int .i64 a.at_],0⟩,Sub.trans_set (Sub.set_both (Sub.set hn_0q0) _ _) ((AHeap.set_ne _ _ ne_0q0_p).trans hn_0q0),⟨.nilSlice, .nilSlice,rfl,rfl,rfl,fun q=>by cases q⟩,rfl⟩
 ·try simp only[Bool.not_eq_false']at hb1
  rw[if_neg (by rw[<-hW,hb1];decide)]at hp;have hwl:a.at_<l.length:=wordAt_lt (hW.symm.trans hb1);rw[hb1,if_pos rfl];obtain⟨p1,p2,p3⟩:=qcO (l:=l) (i:=a.at_+1) (e:=true) (by omega);obtain⟨b,hbo⟩:∃b,b=QZ l (a.at_+1) true:=⟨_,rfl⟩
  rw[<-hbo]at hp p1 p2 p3;refine qW ?_;change Awp _ _ _ _ _ _ _;refine awp_rseq [2,4,5,6] (by rfl) fun K hK=>?_;simp+decide only[ev,putD,Slots.put,Slots.get,if_true,if_false,true_and,↓qj,qf];refine QH (by rfl) (by rfl) (c_operandH w0 _ B kp v l (a.at_+1) true (by repeat (first|exact AHeap.set_same _ _ _|assumption|refine(AHeap.set_ne _ _ (by first|assumption|exact Ne.symm (by assumption))).trans ?_)) (by repeat (first|exact Sub.refl _|assumption|refine Sub.set_both ?_ _ _|refine Sub.trans_set ?_ (by repeat (first|assumption|refine(AHeap.set_ne _ _ (by first|assumption|exact Ne.symm (by assumption))).trans ?_)))) hb hv hl (by omega)) fun x4q1 h4q1 hx4q1=>?_;rw[<-hbo]at hx4q1;obtain⟨rfl,rfl⟩:=hx4q1;simp+decide only[qa,ev,putD,Slots.put,Slots.get,Slots.keep,if_true,if_false,true_and,↓qj,qf,↓QJ,QC,QG,List.length_cons,List.length_nil,List.getD_cons_zero,List.getD_cons_succ,↓qd,qb,List.getD_cons_zero,List.getD_cons_succ,Nat.zero_add,Nat.reduceAdd];apply hK;clear hK K;refine awp_rseq [2,3] (by rfl) fun K hK=>?_;simp+decide only[ev,qJ,qG,putD,Slots.put,Slots.get,if_true,if_false,true_and,↓qj,qf,↓Qn,↓qU,bld46_0_1,evP,List.map_cons,List.map_nil,hSc];refine qo (by rfl) (by rfl) (by repeat (first|exact AHeap.set_same _ _ _|assumption|refine(AHeap.set_ne _ _ (by first|assumption|exact Ne.symm (by assumption))).trans ?_)) sz46 (by rfl) (by rfl) (by first|exact Nat.le_refl _|decide|(simp;done)|(simp;omega)) (Nat.zero_le _) (by first|rfl|(simp+decide only[ev,Slots.get,if_true,if_false,AVal.cells,Qz,Bool.and_true,hsc])) ?_;simp only[AHeap.set_set,AVal.cells];simp+decide only[qa,ev,putD,Slots.put,Slots.get,Slots.keep,if_true,if_false,true_and,↓qd,qb,setAt,List.set_cons_zero,List.set_cons_succ,Nat.zero_add];apply hK;clear hK K;refine qN ?_;refine QM (?_) ?_
  ·simp+decide only[Qy,qp,qi,Slots.get,if_true,if_false,and_true,qp,qi,qg ag46 sz46,qZ,qc,List.getD_cons_zero,List.getD_cons_succ,Nat.zero_add,allLive,Bool.and_true,qc,List.getD_cons_zero,List.getD_cons_succ,Nat.zero_add,allLive,Bool.and_true,hsl]
  simp+decide only[Slots.get,if_true,if_false,QW,qp,qi,qg ag46 sz46,qZ,qc,List.getD_cons_zero,List.getD_cons_succ,Nat.zero_add,allLive,Bool.and_true,qc,List.getD_cons_zero,List.getD_cons_succ,Nat.zero_add,allLive,Bool.and_true,hsl];rw[hp];exact⟨H.set kp ⟨[v, .int .i64 b.at_],0⟩,Sub.trans_set (Sub.set_both (Sub.set hn_0q0) _ _) ((AHeap.set_ne _ _ ne_0q0_p).trans hn_0q0),⟨_,_,rfl,hsc _,hsc _,fun q=>⟨qdF hv o4 o5.1 hok,qdF hv (p3 q).2.1 (p3 q).2.2.1 q⟩⟩,rfl⟩
theorem c_pair(w0:World)(H B:AHeap)(kp:Nat)(v:AVal)(l:List TokC)(i:Nat)(eb_p:H kp=some ⟨[v, .int .i64 i],0⟩)(hs_H:Sub B H)(hb:B kp=none)(hv:IsL w0 B 5 v (l.map Xw))(hl:l.length<=1099511627776)(hi:i<=l.length):
 ACall Tryz.prog w0 67 [.ptr (.own kp) 0] H (fun r h'=>PairR w0 B (YA l i) r/\h'=H.set kp ⟨[v, .int .i64 (YA l i).at_],0⟩):=by
 cases hok:(QZ l i false).ok with
 |false=>exact c_pairBad w0 H B kp v l i eb_p hs_H hb hv hl hi hok
 |true=>exact c_pairGood w0 H B kp v l i eb_p hs_H hb hv hl hi hok
end Go.Proofs.YtlhhaagmakhilaaGreatDoor
namespace Go.Proofs.YtlhhaagmakhilaaGreatDoor
open Go.AM
open Go.Proofs
open Go.Col
open Go.Tok
open Go.Cop
open Go.RowKit (Below)
set_option maxRecDepth 100000
def pairsR(l:List TokC)(i:Nat)(first:Bool)(acc:List RepC):Pairs:=Yz l (l.length+2-i) i first acc
theorem pairsR_step{l:List TokC}{i:Nat}(hi:i<=l.length)(first:Bool)(acc:List RepC):pairsR l i first acc=if first=true\/(i<l.length/\Zc l i [6]=false)then(if (YA l i).ok=false then⟨false,[],(YA l i).at_⟩else pairsR l (YA l i).at_ false (acc++[(YA l i).rep]))else⟨true,acc,i⟩:=by
 unfold pairsR;rw[show l.length+2-i=(l.length+1-i)+1 by omega,Yz];split
 ·simp only
  split
  ·rfl
  ·rename_i h1 h2
   obtain⟨p1,p2,p3⟩:=pair_at hi;have h3:(YA l i).ok=true:=by simpa using h2
   have:=(p3 h3).1;exact pairs_fuel l _ _ _ _ _ p2 (by omega) (by omega)
 ·rfl
def IsReps(w0:World)(h:AHeap)(v:AVal)(rs:List RepC):Prop:=∃qs:List RepQ,rs=qs.map (·.1)/\IsL w0 h 2 v (qs.map UY)/\∀q∈qs,RepOk w0 h q
theorem IsReps.mono{w0:World}{h h':AHeap}{v:AVal}{rs:List RepC}(hv:IsReps w0 h v rs)(hs:Sub h h'):IsReps w0 h' v rs:=by
 obtain⟨qs,h1,h2,h3⟩:=hv;exact⟨qs,h1,h2.mono hs,fun q hq=>(h3 q hq).mono hs⟩
theorem IsReps.none{w0:World}{h:AHeap}:IsReps w0 h .nilSlice []:=⟨[],rfl, .nil,fun q hq=>by cases hq⟩
theorem repQC_wide{qs:List RepQ}:∀x∈qs.map UY,x.length=2:=fun x hx=>by obtain⟨y,_,rfl⟩:=List.mem_map.1 hx;rfl
theorem qaj(es:Nat)(b:Option Buf):(QO es b).cells=[QO es b]:=by cases b<;>rfl
def stmC(t:TokC)(rv:AVal):List AVal:=[.int .u8 t.kind.toNat, .str t.text, .int .i64 t.line, .int .i64 t.col, .bool t.left,rv]
structure NewE(B H E:AHeap):Prop where
 sub:Sub B E
 off:∀j,H j≠none->B j=none->E j=none
theorem NewE.refl(B H:AHeap):NewE B H B:=⟨Sub.refl _,fun _ _ h=>h⟩
theorem newE_buf{B H G:AHeap}{es kp:Nat}{pb:Option Buf}{c:Blk}(hok:bufOk G es pb)(hg:Sub (H.del kp) G)(hp:G kp=some c):NewE B H (QS B pb)\/¬bufOk B es pb:=by
 by_cases hb:bufOk B es pb
 ·refine .inl ⟨Sub.buf hb,fun j h1 h2=>?_⟩
  cases pb with
  |none=>exact h2
  |some b=>
   have hne:j≠b.blk:=fun e=>by
    have h0:G b.blk=none:=hok.1;subst e;by_cases e2:b.blk=kp
    ·rw[e2,hp]at h0;cases h0
    ·cases hj:H b.blk with
     |none=>exact h1 hj
     |some d=>
      have:=hg b.blk d (by simp only[AHeap.del,e2,if_false];exact hj);rw[h0]at this;cases this
   exact(AHeap.set_ne _ _ hne).trans h2
 ·exact .inr hb
def StmR(w0:World)(H B:AHeap)(kp:Nat)(v:AVal)(s:Stm)(r:AVal)(h':AHeap):Prop:=
 Sub (H.del kp) h'/\h' kp=some ⟨[v, .int .i64 s.at_],0⟩/\∃rv E,r= .tuple [.agg (stmC s.name rv), .bool s.ok]/\NewE B H E/\Sub E h'/\IsReps w0 E rv s.reps
structure StG where
 at_:Nat
 G:AHeap
 pb:Option Buf
 qs:List RepQ
structure StOk(w0:World)(H B:AHeap)(kp k0 k3:Nat)(v:AVal)(l:List TokC)(t:TokC)(s:StG):Prop where
 at_:s.at_<=l.length
 sub:Sub (H.del kp) s.G
 par:s.G kp=some ⟨[v, .int .i64 s.at_],0⟩
 res:s.G k0=some ⟨[.int .u8 0, .str [], .int .i64 0, .int .i64 0, .bool false, .nilSlice],0⟩
 stm:s.G k3=some ⟨[.int .u8 t.kind.toNat, .str t.text, .int .i64 t.line, .int .i64 t.col, .bool t.left,QO 2 s.pb],0⟩
 ok:bufOk s.G 2 s.pb
 eq:Uf s.pb=(s.qs.map UY).flatten
 reps:∀q∈s.qs,RepOk w0 B q
 few:s.qs.length<=s.at_
set_option maxHeartbeats 2000000 in
theorem c_statement(w0:World)(H B:AHeap)(kp:Nat)(v:AVal)(l:List TokC)(i:Nat)(eb_p:H kp=some ⟨[v, .int .i64 i],0⟩)(hs_H:Sub B H)(hb:B kp=none)(hv:IsL w0 B 5 v (l.map Xw))(hl:l.length<=1000000)(hi:i<=l.length):
 ACall Tryz.prog w0 52 [.ptr (.own kp) 0] H (fun r h'=>StmR w0 H B kp v (QT l i) r h'):=by
 have hlv:=hv.live;have nv:=Zy hv;obtain⟨k1,hk1⟩:∃k,k=Zc l i [1,3]:=⟨_,rfl⟩
 obtain⟨W,hW⟩:∃W,W=ZZ l (i+1) Uj:=⟨_,rfl⟩
 obtain⟨O,ho⟩:∃O,O=QT l i:=⟨_,rfl⟩
 rw[<-ho];unfold QT at ho;rw[<-hk1,<-hW]at ho;have hdel:Sub (H.del kp) H:=fun j b hj=>by
  by_cases e:j=kp
  ·subst e;rw[ZK]at hj;cases hj
  ·simpa[AHeap.del,e]using hj
 have hsB:Sub B (H.del kp):=qaJ hs_H hb;have hso:(AVal.bool true).scal=true:=rfl;have hsn:(AVal.bool true).scal=true:=rfl;have hlo:(AVal.bool true).live=true:=rfl;have hln:(AVal.bool true).live=true:=rfl;have hSo:Sc .nilSlice=True:=eq_true trivial;have hSn:Sc .nilSlice=True:=eq_true trivial;have hbl:=Xj 2 none;refine qR (n:=79) (rs:=[.cell 2 91, .tmp 3]) Tryz.func52 rfl rfl rfl rfl (Nat.le_of_ble_eq_true rfl) ?_;simp only[Qd];refine awp_rseq [0,2] (by rfl) fun K hK=>?_;refine Qg ze91 (cs:=[.int .u8 0, .str [], .int .i64 0, .int .i64 0, .bool false, .nilSlice]) (by rfl) fun k0q0 hk0q0=>?_;have hn_0q0:H k0q0=none:=by first|assumption|(simp only[AHeap.set_none]at hk0q0;simp only[hk0q0])
 have hf_0q0:B k0q0=none:=Sub.none hs_H hn_0q0;have ne_0q0_p:k0q0≠kp:=AHeap.ne_some hn_0q0 eb_p;simp+decide only[qa,ev,qJ,qG,putD,Slots.put,Slots.keep,if_true,if_false,true_and,↓qd,qb];apply hK;clear hK K;refine qO ?_;refine awp_rseq [0,2,11] (by rfl) fun K hK=>?_;simp+decide only[ev,putD,Slots.put,Slots.get,if_true,if_false,true_and,↓qj,qf];refine QD (cs:=byteCells [1,3]) (by kernel_rfl) fun k1q1 hk1q1=>?_;have ne_1q1_0q0:k1q1≠k0q0:=by simp only[AHeap.set_none]at hk1q1;simp only[hk1q1,ne_eq,not_false_eq_true]
 have hn_1q1:H k1q1=none:=by first|assumption|(simp only[AHeap.set_none]at hk1q1;simp only[hk1q1])
 have hf_1q1:B k1q1=none:=Sub.none hs_H hn_1q1;have ne_1q1_p:k1q1≠kp:=AHeap.ne_some hn_1q1 eb_p;refine qM (V:= .bool k1) (by rfl) (by rfl) (by rw[hk1];exact c_is w0 _ kp _ l i _ [1,3] (by repeat (first|exact AHeap.set_same _ _ _|assumption|refine(AHeap.set_ne _ _ (by first|assumption|exact Ne.symm (by assumption))).trans ?_)) (hv.mono (by repeat (first|exact Sub.refl _|assumption|refine Sub.set_both ?_ _ _|refine Sub.trans_set ?_ (by repeat (first|assumption|refine(AHeap.set_ne _ _ (by first|assumption|exact Ne.symm (by assumption))).trans ?_))))) (qaM (k:=k1q1) (ks:=[1,3]) (by repeat (first|exact AHeap.set_same _ _ _|assumption|refine(AHeap.set_ne _ _ (by first|assumption|exact Ne.symm (by assumption))).trans ?_))) (by decide)) ?_;simp+decide only[qa,ev,putD,Slots.put,Slots.get,Slots.keep,if_true,if_false,true_and,↓ZY,XG,ZN];apply hK;clear hK K;refine qK (b:=_) rfl (fun hb1=>?_) (fun hb1=>?_)
 ·try simp only[Bool.not_eq_true']at hb1
  refine awp_rseq [2,3] (by rfl) fun K hK=>?_;simp+decide only[ev,qJ,qG,putD,Slots.put,Slots.get,if_false,true_and,↓Qn,↓qU,bld91_,evP,List.map_nil];refine qo (by rfl) (by rfl) (by repeat (first|exact AHeap.set_same _ _ _|assumption|refine(AHeap.set_ne _ _ (by first|assumption|exact Ne.symm (by assumption))).trans ?_)) Uw (by rfl) (by rfl) (by first|exact Nat.le_refl _|decide|(simp;done)|(simp;omega)) (Nat.zero_le _) (by first|rfl|(simp+decide only[ev,putD,Slots.put,Slots.get,if_true,if_false,AVal.cells,Qz,Bool.and_true,Bool.true_and,hso,hsn,Ue,XA,XF,Xn])) ?_;simp only[AVal.cells];simp+decide only[qa,ev,qJ,qG,putD,Slots.put,Slots.get,Slots.keep,if_true,if_false,true_and,↓qd,qb,setAt,List.set_cons_zero,List.set_cons_succ,Nat.zero_add,Nat.reduceAdd];apply hK;clear hK K;refine qN ?_;try simp only[Qf]
  refine QM (?_) ?_
  ·simp+decide only[Qy,qp,qi,Slots.get,if_true,if_false,and_true,qp,qi,qg qde Uw,qZ,qc,List.getD_cons_zero,List.getD_cons_succ,Nat.zero_add,Nat.reduceAdd,qC,qh,qE,QL,allLive,Bool.and_true,qc,List.getD_cons_zero,List.getD_cons_succ,Nat.zero_add,Nat.reduceAdd,qC,qh,qE,QL,allLive,Bool.and_true]
  simp+decide only[Slots.get,if_true,if_false,QW,qp,qi,qg qde Uw,qZ,qc,List.getD_cons_zero,List.getD_cons_succ,Nat.zero_add,Nat.reduceAdd,qC,qh,qE,QL,allLive,Bool.and_true,qc,List.getD_cons_zero,List.getD_cons_succ,Nat.zero_add,Nat.reduceAdd,qC,qh,qE,QL,allLive,Bool.and_true];rw[if_pos hb1]at ho;rw[ho];exact⟨H,(by repeat (first|exact Sub.refl _|assumption|refine Sub.set_both ?_ _ _|refine Sub.trans_set ?_ (by repeat (first|assumption|refine(AHeap.set_ne _ _ (by first|assumption|exact Ne.symm (by assumption))).trans ?_)))),hdel,eb_p, .nilSlice,B,rfl,NewE.refl _ _,hs_H,IsReps.none⟩
 ·try simp only[Bool.not_eq_false']at hb1
  rw[if_neg (by rw[hb1];decide)]at ho;have hlt:i<l.length:=Ud (hk1.symm.trans hb1);obtain⟨lc,o,c,rfl⟩:=UI hv (by omega);obtain⟨t,ht⟩:∃t,t=l.getD i Uh:=⟨_,rfl⟩
  rw[show l.getD i noT=t from ht.symm]at ho;have hd0:(H.del kp) k0q0=none:=by simp[AHeap.del,ne_0q0_p,hn_0q0]
  refine qW ?_;change Awp _ _ _ _ _ _ _;obtain⟨H3,hH3⟩:∃H3,H3=H.set k0q0 ⟨[.int .u8 0, .str [], .int .i64 0, .int .i64 0, .bool false, .nilSlice],0⟩:=⟨_,rfl⟩
  refine Awp.forget (h':=H3) (by rw[hH3];exact(by repeat (first|exact Sub.refl _|assumption|refine Sub.set_both ?_ _ _|refine Sub.trans_set ?_ (by repeat (first|assumption|refine(AHeap.set_ne _ _ (by first|assumption|exact Ne.symm (by assumption))).trans ?_))))) ?_;have hs_H3:Sub B H3:=by rw[hH3];exact(by repeat (first|exact Sub.refl _|assumption|refine Sub.set_both ?_ _ _|refine Sub.trans_set ?_ (by repeat (first|assumption|refine(AHeap.set_ne _ _ (by first|assumption|exact Ne.symm (by assumption))).trans ?_))))
  have hd3:Sub (H.del kp) H3:=by rw[hH3];exact hdel.trans (Sub.set hn_0q0)
  have eb_p:H3 kp=some ⟨[.slice lc o l.length c, .int .i64 i],0⟩:=by rw[hH3];exact(by repeat (first|exact AHeap.set_same _ _ _|assumption|refine(AHeap.set_ne _ _ (by first|assumption|exact Ne.symm (by assumption))).trans ?_))
  have eb_0q0:H3 k0q0=some ⟨[.int .u8 0, .str [], .int .i64 0, .int .i64 0, .bool false, .nilSlice],0⟩:=by rw[hH3];exact AHeap.set_same _ _ _
  obtain⟨e0,e1,e2,e3,e4⟩:=qbd (hv.mono hs_H3) hlt;rw[<-ht]at e0 e1 e2 e3 e4;have e2':rd w0 H3 lc (o+i*5+1+1)= .int .i64 t.line:=e2;have e3':rd w0 H3 lc (o+i*5+1+1+1)= .int .i64 t.col:=e3;have e4':rd w0 H3 lc (o+i*5+1+1+1+1)= .bool t.left:=e4;refine Ww 12 [] [0,2,4] mixed (by kernel_rfl) (by rfl) fun K hK=>?_;simp only[List.take_succ_cons,List.take_zero,List.drop_succ_cons,List.drop_zero];simp+decide only[ev,qJ,qG,putD,Slots.put,Slots.get,if_true,if_false,true_and,↓Us,qf,↓Wm,qL,Ql,↓Zr,ql,UC,↓WH,Zp,qw UF,Yr,qw ag3,↓qcR,Qk Tryz.underlying26 Xk,Um,qg Zw Xk,↓qat,↓qU,bld91_0,evP,List.map_cons,List.map_nil,Qr w0 eb_p,qc,List.getD_cons_zero,List.getD_cons_succ,Nat.zero_add,qC,qh,qE,allLive,Bool.and_true,hlv,e0,e1,e2',e3',e4',Int.toNat_natCast];repeat (with_reducible refine And.intro ?_ ?_;· first|trivial|omega|(intro hg;simp only[Bool.and_eq_true,Bool.or_eq_true,Bool.not_eq_true',Bool.and_eq_false_iff,Bool.or_eq_false_iff,Bool.not_eq_false',decide_eq_true_eq,decide_eq_false_iff_not,Zd]at hg;omega))
  refine fOps_lay (by rfl) ?_;refine Qg ze91 (cs:=[.int .u8 0, .str [], .int .i64 0, .int .i64 0, .bool false, .nilSlice]) (by rfl) fun k3q11 hk3q11=>?_;have hn_3q11:H3 k3q11=none:=by first|assumption|(simp only[AHeap.set_none]at hk3q11;simp only[hk3q11])
  have hf_3q11:B k3q11=none:=Sub.none hs_H3 hn_3q11;have ne_3q11_p:k3q11≠kp:=AHeap.ne_some hn_3q11 eb_p;have ne_3q11_0q0:k3q11≠k0q0:=AHeap.ne_some hn_3q11 eb_0q0;rw[qa];try simp only[YJ]
  refine qo (by rfl) (by rfl) (by repeat (first|exact AHeap.set_same _ _ _|assumption|refine(AHeap.set_ne _ _ (by first|assumption|exact Ne.symm (by assumption))).trans ?_)) Uw (by rfl) (by rfl) (by first|exact Nat.le_refl _|decide|(simp;done)|(simp;omega)) (Nat.zero_le _) (by first|rfl|(simp+decide only[ev,putD,Slots.put,Slots.get,if_true,if_false,AVal.cells,Qz,Bool.and_true,Bool.true_and,hso,hsn,Ue,XA,XF,Xn])) ?_;simp only[AHeap.set_set,AVal.cells];simp+decide only[qa,ev,putD,Slots.put,Slots.get,Slots.keep,if_true,if_false,setAt,List.set_cons_zero,List.set_cons_succ,Nat.zero_add,Nat.reduceAdd];apply hK;clear hK K;refine awp_rseq [0,2,4] (by rfl) fun K hK=>?_;simp+decide only[ev,qJ,qG,putD,Slots.put,Slots.get,if_true,if_false,true_and,↓qj,qf,↓Qi,qL,Ql,↓qA,ql,Yr,↓qF,Qa,qw ag3,↓qB,qm,qD,cond_false,qz,Xa,QU,ne_eq,not_false_eq_true,ne_3q11_p.symm,Qr w0 eb_p,List.getD_cons_zero,List.getD_cons_succ,Nat.zero_add,qh];try simp(disch:=omega)only[wrap_i64]
  refine qo (by rfl) (by rfl) (by repeat (first|exact AHeap.set_same _ _ _|assumption|refine(AHeap.set_ne _ _ (by first|assumption|exact Ne.symm (by assumption))).trans ?_)) sz3 (by rfl) (by rfl) (by first|exact Nat.le_refl _|decide|(simp;done)|(simp;omega)) (Nat.zero_le _) (by first|rfl|(simp+decide only[ev,putD,Slots.put,Slots.get,if_true,if_false,AVal.cells,Qz,Bool.and_true,Bool.true_and,hso,hsn,Ue,XA,XF,Xn])) ?_;simp only[AVal.cells];simp+decide only[qa,ev,putD,Slots.get,Slots.keep,if_true,if_false,setAt,List.set_cons_zero,List.set_cons_succ];apply hK;clear hK K;refine qO ?_;refine awp_rseq [0,2,4,32] (by rfl) fun K hK=>?_;simp+decide only[ev,putD,Slots.put,Slots.get,if_true,if_false,true_and,↓qj,qf];refine QH (by rfl) (by rfl) (c_wordH w0 _ B kp _ l (i+1) Uj (by repeat (first|exact AHeap.set_same _ _ _|assumption|refine(AHeap.set_ne _ _ (by first|assumption|exact Ne.symm (by assumption))).trans ?_)) (by repeat (first|exact Sub.refl _|assumption|refine Sub.set_both ?_ _ _|refine Sub.trans_set ?_ (by repeat (first|assumption|refine(AHeap.set_ne _ _ (by first|assumption|exact Ne.symm (by assumption))).trans ?_)))) hv (by omega)) fun x5q1 h5q1 hx5q1=>?_;rw[<-hW]at hx5q1;obtain⟨rfl,rfl⟩:=hx5q1;have hn3H:H k3q11=none:=by
   have:=hn_3q11;rw[hH3,AHeap.set_ne _ _ ne_3q11_0q0]at this;exact this
  obtain⟨P,hP⟩:∃P:Pairs,P=(if W=true then Yz l (l.length+2) (i+2) true []else⟨true,[],i+1⟩):=⟨_,rfl⟩
  rw[<-hP]at ho;simp+decide only[qa,putD,Slots.put,Slots.keep,if_true,if_false];apply hK;clear hK K;refine Ui [0,2,4] (fun s:StG=>[(0, .ptr (.own kp) 0),(2, .ptr (.own k0q0) 0),(4, .ptr (.own k3q11) 0)]) (fun s:StG=>QS s.G s.pb) (fun s:StG=>StOk w0 H B kp k0q0 k3q11 (.slice lc o l.length c) l t s/\P=⟨true,s.qs.map (·.1),s.at_⟩) ?_ ?_
  ·refine qK (b:=_) rfl (fun hb2=>?_) (fun hb2=>?_)
   ·skip
    rw[if_pos hb2]at hP;have hlt2:i+1<l.length:=wordAt_lt (hW.symm.trans hb2);have hPr:P=pairsR l (i+2) true []:=hP.trans (pairs_fuel l _ _ _ _ _ (by omega) (by omega) (by omega));rw[hb2,if_pos rfl];obtain⟨G0,hG0⟩:∃G0,G0=(H3.set k3q11 ⟨[.int .u8 t.kind.toNat, .str t.text, .int .i64 t.line, .int .i64 t.col, .bool t.left, .nilSlice],0⟩).set kp ⟨[.slice lc o l.length c, .int .i64 ((i+2:Nat):Int)],0⟩:=⟨_,rfl⟩
    refine Awp.forget (h':=G0) (by rw[hG0];first|exact Sub.refl _|(rw[AHeap.set_set];exact Sub.refl _)) ?_;have hs_G0:Sub B G0:=by rw[hG0];exact(by repeat (first|exact Sub.refl _|assumption|refine Sub.set_both ?_ _ _|refine Sub.trans_set ?_ (by repeat (first|assumption|refine(AHeap.set_ne _ _ (by first|assumption|exact Ne.symm (by assumption))).trans ?_))))
    have eb_p:G0 kp=some ⟨[.slice lc o l.length c, .int .i64 ((i+2:Nat):Int)],0⟩:=by rw[hG0];exact AHeap.set_same _ _ _
    have eb_0q0:G0 k0q0=some ⟨[.int .u8 0, .str [], .int .i64 0, .int .i64 0, .bool false, .nilSlice],0⟩:=by rw[hG0];exact(by repeat (first|exact AHeap.set_same _ _ _|assumption|refine(AHeap.set_ne _ _ (by first|assumption|exact Ne.symm (by assumption))).trans ?_))
    have eb_3q11:G0 k3q11=some ⟨[.int .u8 t.kind.toNat, .str t.text, .int .i64 t.line, .int .i64 t.col, .bool t.left, .nilSlice],0⟩:=by rw[hG0];exact(by repeat (first|exact AHeap.set_same _ _ _|assumption|refine(AHeap.set_ne _ _ (by first|assumption|exact Ne.symm (by assumption))).trans ?_))
    have hdG0:Sub (H.del kp) G0:=by rw[hG0];exact Zg (hd3.trans (Sub.set hn_3q11)) (ZK kp) _
    clear hG0;refine awp_rseq [0,2,4,5] (by rfl) fun K hK=>?_;simp+decide only[qa,ev,qJ,qG,putD,Slots.put,Slots.keep,if_true,if_false,true_and,↓qd,qb];apply hK;clear hK K;refine Qv ?_;refine XE [0,2,4,5] (fun g:Bool×StG=>[(0, .ptr (.own kp) 0),(2, .ptr (.own k0q0) 0),(4, .ptr (.own k3q11) 0),(5, .bool g.1)]) (fun g:Bool×StG=>QS g.2.G g.2.pb) (fun g:Bool×StG=>StOk w0 H B kp k0q0 k3q11 (.slice lc o l.length c) l t g.2/\P=pairsR l g.2.at_ g.1 (g.2.qs.map (·.1))) (fun g:Bool×StG=>l.length-g.2.at_) ⟨true,⟨i+2,G0,none,[]⟩⟩ (by rfl) (Sub.refl _) ⟨⟨by simp only;omega,hdG0,eb_p,eb_0q0,eb_3q11,trivial,rfl,(fun q hq=>by cases hq),Nat.zero_le _⟩,hPr⟩ ?_;rintro⟨first,⟨at_,G,pb,qs⟩⟩ ⟨⟨g1,g2,g3,g4,g5,g6,g7,g8,g9⟩,hPr⟩;simp only at g1 g2 g3 g4 g5 g6 g7 g8 g9 hPr|-
    obtain⟨H7,hH7⟩:∃H7,H7=QS G pb:=⟨_,rfl⟩
    have hs_H7:Sub B H7:=by rw[hH7];exact(hsB.trans g2).trans (Sub.buf g6)
    have eb_p:H7 kp=some ⟨[.slice lc o l.length c, .int .i64 at_],0⟩:=by rw[hH7];exact ZL g6 g3
    have eb_0q0:H7 k0q0=some ⟨[.int .u8 0, .str [], .int .i64 0, .int .i64 0, .bool false, .nilSlice],0⟩:=by rw[hH7];exact ZL g6 g4
    have eb_3q11:H7 k3q11=some ⟨[.int .u8 t.kind.toNat, .str t.text, .int .i64 t.line, .int .i64 t.col, .bool t.left,QO 2 pb],0⟩:=by rw[hH7];exact ZL g6 g5
    have hbl:=Xj 2 pb;rw[<-hH7];refine qO ?_;refine qdb [0,1,2,3,4,5,6,7,8,9,10,11,12,13,14,15,16,17,18] [none,none,none,none,none,none,none,none,none,none,none,none,none,none,none,some 14,some 15,some 16,some 17] 19 [0,2,4,51] mixed (by kernel_rfl) (by rfl) fun K hK=>?_;simp only[Yy,List.filterMap_cons,List.filterMap_nil,List.getElem?_cons_zero,List.getElem?_cons_succ];simp+decide only[qa,ev,putD,Slots.put,Slots.get,if_true,if_false,true_and,qaY,qbr,WZ,↓qj,qf,↓Xc,agP,Qu,qI,qH,QR,Yk,qy,Qc,cv_cv,implies_true,↓ZV,qL,Ql,qbu,qbv,↓Xt,ql,Yr,Zt,Zu,↓Zi,XO,WF,qdd,qw ag3,UC,qw UF,↓qbA,QK,Zj Tryz.underlying26,cv_len,cp_len,↓Xd,qm,qV,cond_false,XW,qaR,Zb,qaS,qz,XZ,Qr w0 eb_p,List.getD_cons_zero,List.getD_cons_succ,Nat.zero_add,qh,hlv];refine aOps_gbuild (cs:=byteCells [6]) (g:=Qs (!first) (.bool (decide ((at_:Int)<l.length)))) (by rfl) (QR _ _) (fun _=>by kernel_rfl) fun k7q14 h7q14 hs7 hb7=>?_;have hs_h7q14:Sub B h7q14:=Sub.trans (by repeat (first|exact Sub.refl _|assumption|refine Sub.trans_set ?_ (by assumption))) hs7;have hr_h7q14:Sub H7 h7q14:=Sub.trans (by repeat (first|exact Sub.refl _|assumption|refine Sub.trans_set ?_ (by assumption))) hs7;have eb_p:=hs7 kp _ (by repeat (first|exact AHeap.set_same _ _ _|assumption|refine(AHeap.set_ne _ _ (by first|assumption|exact Ne.symm (by assumption))).trans ?_));have eb_0q0:=hs7 k0q0 _ (by repeat (first|exact AHeap.set_same _ _ _|assumption|refine(AHeap.set_ne _ _ (by first|assumption|exact Ne.symm (by assumption))).trans ?_));have eb_3q11:=hs7 k3q11 _ (by repeat (first|exact AHeap.set_same _ _ _|assumption|refine(AHeap.set_ne _ _ (by first|assumption|exact Ne.symm (by assumption))).trans ?_));rw[qa];refine And.intro (by first|exact Sub.refl _|assumption|exact Sub.set (by assumption)) ?_;simp+decide only[putD,Slots.put,if_false,qy,Yk]
    (refine XK (V:= .bool (Zc l at_ [6])) (f:=_) (cap:=_) (xs:=_) (by first|rfl|(simp+decide only[gv,qI,Slots.get,if_true,if_false,QR])) (fun hg=>⟨rfl,?_⟩) (fun hg=>c_is w0 _ kp _ l at_ _ [6] (by repeat (first|exact AHeap.set_same _ _ _|assumption|refine(AHeap.set_ne _ _ (by first|assumption|exact Ne.symm (by assumption))).trans ?_)) (hv.mono (by repeat (first|exact Sub.refl _|assumption|refine Sub.set_both ?_ _ _|refine Sub.trans_set ?_ (by repeat (first|assumption|refine(AHeap.set_ne _ _ (by first|assumption|exact Ne.symm (by assumption))).trans ?_))))) (qaM (k:=k7q14) (ks:=[6]) (hb7 hg)) (by decide)) ?_;· (simp+decide only[gv,qI,Slots.get,if_true,if_false,qy,Yk]at hg;simp+decide only[evs,ev,Slots.get,if_true,if_false,hg,Qo,List.append_nil,List.map_cons,List.map_nil]<;>try rfl))
    rw[qa];refine And.intro (by first|exact Sub.refl _|assumption|exact Sub.set (by assumption)) ?_;simp+decide only[qa,ev,qJ,qG,putD,Slots.put,Slots.get,Slots.keep,if_true,if_false,true_and,WZ,gv,qI,qy,Qc,Yk,↓qbL,XG,agP,Qu,qH,QR,implies_true,ZN,cv_un,cp_un,↓ag_pick,Qt,Qh,XV,cp_nest1,Xl,ZF,cv_pick,cp_pick,↓QP];apply hK;clear hK K;refine qK (b:=_) rfl (fun hb3=>?_) (fun hb3=>?_)
    ·try simp only[decide_eq_true_eq,Bool.not_eq_true',Bool.and_eq_true,Bool.or_eq_true]at hb3
     have hst:=pairsR_step g1 first (qs.map (·.1))
     have hc3:first=true\/(at_<l.length/\Zc l at_ [6]=false):=by
      rcases hb3 with q|q
      ·exact .inl q
      ·exact .inr ⟨by omega,q.2⟩
     rw[if_pos hc3]at hst;obtain⟨p1,p2,p3⟩:=pair_at (l:=l) (i:=at_) g1;obtain⟨p,hp⟩:∃p,p=YA l at_:=⟨_,rfl⟩
     rw[<-hp]at hst p1 p2 p3;refine qW ?_;change Awp _ _ _ _ _ _ _;refine qO ?_;refine Qv ?_;refine awp_rseq [0,2,4,6,7] (by rfl) fun K hK=>?_;simp+decide only[ev,putD,Slots.put,Slots.get,if_true,if_false,true_and,↓qj,qf];refine QH (by rfl) (by rfl) (c_pair w0 _ B kp _ l at_ (by repeat (first|exact AHeap.set_same _ _ _|assumption|refine(AHeap.set_ne _ _ (by first|assumption|exact Ne.symm (by assumption))).trans ?_)) (by repeat (first|exact Sub.refl _|assumption|refine Sub.set_both ?_ _ _|refine Sub.trans_set ?_ (by repeat (first|assumption|refine(AHeap.set_ne _ _ (by first|assumption|exact Ne.symm (by assumption))).trans ?_)))) hb hv (by omega) g1) fun x9q1 h9q1 hx9q1=>?_;rw[<-hp]at hx9q1;obtain⟨⟨ov,nw,rfl,hso,hsn,hrep⟩,rfl⟩:=hx9q1;have hlo:=ZW hso;have hln:=ZW hsn;simp+decide only[ev,putD,Slots.put,Slots.get,if_true,if_false,true_and,↓qj,qf,↓QJ,QC,QG,List.length_cons,List.length_nil,List.getD_cons_zero,List.getD_cons_succ,List.getD_cons_zero,List.getD_cons_succ,Nat.zero_add,Nat.reduceAdd];refine Qg ze46 (cs:=[.nilSlice, .nilSlice]) (by rfl) fun k9q5 hk9q5=>?_;have hn_9q5:h7q14 k9q5=none:=by first|assumption|(simp only[AHeap.set_none]at hk9q5;simp only[hk9q5])
     have hf_9q5:B k9q5=none:=Sub.none hs_h7q14 hn_9q5;have ne_9q5_p:k9q5≠kp:=AHeap.ne_some hn_9q5 eb_p;have ne_9q5_0q0:k9q5≠k0q0:=AHeap.ne_some hn_9q5 eb_0q0;have ne_9q5_3q11:k9q5≠k3q11:=AHeap.ne_some hn_9q5 eb_3q11;refine qo (by rfl) (by rfl) (by repeat (first|exact AHeap.set_same _ _ _|assumption|refine(AHeap.set_ne _ _ (by first|assumption|exact Ne.symm (by assumption))).trans ?_)) sz46 (by rfl) (by rfl) (by first|exact Nat.le_refl _|decide|(simp;done)|(simp;omega)) (Nat.zero_le _) (by first|rfl|(simp+decide only[ev,putD,Slots.put,Slots.get,if_true,if_false,AVal.cells,Qz,Bool.and_true,hso,hsn])) ?_;simp only[AHeap.set_set,AVal.cells];simp+decide only[qa,ev,putD,Slots.put,Slots.get,Slots.keep,if_true,if_false,true_and,↓qd,qb,setAt,List.set_cons_zero,List.set_cons_succ,Nat.zero_add];apply hK;clear hK K;refine qO ?_;refine awp_rseq [0,2,4,6,58] (by rfl) fun K hK=>?_;simp+decide only[qa,ev,putD,Slots.put,Slots.get,Slots.keep,if_true,if_false,true_and,↓qj,qf,↓ZY,XG,ZN];apply hK;clear hK K;refine qK (b:=_) rfl (fun hb4=>?_) (fun hb4=>?_)
     ·try simp only[Bool.not_eq_true']at hb4
      rw[if_pos (by simpa using hb4)]at hst;rw[hPr,hst]at ho;refine awp_rseq [2,3] (by rfl) fun K hK=>?_;simp+decide only[ev,qJ,qG,putD,Slots.put,Slots.get,if_false,true_and,↓Qn,↓qU,bld91_,evP,List.map_nil];refine qo (by rfl) (by rfl) (by repeat (first|exact AHeap.set_same _ _ _|assumption|refine(AHeap.set_ne _ _ (by first|assumption|exact Ne.symm (by assumption))).trans ?_)) Uw (by rfl) (by rfl) (by first|exact Nat.le_refl _|decide|(simp;done)|(simp;omega)) (Nat.zero_le _) (by first|rfl|(simp+decide only[ev,putD,Slots.put,Slots.get,if_true,if_false,AVal.cells,Qz,Bool.and_true,Bool.true_and,hso,hsn,Ue,XA,XF,Xn])) ?_;simp only[AVal.cells];simp+decide only[qa,ev,qJ,qG,putD,Slots.put,Slots.get,Slots.keep,if_true,if_false,true_and,↓qd,qb,setAt,List.set_cons_zero,List.set_cons_succ,Nat.zero_add,Nat.reduceAdd];apply hK;clear hK K;refine qN ?_;try simp only[Qf,Qp]
      refine QM (?_) ?_
      ·simp+decide only[Qy,qp,qi,Slots.get,if_true,if_false,and_true,qp,qi,qg qde Uw,qZ,qc,List.getD_cons_zero,List.getD_cons_succ,Nat.zero_add,Nat.reduceAdd,qC,qh,qE,QL,allLive,Bool.and_true,qc,List.getD_cons_zero,List.getD_cons_succ,Nat.zero_add,Nat.reduceAdd,qC,qh,qE,QL,allLive,Bool.and_true]
      simp+decide only[Slots.get,if_true,if_false,QW,qp,qi,qg qde Uw,qZ,qc,List.getD_cons_zero,List.getD_cons_succ,Nat.zero_add,Nat.reduceAdd,qC,qh,qE,QL,allLive,Bool.and_true,qc,List.getD_cons_zero,List.getD_cons_succ,Nat.zero_add,Nat.reduceAdd,qC,qh,qE,QL,allLive,Bool.and_true];have hsG:Sub G h7q14:=(show Sub G H7 by rw[hH7];exact Sub.buf g6).trans hs7;have ho':O=noStm p.at_:=by rw[ho];rfl
      rw[ho'];refine⟨(G.set kp ⟨[.slice lc o l.length c, .int .i64 p.at_],0⟩).set k0q0 ⟨[.int .u8 0, .str [], .int .i64 0, .int .i64 0, .bool false, .nilSlice],0⟩,?_,?_⟩
      ·exact Sub.set_both (Sub.trans_set (Sub.set_both hsG _ _) ((AHeap.set_ne _ _ ne_9q5_p).trans (Sub.none hsG hn_9q5))) _ _
      ·exact⟨Zg (Zg g2 (ZK kp) _) hd0 _,(AHeap.set_ne _ _ ne_0q0_p.symm).trans (AHeap.set_same _ _ _), .nilSlice,B,rfl,NewE.refl _ _,hsB.trans (Zg (Zg g2 (ZK kp) _) hd0 _),IsReps.none⟩
     ·try simp only[Bool.not_eq_false']at hb4
      have hok:p.ok=true:=by simpa using hb4
      rw[if_neg (by rw[hok];decide)]at hst;have hsG:Sub G h7q14:=(show Sub G H7 by rw[hH7];exact Sub.buf g6).trans hs7;have hrp:=hrep hok;have p4:=(p3 hok).1;refine qW ?_;change Awp _ _ _ _ _ _ _;refine XI [0,2,4] (by rfl) ?_;simp+decide only[ev,putD,Slots.put,Slots.get,if_true,if_false,true_and,↓qA,ql,fa91_1,↓qF,Qa,qw ag43,qg ag46 sz46,QU,ne_eq,not_false_eq_true,ne_9q5_3q11.symm,Qr w0 eb_3q11,ne_3q11_p,QV,qc,List.getD_cons_zero,List.getD_cons_succ,Nat.zero_add,allLive,Bool.and_true,hbl,hlo,hln];refine QD (cs:=[ov,nw]) (by kernel_rfl) fun k12q3 hk12q3=>?_;have ne_12q3_9q5:k12q3≠k9q5:=by simp only[AHeap.set_none]at hk12q3;simp only[hk12q3,ne_eq,not_false_eq_true]
      have hn_12q3:h7q14 k12q3=none:=by first|assumption|(simp only[AHeap.set_none]at hk12q3;simp only[hk12q3])
      have hf_12q3:B k12q3=none:=Sub.none hs_h7q14 hn_12q3;have ne_12q3_p:k12q3≠kp:=AHeap.ne_some hn_12q3 eb_p;have ne_12q3_0q0:k12q3≠k0q0:=AHeap.ne_some hn_12q3 eb_0q0;have ne_12q3_3q11:k12q3≠k3q11:=AHeap.ne_some hn_12q3 eb_3q11;refine XY (es:=2) (zs:=qs.map UY) (xs:=[[ov,nw]]) (hZ:=G.set kp ⟨[.slice lc o l.length c, .int .i64 p.at_],0⟩) (b:=pb) (by rfl) (by rfl) Tryz.underlying43 Tryz.underlying43 (fun k e=>by cases e) sz46 by46 ze46 (by rfl) (by decide) (by rfl) (ZG g6 g3 _) g7 repQC_wide (by rw[<-YS g6 g3,<-hH7];exact Sub.trans_set (Sub.trans_set (Sub.set_both hs7 _ _) ((AHeap.set_ne _ _ ne_9q5_p).trans (Sub.none hs7 hn_9q5))) ((AHeap.set_ne _ _ ne_12q3_p).trans (Sub.none hs7 hn_12q3))) (by rfl) (IsL.own (AHeap.set_same _ _ _) (by simp) (by rfl) (by simp[allLive,hlo,hln]) (.exact 1) (Nat.le_refl _)) (by simp[Qz,hso,hsn]) (by simp;omega) (by simp;omega) fun pb2 h12 o1 o2 o3=>?_;have eb12:h12 k3q11=some ⟨[.int .u8 t.kind.toNat, .str t.text, .int .i64 t.line, .int .i64 t.col, .bool t.left,QO 2 pb],0⟩:=o3 _ _ (ZL o1 ((AHeap.set_ne _ _ ne_3q11_p).trans g5));simp+decide only[ev,putD,Slots.put,Slots.get,if_true,if_false,true_and,↓qA,ql,fa91_1,Nat.zero_add];refine qo (v:=QO 2 pb2) (by rfl) (by rfl) eb12 sz43 (Xj _ _) (by rw[qaj];rfl) (Nat.le_refl _) (Nat.zero_le _) (by rw[qaj];simp[Qz,Ue]) ?_;simp only[setAt,qaj];simp+decide only[qa,putD,Slots.keep,if_true,if_false];change Awp _ _ _ _ _ _ _;refine XI [0,2,4,5] (by rfl) ?_;simp+decide only[qa,ev,qJ,qG,putD,Slots.put,Slots.keep,if_true,if_false,true_and,↓qd,qb];try simp only[Qj]
      exact⟨(false,⟨p.at_,(G.set kp ⟨[.slice lc o l.length c, .int .i64 p.at_],0⟩).set k3q11 ⟨[.int .u8 t.kind.toNat, .str t.text, .int .i64 t.line, .int .i64 t.col, .bool t.left,QO 2 pb2],0⟩,pb2,qs++[(p.rep,ov,nw)]⟩),rfl,by rw[<-YS o1 ((AHeap.set_ne _ _ ne_3q11_p).trans g5)];exact Sub.set_both o3 _ _,⟨⟨p2,Zg (Zg g2 (ZK kp) _) (by simp[AHeap.del,ne_3q11_p,hn3H]) _,(AHeap.set_ne _ _ ne_3q11_p.symm).trans (AHeap.set_same _ _ _),(AHeap.set_ne _ _ ne_3q11_0q0.symm).trans ((AHeap.set_ne _ _ ne_0q0_p).trans g4),AHeap.set_same _ _ _,ZG o1 ((AHeap.set_ne _ _ ne_3q11_p).trans g5) _,by rw[o2,List.map_append];rfl,fun q hq=>by
       rcases List.mem_append.1 hq with z|z
       ·exact g8 q z
       ·rw[List.mem_singleton.1 z];exact hrp,by(simp only[List.length_append,List.length_cons,List.length_nil];omega)⟩,by simp only;rw[hPr,hst,List.map_append];rfl⟩,by simp only;omega⟩
    ·try simp only[decide_eq_false_iff_not,Bool.not_eq_false',Bool.and_eq_false_iff,Bool.or_eq_false_iff]at hb3
     have hst:=pairsR_step g1 first (qs.map (·.1))
     have hc3:¬(first=true\/(at_<l.length/\Zc l at_ [6]=false)):=by
      rintro(q|⟨q1,q2⟩)
      ·rw[q]at hb3
       exact absurd hb3.1 (by decide)
      ·rcases hb3.2 with z|z
       ·omega
       ·rw[q2]at z;cases z
     rw[if_neg hc3]at hst;rw[hst]at hPr;refine XJ ?_;first
     |exact⟨⟨at_,G,pb,qs⟩,rfl,by rw[hH7]at hs7;exact hs7,⟨g1,g2,g3,g4,g5,g6,g7,g8,g9⟩,hPr⟩
     |exact⟨⟨i+1,(H3.set k3q11 ⟨[.int .u8 t.kind.toNat, .str t.text, .int .i64 t.line, .int .i64 t.col, .bool t.left, .nilSlice],0⟩).set kp ⟨[.slice lc o l.length c, .int .i64 ((i+1:Nat):Int)],0⟩,none,[]⟩,rfl,(by first|exact Sub.refl _|(simp only[QS,AHeap.set_set];exact Sub.refl _)),⟨by(simp only;omega),Zg (hd3.trans (Sub.set hn_3q11)) (ZK kp) _,AHeap.set_same _ _ _,(by repeat (first|exact AHeap.set_same _ _ _|assumption|refine(AHeap.set_ne _ _ (by first|assumption|exact Ne.symm (by assumption))).trans ?_)),(by repeat (first|exact AHeap.set_same _ _ _|assumption|refine(AHeap.set_ne _ _ (by first|assumption|exact Ne.symm (by assumption))).trans ?_)),trivial,rfl,(fun q hq=>by cases hq),Nat.zero_le _⟩,hP⟩
   ·skip
    rw[if_neg (by rw[hb2];decide)]at hP;rw[hb2,if_neg (by decide)];refine qW ?_;try simp only[Qj]
    first
    |exact⟨⟨at_,G,pb,qs⟩,rfl,by rw[hH7]at hs7;exact hs7,⟨g1,g2,g3,g4,g5,g6,g7,g8,g9⟩,hPr⟩
    |exact⟨⟨i+1,(H3.set k3q11 ⟨[.int .u8 t.kind.toNat, .str t.text, .int .i64 t.line, .int .i64 t.col, .bool t.left, .nilSlice],0⟩).set kp ⟨[.slice lc o l.length c, .int .i64 ((i+1:Nat):Int)],0⟩,none,[]⟩,rfl,(by first|exact Sub.refl _|(simp only[QS,AHeap.set_set];exact Sub.refl _)),⟨by(simp only;omega),Zg (hd3.trans (Sub.set hn_3q11)) (ZK kp) _,AHeap.set_same _ _ _,(by repeat (first|exact AHeap.set_same _ _ _|assumption|refine(AHeap.set_ne _ _ (by first|assumption|exact Ne.symm (by assumption))).trans ?_)),(by repeat (first|exact AHeap.set_same _ _ _|assumption|refine(AHeap.set_ne _ _ (by first|assumption|exact Ne.symm (by assumption))).trans ?_)),trivial,rfl,(fun q hq=>by cases hq),Nat.zero_le _⟩,hP⟩
  ·rintro⟨at_,G,pb,qs⟩ ⟨⟨g1,g2,g3,g4,g5,g6,g7,g8,g9⟩,hPe⟩
   simp only at g1 g2 g3 g4 g5 g6 g7 g8 g9 hPe|-
   rw[hPe]at ho;obtain⟨H7,hH7⟩:∃H7,H7=QS G pb:=⟨_,rfl⟩
   have hs_H7:Sub B H7:=by rw[hH7];exact(hsB.trans g2).trans (Sub.buf g6)
   have hsG:Sub G H7:=by rw[hH7];exact Sub.buf g6
   have eb_p:H7 kp=some ⟨[.slice lc o l.length c, .int .i64 at_],0⟩:=by rw[hH7];exact ZL g6 g3
   have eb_0q0:H7 k0q0=some ⟨[.int .u8 0, .str [], .int .i64 0, .int .i64 0, .bool false, .nilSlice],0⟩:=by rw[hH7];exact ZL g6 g4
   have eb_3q11:H7 k3q11=some ⟨[.int .u8 t.kind.toNat, .str t.text, .int .i64 t.line, .int .i64 t.col, .bool t.left,QO 2 pb],0⟩:=by rw[hH7];exact ZL g6 g5
   have hbl:=Xj 2 pb;rw[<-hH7];refine qO ?_;skip;refine awp_rseq [0,2,4,69] (by rfl) fun K hK=>?_;simp+decide only[ev,putD,Slots.put,Slots.get,if_true,if_false,true_and,↓qj,qf];refine QD (cs:=byteCells [6]) (by kernel_rfl) fun k13q1 hk13q1=>?_;have hn_13q1:H7 k13q1=none:=by first|assumption|(simp only[AHeap.set_none]at hk13q1;simp only[hk13q1])
   have hf_13q1:B k13q1=none:=Sub.none hs_H7 hn_13q1;have ne_13q1_p:k13q1≠kp:=AHeap.ne_some hn_13q1 eb_p;have ne_13q1_0q0:k13q1≠k0q0:=AHeap.ne_some hn_13q1 eb_0q0;have ne_13q1_3q11:k13q1≠k3q11:=AHeap.ne_some hn_13q1 eb_3q11;refine qM (V:= .bool (Zc l at_ [6])) (by rfl) (by rfl) (c_is w0 _ kp _ l at_ _ [6] (by repeat (first|exact AHeap.set_same _ _ _|assumption|refine(AHeap.set_ne _ _ (by first|assumption|exact Ne.symm (by assumption))).trans ?_)) (hv.mono (by repeat (first|exact Sub.refl _|assumption|refine Sub.set_both ?_ _ _|refine Sub.trans_set ?_ (by repeat (first|assumption|refine(AHeap.set_ne _ _ (by first|assumption|exact Ne.symm (by assumption))).trans ?_))))) (qaM (k:=k13q1) (ks:=[6]) (by repeat (first|exact AHeap.set_same _ _ _|assumption|refine(AHeap.set_ne _ _ (by first|assumption|exact Ne.symm (by assumption))).trans ?_))) (by decide)) ?_;simp+decide only[qa,ev,putD,Slots.put,Slots.get,Slots.keep,if_true,if_false,true_and,↓ZY,XG,ZN];apply hK;clear hK K;refine qK (b:=_) rfl (fun hb5=>?_) (fun hb5=>?_)
   ·try simp only[Bool.not_eq_true']at hb5
    refine awp_rseq [2,3] (by rfl) fun K hK=>?_;simp+decide only[ev,qJ,qG,putD,Slots.put,Slots.get,if_false,true_and,↓Qn,↓qU,bld91_,evP,List.map_nil];refine qo (by rfl) (by rfl) (by repeat (first|exact AHeap.set_same _ _ _|assumption|refine(AHeap.set_ne _ _ (by first|assumption|exact Ne.symm (by assumption))).trans ?_)) Uw (by rfl) (by rfl) (by first|exact Nat.le_refl _|decide|(simp;done)|(simp;omega)) (Nat.zero_le _) (by first|rfl|(simp+decide only[ev,putD,Slots.put,Slots.get,if_true,if_false,AVal.cells,Qz,Bool.and_true,Bool.true_and,hso,hsn,Ue,XA,XF,Xn])) ?_;simp only[AVal.cells];simp+decide only[qa,ev,qJ,qG,putD,Slots.put,Slots.get,Slots.keep,if_true,if_false,true_and,↓qd,qb,setAt,List.set_cons_zero,List.set_cons_succ,Nat.zero_add,Nat.reduceAdd];apply hK;clear hK K;refine qN ?_;try simp only[Qf]
    refine QM (?_) ?_
    ·simp+decide only[Qy,qp,qi,Slots.get,if_true,if_false,and_true,qp,qi,qg qde Uw,qZ,qc,List.getD_cons_zero,List.getD_cons_succ,Nat.zero_add,Nat.reduceAdd,qC,qh,qE,QL,allLive,Bool.and_true,qc,List.getD_cons_zero,List.getD_cons_succ,Nat.zero_add,Nat.reduceAdd,qC,qh,qE,QL,allLive,Bool.and_true]
    simp+decide only[Slots.get,if_true,if_false,QW,qp,qi,qg qde Uw,qZ,qc,List.getD_cons_zero,List.getD_cons_succ,Nat.zero_add,Nat.reduceAdd,qC,qh,qE,QL,allLive,Bool.and_true,qc,List.getD_cons_zero,List.getD_cons_succ,Nat.zero_add,Nat.reduceAdd,qC,qh,qE,QL,allLive,Bool.and_true];have ho':O=noStm at_:=by
     rw[ho];unfold Ut;simp only[hb5,if_true,Bool.true_eq_false,if_false]
    rw[ho'];exact⟨G.set k0q0 ⟨[.int .u8 0, .str [], .int .i64 0, .int .i64 0, .bool false, .nilSlice],0⟩,Sub.set_both (Sub.trans_set hsG (Sub.none hsG hn_13q1)) _ _,Zg g2 hd0 _,(AHeap.set_ne _ _ ne_0q0_p.symm).trans g3, .nilSlice,B,rfl,NewE.refl _ _,hsB.trans (Zg g2 hd0 _),IsReps.none⟩
   ·try simp only[Bool.not_eq_false']at hb5
    have ho':O=⟨true,t,qs.map (·.1),at_+1⟩:=by
     rw[ho];unfold Ut;simp only[hb5,if_false,Bool.true_eq_false]
    refine qW ?_;change Awp _ _ _ _ _ _ _;refine awp_rseq [2,4] (by rfl) fun K hK=>?_;simp+decide only[ev,qJ,qG,putD,Slots.put,Slots.get,if_true,if_false,true_and,↓qj,qf,↓Qi,qL,Ql,↓qA,ql,Yr,↓qF,Qa,qw ag3,↓qB,qm,qD,cond_false,qz,Xa,QU,ne_eq,not_false_eq_true,ne_13q1_p.symm,Qr w0 eb_p,List.getD_cons_zero,List.getD_cons_succ,Nat.zero_add,qh];try simp(disch:=omega)only[wrap_i64]
    refine qo (by rfl) (by rfl) (by repeat (first|exact AHeap.set_same _ _ _|assumption|refine(AHeap.set_ne _ _ (by first|assumption|exact Ne.symm (by assumption))).trans ?_)) sz3 (by rfl) (by rfl) (by first|exact Nat.le_refl _|decide|(simp;done)|(simp;omega)) (Nat.zero_le _) (by first|rfl|(simp+decide only[ev,putD,Slots.put,Slots.get,if_true,if_false,AVal.cells,Qz,Bool.and_true,Bool.true_and,hso,hsn,Ue,XA,XF,Xn])) ?_;simp only[AVal.cells];simp+decide only[qa,ev,putD,Slots.get,Slots.keep,if_true,if_false,setAt,List.set_cons_zero,List.set_cons_succ];apply hK;clear hK K;refine awp_rseq [2,3] (by rfl) fun K hK=>?_;simp+decide only[ev,putD,Slots.put,Slots.get,if_true,if_false,true_and,↓qF,Qa,qg qde Uw,QU,ne_eq,not_false_eq_true,ne_13q1_3q11.symm,Qr w0 eb_3q11,ne_3q11_p,qc,List.getD_cons_zero,List.getD_cons_succ,Nat.zero_add,Nat.reduceAdd,qC,qh,qE,allLive,Bool.and_true,hbl];refine qo (by rfl) (by rfl) (by repeat (first|exact AHeap.set_same _ _ _|assumption|refine(AHeap.set_ne _ _ (by first|assumption|exact Ne.symm (by assumption))).trans ?_)) Uw (by rfl) (by rfl) (by first|exact Nat.le_refl _|decide|(simp;done)|(simp;omega)) (Nat.zero_le _) (by first|rfl|(simp+decide only[ev,Slots.get,if_true,if_false,AVal.cells,Qz,Bool.and_true,Ue,XA,XF,Xn])) ?_;simp only[AVal.cells];simp+decide only[qa,ev,qJ,qG,putD,Slots.put,Slots.get,Slots.keep,if_true,if_false,true_and,↓qd,qb,setAt,List.set_cons_zero,List.set_cons_succ,Nat.zero_add,Nat.reduceAdd];apply hK;clear hK K;refine qN ?_;refine QM (?_) ?_
    ·simp+decide only[Qy,qp,qi,Slots.get,if_true,if_false,and_true,qp,qi,qg qde Uw,qZ,qc,List.getD_cons_zero,List.getD_cons_succ,Nat.zero_add,Nat.reduceAdd,qC,qh,qE,allLive,Bool.and_true,qc,List.getD_cons_zero,List.getD_cons_succ,Nat.zero_add,Nat.reduceAdd,qC,qh,qE,allLive,Bool.and_true,hbl]
    simp+decide only[Slots.get,if_true,if_false,QW,qp,qi,qg qde Uw,qZ,qc,List.getD_cons_zero,List.getD_cons_succ,Nat.zero_add,Nat.reduceAdd,qC,qh,qE,allLive,Bool.and_true,qc,List.getD_cons_zero,List.getD_cons_succ,Nat.zero_add,Nat.reduceAdd,qC,qh,qE,allLive,Bool.and_true,hbl];rw[ho'];have k1:bufOk ((G.set kp ⟨[.slice lc o l.length c, .int .i64 ((at_+1:Nat):Int)],0⟩).set k0q0 ⟨[.int .u8 t.kind.toNat, .str t.text, .int .i64 t.line, .int .i64 t.col, .bool t.left,QO 2 pb],0⟩) 2 pb:=ZG (ZG g6 g3 _) ((AHeap.set_ne _ _ ne_0q0_p).trans g4) _;have k2:bufOk B 2 pb:=g6.sub (hsB.trans g2);have k3:=(newE_buf (B:=B) g6 g2 g3).resolve_right (fun n=>n k2);refine⟨QS ((G.set kp ⟨[.slice lc o l.length c, .int .i64 ((at_+1:Nat):Int)],0⟩).set k0q0 ⟨[.int .u8 t.kind.toNat, .str t.text, .int .i64 t.line, .int .i64 t.col, .bool t.left,QO 2 pb],0⟩) pb,?_,?_,?_,QO 2 pb,QS B pb,rfl,k3,?_,qs,rfl,IsL.buf k2 (by decide) g7 repQC_wide (Sub.refl _),fun q hq=>(g8 q hq).mono k3.sub⟩
    ·rw[<-YS (ZG g6 g3 _) ((AHeap.set_ne _ _ ne_0q0_p).trans g4),<-YS g6 g3,<-hH7]
     exact Sub.set_both (Sub.set_both (Sub.set hn_13q1) _ _) _ _
    ·exact(Zg (Zg g2 (ZK kp) _) hd0 _).trans (Sub.buf k1)
    ·exact ZL k1 ((AHeap.set_ne _ _ ne_0q0_p.symm).trans (AHeap.set_same _ _ _))
    ·exact Sub.bufBoth (hsB.trans (Zg (Zg g2 (ZK kp) _) hd0 _))
end Go.Proofs.YtlhhaagmakhilaaGreatDoor
namespace Go.Proofs.YtlhhaagmakhilaaGreatDoor
open Go.AM
open Go.Proofs
open Go.Col
open Go.Tok
open Go.Cop
open Go.RowKit (Below)
set_option maxRecDepth 100000
theorem copy_step{l:List TokC}{i:Nat}(hi:i<l.length):Xo l i=if ZZ l i COPY=true then i else Xo l (i+1):=by
 have hw:ZZ l i COPY=(decide ((l.getD i noT).kind=1) && decide ((l.getD i noT).text=COPY)):=by
  unfold ZZ Zc;rw[decide_eq_true hi,Bool.true_and];congr 1;simp
 unfold Xo;rw[drop_cons noT hi,List.takeWhile_cons,hw];cases (decide ((l.getD i noT).kind=1) && decide ((l.getD i noT).text=COPY))with
 |true=>simp
 |false=>
  simp only[Bool.not_false,if_true,Bool.false_eq_true,if_false,List.length_cons];omega
theorem copy_end{l:List TokC}{i:Nat}(hi:l.length<=i):Xo l i=i:=by
 unfold Xo;rw[List.drop_eq_nil_of_le hi];rfl
theorem NewE.none{B H E:AHeap}(h:NewE B H E){k:Nat}{c:Blk}(hk:H k=some c)(hb:B k=Option.none):E k=Option.none:=h.off k (by rw[hk];exact fun e=>by cases e) hb
def nextV(b:AVal)(t:TokC)(rv:AVal)(more:Bool)(f:FaultC):AVal:= .tuple [b, .agg (stmC t rv), .bool more,QN f]
def NextR(w0:World)(H B:AHeap)(kp:Nat)(v:AVal)(l:List TokC)(i:Nat)(r:AVal)(h':AHeap):Prop:=
 Sub (H.del kp) h'/\∃j:Nat,h' kp=some ⟨[v, .int .i64 j],0⟩/\j<=l.length/\
  ((l.length<=Xo l i/\∃bv,r=nextV bv noT .nilSlice false okF/\IsL w0 B 5 bv ((l.drop i).map Xw))\/
   (Xo l i<l.length/\(QT l (Xo l i+1)).ok=false/\r=nextV .nilSlice noT .nilSlice false (qaN l (Xo l i) (QT l (Xo l i+1)).at_))\/
   (Xo l i<l.length/\(QT l (Xo l i+1)).ok=true/\j=(QT l (Xo l i+1)).at_/\∃bv rv E,r=nextV bv (QT l (Xo l i+1)).name rv true okF/\IsL w0 B 5 bv ((qbU l i (Xo l i)).map Xw)/\NewE B H E/\Sub E h'/\IsReps w0 E rv (QT l (Xo l i+1)).reps))
set_option maxHeartbeats 2000000 in
theorem c_nextP(w0:World)(H B:AHeap)(kp:Nat)(v:AVal)(l:List TokC)(i:Nat)(eb_p:H kp=some ⟨[v, .int .i64 i],0⟩)(hs_H:Sub B H)(hb:B kp=none)(hv:IsL w0 B 5 v (l.map Xw))(hl:l.length<=1000000)(hi:i<=l.length):
 ACall Tryz.prog w0 43 [.ptr (.own kp) 0] H (NextR w0 H B kp v l i):=by
 have hlv:=hv.live;have nv:=Zy hv;have hdel:Sub (H.del kp) H:=fun j b hj=>by
  by_cases e:j=kp
  ·subst e;rw[ZK]at hj;cases hj
  ·simpa[AHeap.del,e]using hj
 have hd_p:(H.del kp) kp=none:=ZK kp;have hsB:Sub B (H.del kp):=qaJ hs_H hb;have hsl:∀a b,(subL 5 v a b).live=true:=fun a b=>ZW (operV_scal hv ⟨true,a,b,0⟩);have hrl:(AVal.bool true).live=true:=rfl;have hrc:(AVal.bool true).scal=true:=rfl;refine qR (n:=95) (rs:=[.tmp 2, .cell 3 91, .tmp 4, .cell 5 35]) Tryz.func43 rfl rfl rfl rfl (Nat.le_of_ble_eq_true rfl) ?_;simp only[Qd];refine awp_rseq [0,3,5] (by rfl) fun K hK=>?_;simp+decide only[ev,qJ,qG,putD,Slots.put,if_false,true_and,↓qd,qb];refine Qg ze91 (cs:=[.int .u8 0, .str [], .int .i64 0, .int .i64 0, .bool false, .nilSlice]) (by rfl) fun k0q1 hk0q1=>?_;have hn_0q1:H k0q1=none:=by first|assumption|(simp only[AHeap.set_none]at hk0q1;simp only[hk0q1])
 have hf_0q1:B k0q1=none:=Sub.none hs_H hn_0q1;have ne_0q1_p:k0q1≠kp:=AHeap.ne_some hn_0q1 eb_p;simp+decide only[ev,qJ,qG,putD,Slots.put,if_false,true_and,↓qd,qb];refine Qg qas (cs:=[.int .i64 0, .int .i64 0, .int .i64 0]) (by rfl) fun k0q3 hk0q3=>?_;have ne_0q3_0q1:k0q3≠k0q1:=by simp only[AHeap.set_none]at hk0q3;simp only[hk0q3,ne_eq,not_false_eq_true]
 have hn_0q3:H k0q3=none:=by first|assumption|(simp only[AHeap.set_none]at hk0q3;simp only[hk0q3])
 have hf_0q3:B k0q3=none:=Sub.none hs_H hn_0q3;have ne_0q3_p:k0q3≠kp:=AHeap.ne_some hn_0q3 eb_p;simp+decide only[qa,putD,Slots.put,Slots.keep,if_true,if_false];apply hK;clear hK K;obtain⟨H0,hH0⟩:∃H0,H0=(H.set k0q1 ⟨[.int .u8 0, .str [], .int .i64 0, .int .i64 0, .bool false, .nilSlice],0⟩).set k0q3 ⟨[.int .i64 0, .int .i64 0, .int .i64 0],0⟩:=⟨_,rfl⟩
 refine Awp.forget (h':=H0) (by rw[hH0];exact Sub.refl _) ?_;have hs_H0:Sub B H0:=by rw[hH0];exact(by repeat (first|exact Sub.refl _|assumption|refine Sub.set_both ?_ _ _|refine Sub.trans_set ?_ (by repeat (first|assumption|refine(AHeap.set_ne _ _ (by first|assumption|exact Ne.symm (by assumption))).trans ?_))))
 have hd0:Sub (H.del kp) H0:=by rw[hH0];exact hdel.trans (Sub.trans_set (Sub.set hn_0q1) hn_0q3)
 have eb_p:H0 kp=some ⟨[v, .int .i64 i],0⟩:=by rw[hH0];exact(by repeat (first|exact AHeap.set_same _ _ _|assumption|refine(AHeap.set_ne _ _ (by first|assumption|exact Ne.symm (by assumption))).trans ?_))
 have eb_0q1:H0 k0q1=some ⟨[.int .u8 0, .str [], .int .i64 0, .int .i64 0, .bool false, .nilSlice],0⟩:=by rw[hH0];exact(by repeat (first|exact AHeap.set_same _ _ _|assumption|refine(AHeap.set_ne _ _ (by first|assumption|exact Ne.symm (by assumption))).trans ?_))
 have eb_0q3:H0 k0q3=some ⟨[.int .i64 0, .int .i64 0, .int .i64 0],0⟩:=by rw[hH0];exact(by repeat (first|exact AHeap.set_same _ _ _|assumption|refine(AHeap.set_ne _ _ (by first|assumption|exact Ne.symm (by assumption))).trans ?_))
 have hd_0q1:(H.del kp) k0q1=none:=hdel.none hn_0q1;have hd_0q3:(H.del kp) k0q3=none:=hdel.none hn_0q3;clear hH0;refine awp_rseq [0,3,5,6] (by rfl) fun K hK=>?_;simp+decide only[qa,ev,putD,Slots.put,Slots.get,Slots.keep,if_true,if_false,true_and,↓qj,qf,↓Qi,qL,Ql,↓qA,ql,Yr,↓qF,Qa,qw ag3,↓qd,qb,Qr w0 eb_p,List.getD_cons_zero,List.getD_cons_succ,Nat.zero_add,qh];apply hK;clear hK K;refine qO ?_;refine Qv ?_;refine XE [0,3,5,6] (fun j:Nat=>[(0, .ptr (.own kp) 0),(3, .ptr (.own k0q1) 0),(5, .ptr (.own k0q3) 0),(6, .int .i64 i)]) (fun j:Nat=>H0.set kp ⟨[v, .int .i64 j],0⟩) (fun j:Nat=>i<=j/\j<=l.length/\Xo l j=Xo l i) (fun j:Nat=>l.length-j) i (by rfl) (by rw[set_id eb_p];exact Sub.refl _) ⟨Nat.le_refl _,hi,rfl⟩ ?_;rintro j ⟨hj1,hj2,hj3⟩;obtain⟨H1,hH1⟩:∃H1,H1=H0.set kp ⟨[v, .int .i64 j],0⟩:=⟨_,rfl⟩
 have hs_H1:Sub B H1:=by rw[hH1];exact Zg hs_H0 hb _
 have hd1:Sub (H.del kp) H1:=by rw[hH1];exact Zg hd0 hd_p _
 have eb_p:H1 kp=some ⟨[v, .int .i64 j],0⟩:=by rw[hH1];exact AHeap.set_same _ _ _
 have eb_0q1:H1 k0q1=some ⟨[.int .u8 0, .str [], .int .i64 0, .int .i64 0, .bool false, .nilSlice],0⟩:=by rw[hH1];exact(by repeat (first|exact AHeap.set_same _ _ _|assumption|refine(AHeap.set_ne _ _ (by first|assumption|exact Ne.symm (by assumption))).trans ?_))
 have eb_0q3:H1 k0q3=some ⟨[.int .i64 0, .int .i64 0, .int .i64 0],0⟩:=by rw[hH1];exact(by repeat (first|exact AHeap.set_same _ _ _|assumption|refine(AHeap.set_ne _ _ (by first|assumption|exact Ne.symm (by assumption))).trans ?_))
 rw[<-hH1];refine qO ?_;refine XR [0,3,5,6,23] mixed (by kernel_rfl) (by rfl) (by rfl) fun K hK=>?_;simp+decide only[qa,ev,putD,Slots.put,Slots.get,Slots.keep,if_true,if_false,true_and,↓qj,qf,↓Qi,qL,Ql,↓qA,ql,Yr,↓qF,Qa,qw ag3,UC,qw UF,↓Xz,QK,↓qB,qm,qV,cond_false,qz,XZ,Qr w0 eb_p,List.getD_cons_zero,List.getD_cons_succ,Nat.zero_add,qh,hlv,nv];apply hK;clear hK K;refine qK (b:=_) rfl (fun hb1=>?_) (fun hb1=>?_)
 ·try simp only[decide_eq_true_eq]at hb1
  have hjl:j<l.length:=by omega
  obtain⟨W,hW⟩:∃W,W=ZZ l j COPY:=⟨_,rfl⟩
  have hcs:=copy_step hjl;rw[<-hW]at hcs;refine qW ?_;change Awp _ _ _ _ _ _ _;refine Qv ?_;refine awp_rseq [0,3,5,6,7] (by rfl) fun K hK=>?_;simp+decide only[qa,ev,putD,Slots.put,Slots.get,Slots.keep,if_true,if_false,true_and,↓qj,qf,↓Qi,qL,Ql,↓qA,ql,Yr,↓qF,Qa,qw ag3,↓qd,qb,Qr w0 eb_p,List.getD_cons_zero,List.getD_cons_succ,Nat.zero_add,qh];apply hK;clear hK K;refine qO ?_;refine awp_rseq [0,3,5,6,7,30] (by rfl) fun K hK=>?_;simp+decide only[ev,putD,Slots.put,Slots.get,if_true,if_false,true_and,↓qj,qf];refine QH (by rfl) (by rfl) (c_wordH w0 _ B kp _ l j COPY (by repeat (first|exact AHeap.set_same _ _ _|assumption|refine(AHeap.set_ne _ _ (by first|assumption|exact Ne.symm (by assumption))).trans ?_)) (by repeat (first|exact Sub.refl _|assumption|refine Sub.set_both ?_ _ _|refine Sub.trans_set ?_ (by repeat (first|assumption|refine(AHeap.set_ne _ _ (by first|assumption|exact Ne.symm (by assumption))).trans ?_)))) hv (by omega)) fun x4q1 h4q1 hx4q1=>?_;rw[<-hW]at hx4q1;obtain⟨rfl,rfl⟩:=hx4q1;simp+decide only[qa,ev,putD,Slots.put,Slots.get,Slots.keep,if_true,if_false,true_and,↓ZY,XG,ZN];apply hK;clear hK K;refine qK (b:=_) rfl (fun hb2=>?_) (fun hb2=>?_)
  ·try simp only[Bool.not_eq_true']at hb2
   rw[if_neg (by simpa using hb2)]at hcs;have hWf:W=false:=by simpa using hb2
   rw[hWf,if_neg (by decide)];refine awp_rseq [0,3,5,6] (by rfl) fun K hK=>?_;simp+decide only[ev,qJ,qG,putD,Slots.put,Slots.get,if_true,if_false,true_and,↓qj,qf,↓Qi,qL,Ql,↓qA,ql,Yr,↓qF,Qa,qw ag3,↓qB,qm,qD,cond_false,qz,Xa,QV,List.getD_cons_zero,List.getD_cons_succ,Nat.zero_add,qh];try simp(disch:=omega)only[wrap_i64]
   refine qo (by rfl) (by rfl) (by repeat (first|exact AHeap.set_same _ _ _|assumption|refine(AHeap.set_ne _ _ (by first|assumption|exact Ne.symm (by assumption))).trans ?_)) sz3 (by rfl) (by rfl) (by first|exact Nat.le_refl _|decide|(simp;done)|(simp;omega)) (Nat.zero_le _) (by first|rfl|(simp+decide only[ev,putD,Slots.put,Slots.get,if_true,if_false,AVal.cells,Qz,Bool.and_true,Bool.true_and,hrc,XA,XF,Xn])) ?_;simp only[AHeap.set_set,AVal.cells];simp+decide only[qa,ev,putD,Slots.get,Slots.keep,if_true,if_false,setAt,List.set_cons_zero,List.set_cons_succ];apply hK;clear hK K;refine XJ ?_;exact⟨j+1,rfl,by(rw[hH1];simp only[AHeap.set_set];exact Sub.refl _),⟨by omega,hjl,by rw[<-hcs];exact hj3⟩,by omega⟩
  ·try simp only[Bool.not_eq_false']at hb2
   rw[if_pos (by simpa using hb2)]at hcs;have hci:Xo l i=j:=by rw[<-hj3];exact hcs
   have hWt:W=true:=by simpa using hb2
   rw[hWt,if_pos rfl];refine qW ?_;change Awp _ _ _ _ _ _ _;refine awp_rseq [0,3,5,6,7,8,9] (by rfl) fun K hK=>?_;simp+decide only[ev,putD,Slots.put,Slots.get,if_true,if_false,true_and,↓qj,qf];refine QH (by rfl) (by rfl) (c_statement w0 _ B kp v l (j+1) (by repeat (first|exact AHeap.set_same _ _ _|assumption|refine(AHeap.set_ne _ _ (by first|assumption|exact Ne.symm (by assumption))).trans ?_)) (by repeat (first|exact Sub.refl _|assumption|refine Sub.set_both ?_ _ _|refine Sub.trans_set ?_ (by repeat (first|assumption|refine(AHeap.set_ne _ _ (by first|assumption|exact Ne.symm (by assumption))).trans ?_)))) hb hv hl (by omega)) fun x6q1 h6q1 hx6q1=>?_;obtain⟨st,hst⟩:∃st,st=QT l (j+1):=⟨_,rfl⟩
   rw[<-hst]at hx6q1;obtain⟨hsub6,eb_p,rv,E,rfl,hE6,hE6s,hrp⟩:=hx6q1;have hstm:=Wp (l:=l) (i:=j+1) (by omega);rw[<-hst]at hstm;have hd6':Sub (H.del kp) ((H1.set kp ⟨[v, .int .i64 ((j+1:Nat):Int)],0⟩).del kp):=qaJ (Zg hd1 hd_p _) hd_p;have hd6:Sub (H.del kp) h6q1:=hd6'.trans hsub6;have hs_h6q1:Sub B h6q1:=(qaJ (Zg hs_H1 hb _) hb).trans hsub6;have he_0q1:E k0q1=none:=hE6.none ((AHeap.set_ne _ _ ne_0q1_p).trans eb_0q1) hf_0q1;have he_0q3:E k0q3=none:=hE6.none ((AHeap.set_ne _ _ ne_0q3_p).trans eb_0q3) hf_0q3;have he_p:E kp=none:=hE6.none (AHeap.set_same _ _ _) hb;have hE:NewE B H E:=⟨hE6.sub,fun q h1 h2=>hE6.off q (fun e=>by
    by_cases e2:q=kp
    ·subst e2;rw[AHeap.set_same]at e;cases e
    ·have:(H.del kp) q=none:=(Zg hd1 hd_p _).none e
     simp only[AHeap.del,e2,if_false]at this;exact h1 this) h2⟩
   have eb_0q1:h6q1 k0q1=some ⟨[.int .u8 0, .str [], .int .i64 0, .int .i64 0, .bool false, .nilSlice],0⟩:=hsub6 _ _ (by rw[AHeap.del_set];simp only[AHeap.del,ne_0q1_p,if_false];exact eb_0q1);have eb_0q3:h6q1 k0q3=some ⟨[.int .i64 0, .int .i64 0, .int .i64 0],0⟩:=hsub6 _ _ (by rw[AHeap.del_set];simp only[AHeap.del,ne_0q3_p,if_false];exact eb_0q3);have hrc:rv.scal=true:=by obtain⟨qs,-,q2,-⟩:=hrp;exact q2.scal
   have hrl:=ZW hrc;unfold stmC;simp+decide only[ev,putD,Slots.put,Slots.get,if_true,if_false,true_and,↓qj,qf,↓QJ,QC,QG,List.length_cons,List.length_nil,List.getD_cons_zero,List.getD_cons_succ,List.getD_cons_zero,List.getD_cons_succ,Nat.zero_add,Nat.reduceAdd];refine Qg ze91 (cs:=[.int .u8 0, .str [], .int .i64 0, .int .i64 0, .bool false, .nilSlice]) (by rfl) fun k6q5 hk6q5=>?_;have hn_6q5:h6q1 k6q5=none:=by first|assumption|(simp only[AHeap.set_none]at hk6q5;simp only[hk6q5])
   have hf_6q5:B k6q5=none:=Sub.none hs_h6q1 hn_6q5;have ne_6q5_p:k6q5≠kp:=AHeap.ne_some hn_6q5 eb_p;have ne_6q5_0q1:k6q5≠k0q1:=AHeap.ne_some hn_6q5 eb_0q1;have ne_6q5_0q3:k6q5≠k0q3:=AHeap.ne_some hn_6q5 eb_0q3;refine qo (by rfl) (by rfl) (by repeat (first|exact AHeap.set_same _ _ _|assumption|refine(AHeap.set_ne _ _ (by first|assumption|exact Ne.symm (by assumption))).trans ?_)) Uw (by rfl) (by rfl) (by first|exact Nat.le_refl _|decide|(simp;done)|(simp;omega)) (Nat.zero_le _) (by first|rfl|(simp+decide only[ev,putD,Slots.put,Slots.get,if_true,if_false,AVal.cells,Qz,Bool.and_true,hrc,XA,XF,Xn])) ?_;simp only[AHeap.set_set,AVal.cells];simp+decide only[qa,ev,putD,Slots.put,Slots.get,Slots.keep,if_true,if_false,true_and,↓qd,qb,setAt,List.set_cons_zero,List.set_cons_succ,Nat.zero_add,Nat.reduceAdd];apply hK;clear hK K;refine qO ?_;refine awp_rseq [0,3,5,6,7,8,44] (by rfl) fun K hK=>?_;simp+decide only[qa,ev,putD,Slots.put,Slots.get,Slots.keep,if_true,if_false,true_and,↓qj,qf,↓ZY,XG,ZN];apply hK;clear hK K;refine qK (b:=_) rfl (fun hb3=>?_) (fun hb3=>?_)
   ·try simp only[Bool.not_eq_true']at hb3
    have hok:st.ok=false:=by simpa using hb3
    obtain⟨lc,o,c,rfl⟩:=UI hv (by omega);refine Awp.forget (h':=h6q1) (Sub.set hn_6q5) ?_;obtain⟨-,-,e2,e3,-⟩:=qbd (hv.mono hs_h6q1) hjl;have e3':rd w0 h6q1 lc (o+j*5+2+1)= .int .i64 (l.getD j Uh).col:=e3;refine awp_rseq [0,3,5] (by rfl) fun K hK=>?_;simp+decide only[ev,qJ,qG,putD,Slots.put,Slots.get,if_true,if_false,true_and,↓qj,qf,↓Qi,qL,Ql,↓qA,ql,UC,↓qF,Qa,qw UF,↓Xg,Qk Tryz.underlying26 Xk,fa54_2,qg ag33 qbe,↓Qn,↓qU,Ug,evP,List.map_cons,List.map_nil,Qr w0 eb_p,qc,List.getD_cons_zero,Nat.zero_add,qh,allLive,Bool.and_true,hlv,e2,e3',Int.toNat_natCast];repeat (with_reducible refine And.intro ?_ ?_;· first|trivial|omega|(intro hg;simp only[Bool.and_eq_true,Bool.or_eq_true,Bool.not_eq_true',Bool.and_eq_false_iff,Bool.or_eq_false_iff,Bool.not_eq_false',decide_eq_true_eq,decide_eq_false_iff_not,Zd]at hg;omega))
    refine qo (by rfl) (by rfl) (by repeat (first|exact AHeap.set_same _ _ _|assumption|refine(AHeap.set_ne _ _ (by first|assumption|exact Ne.symm (by assumption))).trans ?_)) QA (by rfl) (by rfl) (by first|exact Nat.le_refl _|decide|(simp;done)|(simp;omega)) (Nat.zero_le _) (by first|rfl|(simp+decide only[ev,putD,Slots.put,Slots.get,if_true,if_false,AVal.cells,Qz,Bool.and_true,Bool.true_and,hrc,XA,XF,Xn])) ?_;simp only[AVal.cells];simp+decide only[qa,ev,putD,Slots.get,Slots.keep,if_true,if_false,setAt,List.set_cons_zero,List.set_cons_succ,Nat.zero_add,Nat.reduceAdd];apply hK;clear hK K;refine qO ?_;refine XR [0,3,5,63] mixed (by kernel_rfl) (by rfl) (by rfl) fun K hK=>?_;simp+decide only[qa,ev,putD,Slots.put,Slots.get,Slots.keep,if_true,if_false,true_and,↓qj,qf,↓Qi,qL,Ql,↓qA,ql,Yr,↓qF,Qa,qw ag3,UC,qw UF,↓Xz,QK,Zj Tryz.underlying26,↓qB,qm,qV,cond_false,qz,XZ,QU,ne_eq,not_false_eq_true,Qr w0 eb_p,ne_0q3_p.symm,List.getD_cons_zero,List.getD_cons_succ,Nat.zero_add,qh,hlv];apply hK;clear hK K;refine qK (b:=_) rfl (fun hb4=>?_) (fun hb4=>?_)
    ·try simp only[decide_eq_true_eq]at hb4
     have hat:st.at_<l.length:=by omega
     obtain⟨-,-,d2,d3,-⟩:=qbd (hv.mono (Zg hs_h6q1 hf_0q3 ⟨[.int .i64 4, .int .i64 (l.getD j Uh).line, .int .i64 (l.getD j Uh).col],0⟩)) hat;have d3':rd w0 (h6q1.set k0q3 ⟨[.int .i64 4, .int .i64 (l.getD j Uh).line, .int .i64 (l.getD j Uh).col],0⟩) lc (o+st.at_*5+2+1)= .int .i64 (l.getD st.at_ Uh).col:=d3;refine qar 12 mixed (by kernel_rfl) (by rfl) (by rfl) ?_;simp+decide only[ev,putD,Slots.put,Slots.get,if_true,if_false,true_and,↓qj,qf,↓Qi,qL,Ql,↓qA,ql,UC,↓qF,Qa,qw UF,Yr,qw ag3,↓Xg,Qk Tryz.underlying26 Xk,fa54_2,qg ag33 qbe,fa35_1,QU,ne_eq,not_false_eq_true,Qr w0 eb_p,ne_0q3_p.symm,qc,List.getD_cons_zero,List.getD_cons_succ,Nat.zero_add,qh,allLive,Bool.and_true,hlv,d2,d3',Int.toNat_natCast];repeat (with_reducible refine And.intro ?_ ?_;· first|trivial|omega|(intro hg;simp only[Bool.and_eq_true,Bool.or_eq_true,Bool.not_eq_true',Bool.and_eq_false_iff,Bool.or_eq_false_iff,Bool.not_eq_false',decide_eq_true_eq,decide_eq_false_iff_not,Zd]at hg;omega))
     refine qo (by rfl) (by rfl) (by repeat (first|exact AHeap.set_same _ _ _|assumption|refine(AHeap.set_ne _ _ (by first|assumption|exact Ne.symm (by assumption))).trans ?_)) qbe (by rfl) (by rfl) (by first|exact Nat.le_refl _|decide|(simp;done)|(simp;omega)) (Nat.zero_le _) (by first|rfl|(simp+decide only[ev,putD,Slots.put,Slots.get,if_true,if_false,AVal.cells,Qz,Bool.and_true,Bool.true_and,hrc,XA,XF,Xn])) ?_;simp only[AHeap.set_set,AVal.cells];simp+decide only[qa,ev,putD,Slots.get,if_true,if_false,setAt,List.set_cons_zero,List.set_cons_succ,Nat.reduceAdd];change Awp _ _ _ _ _ _ _;refine awp_dseq_G 3 [1] [k0q3] [2,3,4,5] mixed (by kernel_rfl) (by rfl) fun K hK=>?_;simp only[List.take_succ_cons,List.take_zero,List.drop_succ_cons,List.drop_zero];simp+decide only[YJ,ev,qJ,qG,putD,Slots.put,Slots.get,if_true,if_false,true_and,↓qat,↓qU,bld91_,evP,List.map_nil,↓WH,Zp,qg Xf QA,↓fp_assign,qb,QV,qc,List.getD_cons_zero,List.getD_cons_succ,Nat.zero_add,Nat.reduceAdd,qh,allLive,Bool.and_true];refine And.intro (by simp(decide:=true) [qbS,ev,Slots.get]) ?_;refine qaW ?_;refine qo (by rfl) (by rfl) (by repeat (first|exact AHeap.set_same _ _ _|assumption|refine(AHeap.set_ne _ _ (by first|assumption|exact Ne.symm (by assumption))).trans ?_)) Uw (by rfl) (by rfl) (by first|exact Nat.le_refl _|decide|(simp;done)|(simp;omega)) (Nat.zero_le _) (by first|rfl|(simp+decide only[ev,putD,Slots.put,Slots.get,if_true,if_false,AVal.cells,Qz,Bool.and_true,Bool.true_and,hrc,XA,XF,Xn])) ?_;simp only[AVal.cells];rw[qa];refine And.intro (by intro k hk;simp only[List.mem_cons,List.not_mem_nil,or_false]at hk;first|rfl|(first|subst hk|(rcases hk with rfl|rfl|rfl|rfl|rfl));all_goals (simp[AHeap.set,ne_0q3_0q1]<;>rfl)) ?_;simp+decide only[ev,qJ,qG,putD,Slots.put,Slots.get,if_true,if_false,true_and,↓kp_assign,qb,setAt,List.set_cons_zero,List.set_cons_succ,Nat.zero_add,Nat.reduceAdd];refine qaW ?_;refine qo (by rfl) (by rfl) (by repeat (first|exact AHeap.set_same _ _ _|assumption|refine(AHeap.set_ne _ _ (by first|assumption|exact Ne.symm (by assumption))).trans ?_)) QA (by rfl) (by rfl) (by first|exact Nat.le_refl _|decide|(simp;done)|(simp;omega)) (Nat.zero_le _) (by first|rfl|(simp+decide only[ev,putD,Slots.put,Slots.get,if_true,if_false,AVal.cells,Qz,Bool.and_true,Bool.true_and,hrc,XA,XF,Xn])) ?_;simp only[AVal.cells];rw[qa];refine And.intro (by intro k hk;simp only[List.mem_cons,List.not_mem_nil,or_false]at hk;first|rfl|(first|subst hk|(rcases hk with rfl|rfl|rfl|rfl|rfl));all_goals (simp[AHeap.set,ne_0q3_0q1]<;>rfl)) ?_;simp+decide only[kOps_nil,ev,putD,Slots.get,Slots.keep,if_true,if_false,setAt,List.set_cons_zero,List.set_cons_succ,Nat.zero_add,Nat.reduceAdd];apply hK;clear hK K;refine qN ?_;try simp only[Qf,Qp]
     refine QM (?_) ?_
     ·simp+decide only[Qy,qp,qi,Slots.get,if_true,if_false,and_true,qp,qi,qg qde Uw,qg Xf QA,qZ,qc,List.getD_cons_zero,List.getD_cons_succ,Nat.zero_add,Nat.reduceAdd,qC,qh,qE,QL,allLive,Bool.and_true,QU,ne_eq,not_false_eq_true,ne_0q3_0q1.symm,qc,List.getD_cons_zero,List.getD_cons_succ,Nat.zero_add,Nat.reduceAdd,qC,qh,qE,QL,allLive,Bool.and_true]
     simp+decide only[Slots.get,if_true,if_false,qbE,qp,qi,qg qde Uw,qg Xf QA,qZ,qc,List.getD_cons_zero,List.getD_cons_succ,Nat.zero_add,Nat.reduceAdd,qC,qh,qE,QL,allLive,Bool.and_true,QU,ne_eq,not_false_eq_true,ne_0q3_0q1.symm,qc,List.getD_cons_zero,List.getD_cons_succ,Nat.zero_add,Nat.reduceAdd,qC,qh,qE,QL,allLive,Bool.and_true];refine⟨_,Sub.refl _,(by repeat (first|exact Sub.refl _|assumption|refine Sub.set_both ?_ _ _|refine Sub.trans_set ?_ (by repeat (first|assumption|refine(AHeap.set_ne _ _ (by first|assumption|exact Ne.symm (by assumption))).trans ?_)))),st.at_,(by repeat (first|exact AHeap.set_same _ _ _|assumption|refine(AHeap.set_ne _ _ (by first|assumption|exact Ne.symm (by assumption))).trans ?_)),hstm.2.1, .inr (.inl ⟨by rw[hci];exact hjl,by rw[hci,<-hst];exact hok,?_⟩)⟩;rw[hci,<-hst];unfold nextV QN qaN;rw[if_pos hat];rfl
    ·try simp only[decide_eq_false_iff_not]at hb4
     refine qW ?_;change Awp _ _ _ _ _ _ _;refine awp_dseq_G 3 [1] [k0q3] [2,3,4,5] mixed (by kernel_rfl) (by rfl) fun K hK=>?_;simp only[List.take_succ_cons,List.take_zero,List.drop_succ_cons,List.drop_zero];simp+decide only[YJ,ev,qJ,qG,putD,Slots.put,Slots.get,if_true,if_false,true_and,↓qat,↓qU,bld91_,evP,List.map_nil,↓WH,Zp,qg Xf QA,↓fp_assign,qb,QV,qc,List.getD_cons_zero,List.getD_cons_succ,Nat.zero_add,Nat.reduceAdd,qh,allLive,Bool.and_true];refine And.intro (by simp(decide:=true) [qbS,ev,Slots.get]) ?_;refine qaW ?_;refine qo (by rfl) (by rfl) (by repeat (first|exact AHeap.set_same _ _ _|assumption|refine(AHeap.set_ne _ _ (by first|assumption|exact Ne.symm (by assumption))).trans ?_)) Uw (by rfl) (by rfl) (by first|exact Nat.le_refl _|decide|(simp;done)|(simp;omega)) (Nat.zero_le _) (by first|rfl|(simp+decide only[ev,putD,Slots.put,Slots.get,if_true,if_false,AVal.cells,Qz,Bool.and_true,Bool.true_and,hrc,XA,XF,Xn])) ?_;simp only[AVal.cells];rw[qa];refine And.intro (by intro k hk;simp only[List.mem_cons,List.not_mem_nil,or_false]at hk;first|rfl|(first|subst hk|(rcases hk with rfl|rfl|rfl|rfl|rfl));all_goals (simp[AHeap.set,ne_0q3_0q1]<;>rfl)) ?_;simp+decide only[ev,qJ,qG,putD,Slots.put,Slots.get,if_true,if_false,true_and,↓kp_assign,qb,setAt,List.set_cons_zero,List.set_cons_succ,Nat.zero_add,Nat.reduceAdd];refine qaW ?_;refine qo (by rfl) (by rfl) (by repeat (first|exact AHeap.set_same _ _ _|assumption|refine(AHeap.set_ne _ _ (by first|assumption|exact Ne.symm (by assumption))).trans ?_)) QA (by rfl) (by rfl) (by first|exact Nat.le_refl _|decide|(simp;done)|(simp;omega)) (Nat.zero_le _) (by first|rfl|(simp+decide only[ev,putD,Slots.put,Slots.get,if_true,if_false,AVal.cells,Qz,Bool.and_true,Bool.true_and,hrc,XA,XF,Xn])) ?_;simp only[AVal.cells];rw[qa];refine And.intro (by intro k hk;simp only[List.mem_cons,List.not_mem_nil,or_false]at hk;first|rfl|(first|subst hk|(rcases hk with rfl|rfl|rfl|rfl|rfl));all_goals (simp[AHeap.set,ne_0q3_0q1]<;>rfl)) ?_;simp+decide only[kOps_nil,ev,putD,Slots.get,Slots.keep,if_true,if_false,setAt,List.set_cons_zero,List.set_cons_succ,Nat.zero_add,Nat.reduceAdd];apply hK;clear hK K;refine qN ?_;try simp only[Qf,Qp]
     refine QM (?_) ?_
     ·simp+decide only[Qy,qp,qi,Slots.get,if_true,if_false,and_true,qp,qi,qg qde Uw,qg Xf QA,qZ,qc,List.getD_cons_zero,List.getD_cons_succ,Nat.zero_add,Nat.reduceAdd,qC,qh,qE,QL,allLive,Bool.and_true,QU,ne_eq,not_false_eq_true,ne_0q3_0q1.symm,qc,List.getD_cons_zero,List.getD_cons_succ,Nat.zero_add,Nat.reduceAdd,qC,qh,qE,QL,allLive,Bool.and_true]
     simp+decide only[Slots.get,if_true,if_false,qbE,qp,qi,qg qde Uw,qg Xf QA,qZ,qc,List.getD_cons_zero,List.getD_cons_succ,Nat.zero_add,Nat.reduceAdd,qC,qh,qE,QL,allLive,Bool.and_true,QU,ne_eq,not_false_eq_true,ne_0q3_0q1.symm,qc,List.getD_cons_zero,List.getD_cons_succ,Nat.zero_add,Nat.reduceAdd,qC,qh,qE,QL,allLive,Bool.and_true];refine⟨_,Sub.refl _,(by repeat (first|exact Sub.refl _|assumption|refine Sub.set_both ?_ _ _|refine Sub.trans_set ?_ (by repeat (first|assumption|refine(AHeap.set_ne _ _ (by first|assumption|exact Ne.symm (by assumption))).trans ?_)))),st.at_,(by repeat (first|exact AHeap.set_same _ _ _|assumption|refine(AHeap.set_ne _ _ (by first|assumption|exact Ne.symm (by assumption))).trans ?_)),hstm.2.1, .inr (.inl ⟨by rw[hci];exact hjl,by rw[hci,<-hst];exact hok,?_⟩)⟩;rw[hci,<-hst];unfold nextV QN qaN;rw[if_neg (by omega)];rfl
   ·try simp only[Bool.not_eq_false']at hb3
    have hok:st.ok=true:=by simpa using hb3
    have hsl2:=hv.slice Tryz.underlying26 Xk (some (.int .i64 i)) (some (.int .i64 j)) (l:=i) (r:=j) rfl rfl (by omega) (by omega) (by rw[List.length_map];omega);refine qW ?_;change Awp _ _ _ _ _ _ _;refine Ww 10 [8] [2,3,4,5] mixed (by kernel_rfl) (by rfl) fun K hK=>?_;simp only[List.take_succ_cons,List.take_zero,List.drop_succ_cons,List.drop_zero];simp+decide only[YJ,ev,qJ,qG,putD,Slots.put,Slots.get,if_true,if_false,true_and,↓Us,qf,↓Wm,qL,Ql,↓Zr,ql,UC,↓WH,Zp,qw UF,↓fp_slice,Zo,evO,qg qde Uw,↓qat,↓qU,Zk,evP,List.map_nil,↓fp_assign,qb,QU,ne_eq,not_false_eq_true,ne_6q5_p.symm,Qr w0 eb_p,QV,qc,List.getD_cons_zero,List.getD_cons_succ,Nat.zero_add,Nat.reduceAdd,qC,qh,qE,allLive,Bool.and_true,hlv,hrl,hsl2];refine qo (by rfl) (by rfl) (by repeat (first|exact AHeap.set_same _ _ _|assumption|refine(AHeap.set_ne _ _ (by first|assumption|exact Ne.symm (by assumption))).trans ?_)) Uw (by rfl) (by rfl) (by first|exact Nat.le_refl _|decide|(simp;done)|(simp;omega)) (Nat.zero_le _) (by first|rfl|(simp+decide only[ev,Slots.get,if_true,if_false,AVal.cells,Qz,Bool.and_true,hrc,XA,XF,Xn])) ?_;simp only[AVal.cells];simp+decide only[ev,qJ,qG,putD,Slots.put,Slots.get,if_true,if_false,true_and,↓qd,qb,setAt,List.set_cons_zero,List.set_cons_succ,Nat.zero_add,Nat.reduceAdd];refine qo (by rfl) (by rfl) (by repeat (first|exact AHeap.set_same _ _ _|assumption|refine(AHeap.set_ne _ _ (by first|assumption|exact Ne.symm (by assumption))).trans ?_)) QA (by rfl) (by rfl) (by first|exact Nat.le_refl _|decide|(simp;done)|(simp;omega)) (Nat.zero_le _) (by first|rfl|(simp+decide only[ev,putD,Slots.put,Slots.get,if_true,if_false,AVal.cells,Qz,Bool.and_true,Bool.true_and,hrc,XA,XF,Xn])) ?_;simp only[AVal.cells];simp+decide only[qa,ev,putD,Slots.get,Slots.keep,if_true,if_false,setAt,List.set_cons_zero,List.set_cons_succ,Nat.zero_add,Nat.reduceAdd];apply hK;clear hK K;refine qN ?_;try simp only[Qf,Qp]
    refine QM (?_) ?_
    ·simp+decide only[Qy,qp,qi,Slots.get,if_true,if_false,and_true,qp,qi,qg qde Uw,qg Xf QA,qZ,qc,List.getD_cons_zero,List.getD_cons_succ,Nat.zero_add,Nat.reduceAdd,qC,qh,qE,allLive,Bool.and_true,QU,ne_eq,not_false_eq_true,ne_0q3_0q1.symm,qc,List.getD_cons_zero,List.getD_cons_succ,Nat.zero_add,Nat.reduceAdd,qC,qh,qE,allLive,Bool.and_true,hrl]
    simp+decide only[Slots.get,if_true,if_false,qbE,qp,qi,qg qde Uw,qg Xf QA,qZ,qc,List.getD_cons_zero,List.getD_cons_succ,Nat.zero_add,Nat.reduceAdd,qC,qh,qE,allLive,Bool.and_true,QU,ne_eq,not_false_eq_true,ne_0q3_0q1.symm,qc,List.getD_cons_zero,List.getD_cons_succ,Nat.zero_add,Nat.reduceAdd,qC,qh,qE,allLive,Bool.and_true,hrl];have hd_6q5:(H.del kp) k6q5=none:=hd6.none hn_6q5;refine⟨_,Sub.refl _,(by repeat (first|exact Sub.refl _|assumption|refine Sub.set_both ?_ _ _|refine Sub.trans_set ?_ (by repeat (first|assumption|refine(AHeap.set_ne _ _ (by first|assumption|exact Ne.symm (by assumption))).trans ?_)))),st.at_,(by repeat (first|exact AHeap.set_same _ _ _|assumption|refine(AHeap.set_ne _ _ (by first|assumption|exact Ne.symm (by assumption))).trans ?_)),hstm.2.1, .inr (.inr ⟨by rw[hci];exact hjl,by rw[hci,<-hst];exact hok,by rw[hci,<-hst],subL 5 v i j,rv,E,?_,?_,hE,?_,?_⟩)⟩
    ·rw[hci,<-hst];rfl
    ·rw[hci];exact qdF hv (o:=⟨true,i,j,0⟩) hj1 hj2 rfl
    ·have he_6q5:E k6q5=none:=hE6s.none hn_6q5
     exact(by repeat (first|exact Sub.refl _|assumption|refine Sub.set_both ?_ _ _|refine Sub.trans_set ?_ (by repeat (first|assumption|refine(AHeap.set_ne _ _ (by first|assumption|exact Ne.symm (by assumption))).trans ?_))))
    ·rw[hci,<-hst];exact hrp
 ·try simp only[decide_eq_false_iff_not]at hb1
  have hje:j=l.length:=by omega
  have hce:Xo l j=j:=copy_end (by omega);have hsl3:=hv.slice Tryz.underlying26 Xk (some (.int .i64 i)) none (l:=i) (r:=l.length) rfl (by rw[List.length_map];rfl) (by omega) (by omega) (by rw[List.length_map];omega);refine XJ ?_;change Awp _ _ _ _ _ _ _;refine awp_rseq [2,3,4,5] (by rfl) fun K hK=>?_;simp+decide only[ev,qJ,qG,putD,Slots.put,Slots.get,if_true,if_false,true_and,↓qj,qf,↓Qi,qL,Ql,↓qA,ql,UC,↓qF,Qa,qw UF,↓WY,Zo,evO,↓Qn,↓qU,bld91_,evP,List.map_nil,Zk,↓qd,qb,Qr w0 eb_p,List.getD_cons_zero,Nat.zero_add,hlv,hsl3];refine qo (by rfl) (by rfl) (by repeat (first|exact AHeap.set_same _ _ _|assumption|refine(AHeap.set_ne _ _ (by first|assumption|exact Ne.symm (by assumption))).trans ?_)) Uw (by rfl) (by rfl) (by first|exact Nat.le_refl _|decide|(simp;done)|(simp;omega)) (Nat.zero_le _) (by first|rfl|(simp+decide only[ev,putD,Slots.put,Slots.get,if_true,if_false,AVal.cells,Qz,Bool.and_true,Bool.true_and,hrc,XA,XF,Xn])) ?_;simp only[AVal.cells];simp+decide only[ev,qJ,qG,putD,Slots.put,Slots.get,if_true,if_false,true_and,↓qd,qb,setAt,List.set_cons_zero,List.set_cons_succ,Nat.zero_add,Nat.reduceAdd];refine qo (by rfl) (by rfl) (by repeat (first|exact AHeap.set_same _ _ _|assumption|refine(AHeap.set_ne _ _ (by first|assumption|exact Ne.symm (by assumption))).trans ?_)) QA (by rfl) (by rfl) (by first|exact Nat.le_refl _|decide|(simp;done)|(simp;omega)) (Nat.zero_le _) (by first|rfl|(simp+decide only[ev,putD,Slots.put,Slots.get,if_true,if_false,AVal.cells,Qz,Bool.and_true,Bool.true_and,hrc,XA,XF,Xn])) ?_;simp only[AVal.cells];simp+decide only[qa,ev,putD,Slots.get,Slots.keep,if_true,if_false,setAt,List.set_cons_zero,List.set_cons_succ,Nat.zero_add,Nat.reduceAdd];apply hK;clear hK K;refine qN ?_;refine QM (?_) ?_
  ·simp+decide only[Qy,qp,qi,Slots.get,if_true,if_false,and_true,qp,qi,qg qde Uw,qg Xf QA,qZ,qc,List.getD_cons_zero,List.getD_cons_succ,Nat.zero_add,Nat.reduceAdd,qC,qh,qE,QL,allLive,Bool.and_true,QU,ne_eq,not_false_eq_true,ne_0q3_0q1.symm,qc,List.getD_cons_zero,List.getD_cons_succ,Nat.zero_add,Nat.reduceAdd,qC,qh,qE,QL,allLive,Bool.and_true]
  simp+decide only[Slots.get,if_true,if_false,qbE,qp,qi,qg qde Uw,qg Xf QA,qZ,qc,List.getD_cons_zero,List.getD_cons_succ,Nat.zero_add,Nat.reduceAdd,qC,qh,qE,QL,allLive,Bool.and_true,QU,ne_eq,not_false_eq_true,ne_0q3_0q1.symm,qc,List.getD_cons_zero,List.getD_cons_succ,Nat.zero_add,Nat.reduceAdd,qC,qh,qE,QL,allLive,Bool.and_true];refine⟨_,Sub.refl _,(by repeat (first|exact Sub.refl _|assumption|refine Sub.set_both ?_ _ _|refine Sub.trans_set ?_ (by repeat (first|assumption|refine(AHeap.set_ne _ _ (by first|assumption|exact Ne.symm (by assumption))).trans ?_)))),j,(by repeat (first|exact AHeap.set_same _ _ _|assumption|refine(AHeap.set_ne _ _ (by first|assumption|exact Ne.symm (by assumption))).trans ?_)),hj2, .inl ⟨by rw[<-hj3,hce];omega,subL 5 v i l.length,rfl,?_⟩⟩;have:=qdF hv (o:=⟨true,i,l.length,0⟩) hi (Nat.le_refl _) rfl;unfold qbU at this;rw[List.take_of_length_le (by simp[List.length_drop])]at this;exact this
end Go.Proofs.YtlhhaagmakhilaaGreatDoor
namespace Go.Proofs.YtlhhaagmakhilaaGreatDoor
open Go.AM
open Go.Proofs
open Go.Col
open Go.Tok
open Go.Cop
open Go.RowKit (Below)
set_option maxRecDepth 100000
def qaF{α:Type}(p:α->Bool)(l:List α):Int:=match l.findIdx? p with
 |some i=>(i:Int)
 |none=> -1
theorem idxI_some{α:Type}{p:α->Bool}{l:List α}(d:α){i:Nat}(hi:i<l.length)(hp:p (l.getD i d)=true)(hn:∀j,j<i->p (l.getD j d)=false):qaF p l=i:=by
 have:l.findIdx? p=some i:=by
  rw[List.findIdx?_eq_some_iff_getElem];refine⟨hi,?_,fun j hj=>?_⟩
  ·rw[List.getD,List.getElem?_eq_getElem hi]at hp
   exact hp
  ·have:=hn j hj
   rw[List.getD,List.getElem?_eq_getElem (by omega)]at this;simpa using this
 unfold qaF;rw[this]
theorem idxI_none{α:Type}{p:α->Bool}{l:List α}(d:α)(hn:∀j,j<l.length->p (l.getD j d)=false):qaF p l= -1:=by
 have:l.findIdx? p=none:=by
  rw[List.findIdx?_eq_none_iff];intro x hx;obtain⟨j,hj,rfl⟩:=List.getElem_of_mem hx;have:=hn j hj;rw[List.getD,List.getElem?_eq_getElem hj]at this;exact this
 unfold qaF;rw[this]
theorem idxI_map{α β:Type}(f:α->β)(p:β->Bool)(l:List α):qaF p (l.map f)=qaF (fun x=>p (f x)) l:=by
 unfold qaF;rw[List.findIdx?_map];rfl
abbrev MemQ:=MemC×AVal
def qbm(q:MemQ):List AVal:=[.str q.1.name,q.2]
def IsMems(w0:World)(h:AHeap)(v:AVal)(ms:List MemC):Prop:=∃qs:List MemQ,ms=qs.map (·.1)/\IsL w0 h 2 v (qs.map qbm)/\∀q∈qs,IsL w0 h 5 q.2 (q.1.toks.map Xw)
theorem IsMems.mono{w0:World}{h h':AHeap}{v:AVal}{ms:List MemC}(hv:IsMems w0 h v ms)(hs:Sub h h'):IsMems w0 h' v ms:=by
 obtain⟨qs,h1,h2,h3⟩:=hv;exact⟨qs,h1,h2.mono hs,fun q hq=>(h3 q hq).mono hs⟩
def badM:MemQ:=(⟨[],[]⟩, .nilSlice)
def badR:RepQ:=(⟨[],[]⟩, .nilSlice, .nilSlice)
theorem getD_mem{α:Type}{l:List α}(d:α){i:Nat}(hi:i<l.length):l.getD i d∈l:=by
 rw[List.getD,List.getElem?_eq_getElem hi];exact List.getElem_mem hi
section
variable {w0:World} {h:AHeap} {v:AVal}
theorem mem_len{qs:List MemQ}(hv:IsL w0 h 2 v (qs.map qbm)):∀H:AHeap,ZU Tryz.prog H 28 v=⟨True, .int .i64 qs.length⟩:=by
 have:=hv.len Tryz.underlying28
 rwa [List.length_map]at this
theorem mem_open{qs:List MemQ}(hv:IsL w0 h 2 v (qs.map qbm))(hn:0<qs.length):∃lc o c,v= .slice lc o qs.length c:=by
 obtain⟨lc,o,c,e⟩:=hv.open (fun e=>by rw[List.map_eq_nil_iff]at e;subst e;simp at hn);rw[List.length_map]at e;exact⟨lc,o,c,e⟩
theorem mem_at{qs:List MemQ}{lc:AM.Loc}{o:Nat}{c:Cap}(hv:IsL w0 h 2 (.slice lc o qs.length c) (qs.map qbm)){i:Nat}(hi:i<qs.length):rd w0 h lc (o+i*2)= .str (qs.getD i badM).1.name/\rd w0 h lc (o+i*2+1)=(qs.getD i badM).2:=by
 have he:=hv.elem (i:=i) (by rw[List.length_map];exact hi);rw[getD_map badM hi]at he;simp only[qc,qbm,List.cons.injEq,and_true]at he;exact he
theorem rep_len{qs:List RepQ}(hv:IsL w0 h 2 v (qs.map UY)):∀H:AHeap,ZU Tryz.prog H 43 v=⟨True, .int .i64 qs.length⟩:=by
 have:=hv.len Tryz.underlying43
 rwa [List.length_map]at this
theorem rep_open{qs:List RepQ}(hv:IsL w0 h 2 v (qs.map UY))(hn:0<qs.length):∃lc o c,v= .slice lc o qs.length c:=by
 obtain⟨lc,o,c,e⟩:=hv.open (fun e=>by rw[List.map_eq_nil_iff]at e;subst e;simp at hn);rw[List.length_map]at e;exact⟨lc,o,c,e⟩
theorem rep_at{qs:List RepQ}{lc:AM.Loc}{o:Nat}{c:Cap}(hv:IsL w0 h 2 (.slice lc o qs.length c) (qs.map UY)){i:Nat}(hi:i<qs.length):rd w0 h lc (o+i*2)=(qs.getD i badR).2.1/\rd w0 h lc (o+i*2+1)=(qs.getD i badR).2.2:=by
 have he:=hv.elem (i:=i) (by rw[List.length_map];exact hi);rw[getD_map badR hi]at he;simp only[qc,UY,List.cons.injEq,and_true]at he;exact he
end
theorem c_indexM(w0:World)(h:AHeap)(v:AVal)(qs:List MemQ)(f:FuncId)(cap:List AVal)(p:MemQ->Bool)(hv:IsL w0 h 2 v (qs.map qbm))(hq:∀q∈qs,q.2.live=true)(hl:qs.length<=1099511627776)(hfl:(AVal.func f cap).live=true)
 (hf:∀q∈qs,ACall Tryz.prog w0 f ([.agg (qbm q)]++cap) h (fun r h'=>r= .bool (p q)/\h'=h)):
 ACall Tryz.prog w0 57 [v, .func f cap] h (fun r h'=>r= .int .i64 (qaF p qs)/\h'=h):=by
 have hlv:=hv.live;have nv:=mem_len hv;refine qR (n:=19) (rs:=[.tmp 4]) Tryz.func57 rfl rfl rfl rfl (Nat.le_of_ble_eq_true rfl) ?_;simp only[Qd];refine awp_rseq [0,1] (by rfl) fun K hK=>?_;simp+decide only[qa,ev,qJ,qG,putD,Slots.put,Slots.keep,if_true,if_false,true_and,↓qd,qb,Nat.zero_add];apply hK;clear hK K;refine qO ?_;refine awp_rseq [0,1,7,8] (by rfl) fun K hK=>?_;simp+decide only[qa,ev,qJ,qG,putD,Slots.put,Slots.get,Slots.keep,if_true,if_false,true_and,↓qj,qf,↓Xz,QK,nv];apply hK;clear hK K;refine Qv ?_;refine XE [0,1,7,8] (fun i:Nat=>[(0,v),(1, .func f cap),(7, .int .i64 qs.length),(8, .int .i64 i)]) (fun i:Nat=>h) (fun i:Nat=>i<=qs.length/\∀j,j<i->p (qs.getD j badM)=false) (fun i:Nat=>qs.length-i) 0 (by rfl) (Sub.refl _) ⟨Nat.zero_le _,fun j hj=>by omega⟩ ?_;rintro i ⟨hi,hn⟩;refine awp_rseq [0,1,7,8,9] (by rfl) fun K hK=>?_;simp+decide only[qa,ev,putD,Slots.put,Slots.get,Slots.keep,if_true,if_false,true_and,↓qB,qm,qV,cond_false,qz,XZ];apply hK;clear hK K;refine qO (qK (b:=_) rfl (fun hb1=>?_) (fun hb1=>?_))
 ·try simp only[decide_eq_true_eq]at hb1
  have hi':i<qs.length:=by omega
  obtain⟨lc,o,c,rfl⟩:=mem_open hv (by omega);obtain⟨e0,e1⟩:=mem_at hv hi';obtain⟨q,hqe⟩:∃q,q=qs.getD i badM:=⟨_,rfl⟩
  have hqm:q∈qs:=by rw[hqe];exact getD_mem badM hi'
  have hql:=hq q hqm;rw[<-hqe]at e0 e1;refine qW ?_;change Awp _ _ _ _ _ _ _;refine qO ?_;refine Qv ?_;refine awp_rseq [0,1,5,7,8] (by rfl) fun K hK=>?_;simp+decide only[qa,ev,putD,Slots.put,Slots.get,Slots.keep,if_true,if_false,true_and,↓qj,qf,↓qd,qb];apply hK;clear hK K;refine awp_rseq [0,1,5,7,8,16] (by rfl) fun K hK=>?_;simp+decide only[ev,putD,Slots.put,Slots.get,if_true,if_false,true_and,↓qj,qf,↓Xg,Qa,Qk Tryz.underlying28 sz57,↓qF,qg ag57 sz57,qc,qE,allLive,Bool.and_true,e0,e1,hql,Int.toNat_natCast];repeat (with_reducible refine And.intro ?_ ?_;· first|trivial|omega|(intro hg;simp only[Bool.and_eq_true,Bool.or_eq_true,Bool.not_eq_true',Bool.and_eq_false_iff,Bool.or_eq_false_iff,Bool.not_eq_false',decide_eq_true_eq,decide_eq_false_iff_not,Zd]at hg;omega))
  refine qM (V:= .bool (p q)) (by rfl) (by rfl) (hf q hqm) ?_;simp+decide only[qa,putD,Slots.put,Slots.keep,if_true,if_false];apply hK;clear hK K;refine qK (b:=_) rfl (fun hb2=>?_) (fun hb2=>?_)
  ·skip
   refine awp_rseq [4] (by rfl) fun K hK=>?_;simp+decide only[qa,ev,putD,Slots.put,Slots.get,Slots.keep,if_true,if_false,true_and,↓qj,qf,↓qd,qb];apply hK;clear hK K;refine qN ?_;try simp only[Qf,Qp]
   refine qY h (by repeat (first|exact Sub.refl _|assumption|refine Sub.trans_set ?_ (by assumption))) (Qb (Qe)) ?_;simp+decide only[Slots.get,if_true,and_true,Qw];rw[idxI_some badM hi' (by rw[<-hqe];exact hb2) hn]
  ·skip
   refine qW ?_;change Awp _ _ _ _ _ _ _;refine XI [0,1,7,8] (by rfl) ?_;simp+decide only[qa,ev,qJ,qG,putD,Slots.put,Slots.get,Slots.keep,if_true,if_false,true_and,↓qB,qm,qD,cond_false,qz,Xa,↓qj,qf];try simp(disch:=omega)only[wrap_i64]
   try simp only[Qj]
   exact⟨i+1,rfl,Sub.refl _,⟨hi',fun j hj=>by
    rcases Nat.lt_or_ge j i with z|z
    ·exact hn j z
    ·rw[show j=i by omega,<-hqe];exact hb2⟩,by omega⟩
 ·try simp only[decide_eq_false_iff_not]at hb1
  refine XJ ?_;change Awp _ _ _ _ _ _ _;refine awp_rseq [4] (by rfl) fun K hK=>?_;simp+decide only[qa,ev,qJ,qG,putD,Slots.put,Slots.keep,if_true,if_false,true_and,↓qd,qb];apply hK;clear hK K;refine qN ?_;refine qY h (by repeat (first|exact Sub.refl _|assumption|refine Sub.trans_set ?_ (by assumption))) (Qb (Qe)) ?_;simp+decide only[Slots.get,if_true,and_true,Qw];rw[idxI_none badM fun j hj=>hn j (by omega)]
theorem c_indexR(w0:World)(h:AHeap)(v:AVal)(qs:List RepQ)(f:FuncId)(cap:List AVal)(p:RepQ->Bool)(hv:IsL w0 h 2 v (qs.map UY))(hq:∀q∈qs,q.2.1.live=true/\q.2.2.live=true)(hl:qs.length<=1099511627776)(hfl:(AVal.func f cap).live=true)
 (hf:∀q∈qs,ACall Tryz.prog w0 f ([.agg (UY q)]++cap) h (fun r h'=>r= .bool (p q)/\h'=h)):
 ACall Tryz.prog w0 37 [v, .func f cap] h (fun r h'=>r= .int .i64 (qaF p qs)/\h'=h):=by
 have hlv:=hv.live;have nv:=rep_len hv;refine qR (n:=19) (rs:=[.tmp 4]) Tryz.func37 rfl rfl rfl rfl (Nat.le_of_ble_eq_true rfl) ?_;simp only[Qd];refine awp_rseq [0,1] (by rfl) fun K hK=>?_;simp+decide only[qa,ev,qJ,qG,putD,Slots.put,Slots.keep,if_true,if_false,true_and,↓qd,qb,Nat.zero_add];apply hK;clear hK K;refine qO ?_;refine awp_rseq [0,1,7,8] (by rfl) fun K hK=>?_;simp+decide only[qa,ev,qJ,qG,putD,Slots.put,Slots.get,Slots.keep,if_true,if_false,true_and,↓qj,qf,↓Xz,QK,nv];apply hK;clear hK K;refine Qv ?_;refine XE [0,1,7,8] (fun i:Nat=>[(0,v),(1, .func f cap),(7, .int .i64 qs.length),(8, .int .i64 i)]) (fun i:Nat=>h) (fun i:Nat=>i<=qs.length/\∀j,j<i->p (qs.getD j badR)=false) (fun i:Nat=>qs.length-i) 0 (by rfl) (Sub.refl _) ⟨Nat.zero_le _,fun j hj=>by omega⟩ ?_;rintro i ⟨hi,hn⟩;refine awp_rseq [0,1,7,8,9] (by rfl) fun K hK=>?_;simp+decide only[qa,ev,putD,Slots.put,Slots.get,Slots.keep,if_true,if_false,true_and,↓qB,qm,qV,cond_false,qz,XZ];apply hK;clear hK K;refine qO (qK (b:=_) rfl (fun hb1=>?_) (fun hb1=>?_))
 ·try simp only[decide_eq_true_eq]at hb1
  have hi':i<qs.length:=by omega
  obtain⟨lc,o,c,rfl⟩:=rep_open hv (by omega);obtain⟨e0,e1⟩:=rep_at hv hi';obtain⟨q,hqe⟩:∃q,q=qs.getD i badR:=⟨_,rfl⟩
  have hqm:q∈qs:=by rw[hqe];exact getD_mem badR hi'
  obtain⟨hql,hqr⟩:=hq q hqm;rw[<-hqe]at e0 e1;refine qW ?_;change Awp _ _ _ _ _ _ _;refine qO ?_;refine Qv ?_;refine awp_rseq [0,1,5,7,8] (by rfl) fun K hK=>?_;simp+decide only[qa,ev,putD,Slots.put,Slots.get,Slots.keep,if_true,if_false,true_and,↓qj,qf,↓qd,qb];apply hK;clear hK K;refine awp_rseq [0,1,5,7,8,16] (by rfl) fun K hK=>?_;simp+decide only[ev,putD,Slots.put,Slots.get,if_true,if_false,true_and,↓qj,qf,↓Xg,Qa,Qk Tryz.underlying43 sz46,↓qF,qg ag46 sz46,qc,allLive,Bool.and_true,e0,e1,hql,hqr,Int.toNat_natCast];repeat (with_reducible refine And.intro ?_ ?_;· first|trivial|omega|(intro hg;simp only[Bool.and_eq_true,Bool.or_eq_true,Bool.not_eq_true',Bool.and_eq_false_iff,Bool.or_eq_false_iff,Bool.not_eq_false',decide_eq_true_eq,decide_eq_false_iff_not,Zd]at hg;omega))
  refine qM (V:= .bool (p q)) (by rfl) (by rfl) (hf q hqm) ?_;simp+decide only[qa,putD,Slots.put,Slots.keep,if_true,if_false];apply hK;clear hK K;refine qK (b:=_) rfl (fun hb2=>?_) (fun hb2=>?_)
  ·skip
   refine awp_rseq [4] (by rfl) fun K hK=>?_;simp+decide only[qa,ev,putD,Slots.put,Slots.get,Slots.keep,if_true,if_false,true_and,↓qj,qf,↓qd,qb];apply hK;clear hK K;refine qN ?_;try simp only[Qf,Qp]
   refine qY h (by repeat (first|exact Sub.refl _|assumption|refine Sub.trans_set ?_ (by assumption))) (Qb (Qe)) ?_;simp+decide only[Slots.get,if_true,and_true,Qw];rw[idxI_some badR hi' (by rw[<-hqe];exact hb2) hn]
  ·skip
   refine qW ?_;change Awp _ _ _ _ _ _ _;refine XI [0,1,7,8] (by rfl) ?_;simp+decide only[qa,ev,qJ,qG,putD,Slots.put,Slots.get,Slots.keep,if_true,if_false,true_and,↓qB,qm,qD,cond_false,qz,Xa,↓qj,qf];try simp(disch:=omega)only[wrap_i64]
   try simp only[Qj]
   exact⟨i+1,rfl,Sub.refl _,⟨hi',fun j hj=>by
    rcases Nat.lt_or_ge j i with z|z
    ·exact hn j z
    ·rw[show j=i by omega,<-hqe];exact hb2⟩,by omega⟩
 ·try simp only[decide_eq_false_iff_not]at hb1
  refine XJ ?_;change Awp _ _ _ _ _ _ _;refine awp_rseq [4] (by rfl) fun K hK=>?_;simp+decide only[qa,ev,qJ,qG,putD,Slots.put,Slots.keep,if_true,if_false,true_and,↓qd,qb];apply hK;clear hK K;refine qN ?_;refine qY h (by repeat (first|exact Sub.refl _|assumption|refine Sub.trans_set ?_ (by assumption))) (Qb (Qe)) ?_;simp+decide only[Slots.get,if_true,and_true,Qw];rw[idxI_none badR fun j hj=>hn j (by omega)]
end Go.Proofs.YtlhhaagmakhilaaGreatDoor
namespace Go.Proofs.YtlhhaagmakhilaaGreatDoor
open Go.AM
open Go.Proofs
open Go.Col
open Go.Tok
open Go.Cop
open Go.RowKit (Below)
set_option maxRecDepth 100000
theorem same_alike:∀l m:List TokC,qbg l m=alike l m
 |[],[]=>rfl
 |[],_::_=>rfl
 |_::_,[]=>rfl
 |a::l,b::m=>by rw[qbg,alike,same_alike l m];rfl
theorem idxI_pos{α:Type}(p:α->Bool)(l:List α):decide (0<=qaF p l)=l.any p:=by
 unfold qaF;cases h:l.findIdx? p with
 |none=>
  rw[List.findIdx?_eq_none_iff]at h;have:l.any p=false:=by rw[List.any_eq_false];intro x hx;simp[h x hx]
  rw[this];rfl
 |some i=>
  rw[List.findIdx?_eq_some_iff_getElem]at h;obtain⟨hi,hp,-⟩:=h;have:l.any p=true:=by rw[List.any_eq_true];exact⟨l[i],List.getElem_mem hi,hp⟩
  rw[this,decide_eq_true_eq];simp only;omega
theorem RepOk.lives{w0:World}{h:AHeap}{q:RepQ}(hq:RepOk w0 h q):q.2.1.live=true/\q.2.2.live=true/\q.2.1.scal=true/\q.2.2.scal=true:=⟨hq.old.live,hq.new.live,hq.old.scal,hq.new.scal⟩
theorem c_rep1(w0:World)(h:AHeap)(q:RepQ)(hq:RepOk w0 h q):
 ACall Tryz.prog w0 36 [.agg (UY q)] h (fun r h'=>r= .bool (decide (q.1.old=[]))/\h'=h):=by
 obtain⟨h1,h2,h3,h4⟩:=hq.lives;have no:=Zy hq.old;obtain⟨⟨x,y⟩,ov,nv⟩:=q;simp only at h1 h2 h3 h4 no;unfold UY;have e:decide (x=[])=decide ((x.length:Int)=0):=decide_eq_decide.2 ⟨fun e=>by rw[e];rfl,fun e=>List.eq_nil_of_length_eq_zero (by omega)⟩;simp only;rw[e];refine qR (n:=7) (rs:=[.tmp 2]) Tryz.func36 rfl rfl rfl rfl (Nat.le_of_ble_eq_true rfl) ?_;simp only[Qd];refine awp_rseq [1] (by rfl) fun K hK=>?_;refine Wi (by rfl) (by rfl) (by rfl) fun k0q0 hk0q0=>?_;try have hf_0q0:h k0q0=none:=by first|assumption|(simp only[AHeap.set_none]at hk0q0;simp only[hk0q0])
 skip;simp+decide only[qa,ev,qJ,qG,putD,Slots.put,Slots.get,Slots.keep,if_true,if_false,true_and,↓qd,qb,AVal.cells];apply hK;clear hK K;refine awp_rseq [2] (by rfl) fun K hK=>?_;simp+decide only[qa,ev,qJ,qG,putD,Slots.put,Slots.get,Slots.keep,if_true,if_false,true_and,↓qA,ql,fa46_0,↓qF,Qa,qw UF,↓Xz,QK,↓qB,qm,qD,cond_false,qz,XB,↓qd,qb,QV,List.getD_cons_zero,Nat.zero_add,h1,no];apply hK;clear hK K;refine qN ?_;refine qY h (by repeat (first|exact Sub.refl _|assumption|refine Sub.trans_set ?_ (by assumption))) (Qb (Qe)) ?_;simp+decide only[Slots.get,if_true,and_true,Qw];skip
theorem c_contR(w0:World)(h:AHeap)(v:AVal)(qs:List RepQ)(hv:IsL w0 h 2 v (qs.map UY))(hq:∀q∈qs,RepOk w0 h q)(hl:qs.length<=1099511627776):
 ACall Tryz.prog w0 35 [v, .func 36 []] h (fun r h'=>r= .bool (qs.any fun q=>decide (q.1.old=[]))/\h'=h):=by
 have hlv:=hv.live;refine qR (n:=9) (rs:=[.tmp 4]) Tryz.func35 rfl rfl rfl rfl (Nat.le_of_ble_eq_true rfl) ?_;simp only[Qd];refine awp_rseq [0,1] (by rfl) fun K hK=>?_;simp+decide only[qa,ev,qJ,qG,putD,Slots.put,Slots.keep,if_true,if_false,true_and,↓qd,qb,Nat.zero_add];apply hK;clear hK K;refine awp_rseq [4] (by rfl) fun K hK=>?_;simp+decide only[ev,putD,Slots.put,Slots.get,if_true,if_false,true_and,↓qj,qf];refine qM (V:= .int .i64 (qaF (fun q=>decide (q.1.old=[])) qs)) (by rfl) (by rfl) (c_indexR w0 _ v qs _ [] (fun q=>decide (q.1.old=[])) hv (fun q hm=>⟨(hq q hm).lives.1,(hq q hm).lives.2.1⟩) hl rfl (fun q hm=>by rw[List.append_nil];exact c_rep1 w0 _ q (hq q hm))) ?_;simp+decide only[qa,ev,qJ,qG,putD,Slots.put,Slots.get,Slots.keep,if_true,if_false,true_and,↓qB,qm,qD,cond_false,qz,qaC,↓qd,qb];apply hK;clear hK K;refine qN ?_;refine qY h (by repeat (first|exact Sub.refl _|assumption|refine Sub.trans_set ?_ (by assumption))) (Qb (Qe)) ?_;simp+decide only[Slots.get,if_true,and_true,Qw];rw[idxI_pos]
theorem c_rep2Out(w0:World)(h:AHeap)(q:RepQ)(hq:RepOk w0 h q)(kl ka:Nat)(lv:AVal)(l:List TokC)(at_:Nat)(eb_l:h kl=some ⟨[lv],0⟩)(eb_a:h ka=some ⟨[.int .i64 at_],0⟩)(hlv:IsL w0 h 5 lv (l.map Xw))(hl:l.length<=1099511627776)(hat:at_<=l.length)(hout:¬at_+q.1.old.length<=l.length):
 ACall Tryz.prog w0 38 ([.agg (UY q)]++[.ptr (.own kl) 0, .ptr (.own ka) 0]) h (fun r h'=>r= .bool (Wn (l.drop at_) q.1.old)/\h'=h):=by
 obtain⟨h1,h2,h3,h4⟩:=hq.lives;have no:=Zy hq.old;have nl:=Zy hlv;have hll:=hlv.live;have hr:Wn (l.drop at_) q.1.old=false:=by
  unfold Wn;rw[decide_eq_false (by rw[List.length_drop];omega),Bool.false_and]
 rw[hr];obtain⟨⟨x,y⟩,ov,nv⟩:=q;simp only at h1 h2 h3 h4 no hout;have hs_h:Sub h h:=Sub.refl h;have hw1:IntKind.i64.wrap ((l.length:Int)-at_)=(l.length:Int)-at_:=by simp(disch:=omega)only[wrap_i64]
 have hng:¬((x.length:Int)<=l.length-at_):=by omega
 unfold UY;simp only[List.cons_append,List.nil_append];refine qR (n:=26) (rs:=[.tmp 4]) Tryz.func38 rfl rfl rfl rfl (Nat.le_of_ble_eq_true rfl) ?_;simp only[Qd];refine awp_rseq [1,2,3] (by rfl) fun K hK=>?_;refine Wi (by rfl) (by rfl) (by rfl) fun k0q0 hk0q0=>?_;have hn_0q0:h k0q0=none:=by first|assumption|(simp only[AHeap.set_none]at hk0q0;simp only[hk0q0])
 have hf_0q0:h k0q0=none:=Sub.none hs_h hn_0q0;have ne_0q0_l:k0q0≠kl:=AHeap.ne_some hn_0q0 eb_l;have ne_0q0_a:k0q0≠ka:=AHeap.ne_some hn_0q0 eb_a;skip;simp+decide only[qa,ev,qJ,qG,putD,Slots.put,Slots.get,Slots.keep,if_true,if_false,true_and,↓qd,qb,AVal.cells,Nat.zero_add,Nat.reduceAdd];apply hK;clear hK K;refine Wv [4] mixed (by kernel_rfl) (by rfl) fun K hK=>?_;simp+decide only[ev,putD,Slots.put,Slots.get,if_true,if_false,true_and,↓Ua,ql,fa46_0,↓vp_load,Zp,qw UF,↓vp_len,QK,qw ag3,↓vp_binOp,qm,qV,cond_false,qz,Ul,pI_leq,↓qcu,qf,↓UG,vgP,qbY,qI,qH,qy,implies_true,decide_false,Zm,false_implies,↓vg_load,↓vg_len,↓vg_binOp,↓vg_slice,Zo,evO,QU,ne_eq,not_false_eq_true,ne_0q0_l.symm,ne_0q0_a.symm,Qr w0 eb_l,Qr w0 eb_a,QV,List.getD_cons_zero,Nat.zero_add,qh,h1,no,nl,hll,hw1,hng];first|refine vOps_gno (by rfl) ?_|refine fOps_gno (by rfl) ?_
 simp+decide only[qbc,ev,qJ,qG,putD,Slots.put,Slots.get,Slots.keep,if_true,if_false,true_and,↓vp_pick,Qt,Qh,↓qbW,qb];apply hK;clear hK K;refine qN ?_;refine qY h (by repeat (first|exact Sub.refl _|assumption|refine Sub.trans_set ?_ (by assumption))) (Qb (Qe)) ?_;simp+decide only[Slots.get,if_true,and_true,Qw];all_goals first|rfl|exact⟨rfl,rfl⟩|(simp+decide only[if_true,if_false, *];done)|(trace_state;fail)
theorem c_rep2In(w0:World)(h:AHeap)(q:RepQ)(hq:RepOk w0 h q)(kl ka:Nat)(lv:AVal)(l:List TokC)(at_:Nat)(eb_l:h kl=some ⟨[lv],0⟩)(eb_a:h ka=some ⟨[.int .i64 at_],0⟩)(hlv:IsL w0 h 5 lv (l.map Xw))(hl:l.length<=1099511627776)(hin:at_+q.1.old.length<=l.length):
 ACall Tryz.prog w0 38 ([.agg (UY q)]++[.ptr (.own kl) 0, .ptr (.own ka) 0]) h (fun r h'=>r= .bool (Wn (l.drop at_) q.1.old)/\h'=h):=by
 obtain⟨h1,h2,h3,h4⟩:=hq.lives;have no:=Zy hq.old;have nl:=Zy hlv;have hll:=hlv.live;have hr:Wn (l.drop at_) q.1.old=qbg q.1.old (qbU l at_ (at_+q.1.old.length)):=by
  unfold Wn qbU;rw[decide_eq_true (by rw[List.length_drop];omega),Bool.true_and,same_alike,Nat.add_sub_cancel_left]
 rw[hr];have hoq:=hq.old;obtain⟨⟨x,y⟩,ov,nv⟩:=q;simp only at h1 h2 h3 h4 no hin hoq;have hs_h:Sub h h:=Sub.refl h;have hw1:IntKind.i64.wrap ((l.length:Int)-at_)=(l.length:Int)-at_:=by simp(disch:=omega)only[wrap_i64]
 have hw2:IntKind.i64.wrap ((at_:Int)+x.length)=(at_:Int)+x.length:=by simp(disch:=omega)only[wrap_i64]
 have hg0:(x.length:Int)<=l.length-at_:=by omega
 have hsl:=hlv.slice Tryz.underlying26 Xk (some (.int .i64 at_)) (some (.int .i64 ((at_:Int)+x.length))) (l:=at_) (r:=(at_:Int)+x.length) rfl rfl (by omega) (by omega) (by rw[List.length_map];omega);have hcut:=qdF hlv (o:=⟨true,at_,at_+x.length,0⟩) (Nat.le_add_right _ _) hin rfl;have hsv:subL 5 lv ((at_:Int)).toNat (((at_:Int)+x.length)).toNat=operV lv ⟨true,at_,at_+x.length,0⟩:=by
  rw[show(((at_:Int)+x.length)).toNat=at_+x.length by omega];rfl
 rw[hsv]at hsl;unfold UY;simp only[List.cons_append,List.nil_append];refine qR (n:=26) (rs:=[.tmp 4]) Tryz.func38 rfl rfl rfl rfl (Nat.le_of_ble_eq_true rfl) ?_;simp only[Qd];refine awp_rseq [1,2,3] (by rfl) fun K hK=>?_;refine Wi (by rfl) (by rfl) (by rfl) fun k0q0 hk0q0=>?_;have hn_0q0:h k0q0=none:=by first|assumption|(simp only[AHeap.set_none]at hk0q0;simp only[hk0q0])
 have hf_0q0:h k0q0=none:=Sub.none hs_h hn_0q0;have ne_0q0_l:k0q0≠kl:=AHeap.ne_some hn_0q0 eb_l;have ne_0q0_a:k0q0≠ka:=AHeap.ne_some hn_0q0 eb_a;skip;simp+decide only[qa,ev,qJ,qG,putD,Slots.put,Slots.get,Slots.keep,if_true,if_false,true_and,↓qd,qb,AVal.cells,Nat.zero_add,Nat.reduceAdd];apply hK;clear hK K;refine Wv [4] mixed (by kernel_rfl) (by rfl) fun K hK=>?_;simp+decide only[ev,putD,Slots.put,Slots.get,if_true,if_false,true_and,↓Ua,ql,fa46_0,↓vp_load,Zp,qw UF,↓vp_len,QK,qw ag3,↓vp_binOp,qm,qV,cond_false,qz,Ul,pI_leq,↓qcu,qf,↓UG,vgP,qbY,qI,qH,qy,implies_true,decide_true,Qo,↓vg_load,↓vg_len,↓vg_binOp,Xa,↓vg_slice,Zo,evO,QU,ne_eq,not_false_eq_true,ne_0q0_l.symm,ne_0q0_a.symm,Qr w0 eb_l,Qr w0 eb_a,QV,List.getD_cons_zero,Nat.zero_add,qh,h1,no,nl,hll,hw1,hw2,hg0,hsl];refine qcv (V:= .bool (qbg x (qbU l at_ (at_+x.length)))) (f:=_) (cap:=_) (xs:=_) (by first|rfl|(simp+decide only[gv,qI,Slots.get,if_true,if_false,QR,qH])) (fun hg=>⟨rfl,?_⟩) (fun hg=>c_Same w0 _ ov _ x _ (hoq.mono (by repeat (first|exact Sub.refl _|assumption|refine Sub.set_both ?_ _ _|refine Sub.trans_set ?_ (by repeat (first|assumption|refine(AHeap.set_ne _ _ (by first|assumption|exact Ne.symm (by assumption))).trans ?_))))) (hcut.mono (by repeat (first|exact Sub.refl _|assumption|refine Sub.set_both ?_ _ _|refine Sub.trans_set ?_ (by repeat (first|assumption|refine(AHeap.set_ne _ _ (by first|assumption|exact Ne.symm (by assumption))).trans ?_))))) (by omega)) ?_
 ·try simp+decide only[gv,qI,Slots.get,if_true,if_false,qy]at hg
  simp+decide only[evs,ev,Slots.get,if_true,if_false,List.append_nil,List.map_cons,List.map_nil]
 simp+decide only[qbc,ev,qJ,qG,putD,Slots.put,Slots.get,Slots.keep,if_true,if_false,true_and,gv,qI,qy,↓vp_pick,Qt,Qh,Xm,Xl,↓qbW,qb];apply hK;clear hK K;refine qN ?_;refine qY h (by repeat (first|exact Sub.refl _|assumption|refine Sub.trans_set ?_ (by assumption))) (Qb (Qe)) ?_;simp+decide only[Slots.get,if_true,and_true,Qw];rw[Bool.true_and]
theorem c_rep2(w0:World)(h:AHeap)(q:RepQ)(hq:RepOk w0 h q)(kl ka:Nat)(lv:AVal)(l:List TokC)(at_:Nat)(eb_l:h kl=some ⟨[lv],0⟩)(eb_a:h ka=some ⟨[.int .i64 at_],0⟩)(hlv:IsL w0 h 5 lv (l.map Xw))(hl:l.length<=1099511627776)(hat:at_<=l.length):
 ACall Tryz.prog w0 38 ([.agg (UY q)]++[.ptr (.own kl) 0, .ptr (.own ka) 0]) h (fun r h'=>r= .bool (Wn (l.drop at_) q.1.old)/\h'=h):=by
 by_cases hin:at_+q.1.old.length<=l.length
 ·exact c_rep2In w0 h q hq kl ka lv l at_ eb_l eb_a hlv hl hin
 ·exact c_rep2Out w0 h q hq kl ka lv l at_ eb_l eb_a hlv hl hat hin
end Go.Proofs.YtlhhaagmakhilaaGreatDoor
