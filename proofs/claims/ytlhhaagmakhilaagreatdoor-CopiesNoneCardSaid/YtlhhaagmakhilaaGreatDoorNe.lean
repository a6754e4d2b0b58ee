/-
  Texts of this proof, joined: CqK, CqL, CqM, CqN, CqO, CqP, CqQ, CqR, TkU, CsA, CsB, BmB, CsC, CtA, CtB, BmG, CtC, CtD, CtE, CtF, CtG, CtH.
  Conditions: none.
-/
import Derived.Test.YtlhhaagmakhilaaGreatDoorNd
import Derived.Test.YtlhhaagmakhilaaGreatDoorNb
set_option linter.unusedSimpArgs false
set_option linter.unnecessarySimpa false
set_option linter.unusedVariables false
namespace Go.Proofs.YtlhhaagmakhilaaGreatDoor
open Go.AM
open Go.Proofs
open Go.Col (Str FaultC okF)
open Go.Tok
open Go.Cop
open Go.RowKit (Below)
set_option maxRecDepth 100000
theorem cutT_len(l:List TokC)(i j:Nat):(qbn l i j).length<=l.length:=by
 unfold qbn;rw[List.length_take,List.length_drop];omega
theorem pair_new(l:List TokC)(i:Nat):(YT l i).rep.new.length<=l.length:=by
 unfold YT;simp only;split
 ·exact Nat.zero_le _
 ·split
  ·exact Nat.zero_le _
  ·exact cutT_len _ _ _
theorem pairs_new(l:List TokC):∀(f i:Nat) (first:Bool) (acc:List RepC),(∀x∈acc,x.new.length<=l.length)->(∀x∈(YS l f i first acc).reps,x.new.length<=l.length)/\(YS l f i first acc).reps.length<=acc.length+f
 |0,i,first,acc,h=>⟨h,Nat.le_refl _⟩
 |f+1,i,first,acc,h=>by
  rw[YS];split
  ·simp only
   split
   ·exact⟨(fun x hx=>by cases hx),Nat.zero_le _⟩
   ·have:=pairs_new l f (YT l i).at_ false (acc++[(YT l i).rep]) fun x hx=>by
     rcases List.mem_append.1 hx with z|z
     ·exact h x z
     ·rw[List.mem_singleton.1 z];exact pair_new l i
    refine⟨this.1,?_⟩;have h2:=this.2;rw[List.length_append,List.length_singleton]at h2;omega
  ·exact⟨h,Nat.le_add_right _ _⟩
theorem behind_reps(l:List TokC)(t:TokC)(p:Pairs):(UF l t p).reps=[]\/(UF l t p).reps=p.reps:=by
 unfold UF;split
 ·exact .inl rfl
 ·split
  ·exact .inl rfl
  ·exact .inr rfl
theorem statement_reps(l:List TokC)(i:Nat):(∀x∈(Xi l i).reps,x.new.length<=l.length)/\(Xi l i).reps.length<=l.length+2:=by
 unfold Xi;split
 ·exact⟨(fun x hx=>by cases hx),Nat.zero_le _⟩
 ·rcases behind_reps l (l.getD i noT) (if XL l (i+1) Yd=true then YS l (l.length+2) (i+2) true []else⟨true,[],i+1⟩)with e|e
  ·rw[e]
   exact⟨(fun x hx=>by cases hx),Nat.zero_le _⟩
  ·rw[e]
   split
   ·have:=pairs_new l (l.length+2) (i+2) true [] (fun x hx=>by cases hx)
    refine⟨this.1,?_⟩;have h2:=this.2;rw[List.length_nil]at h2;omega
   ·exact⟨(fun x hx=>by cases hx),Nat.zero_le _⟩
def opC(e:Nat×Str):AVal:= .mapE e.1 (.str e.2) (.bool true)
def ZN(B:AHeap)(kx km:Nat)(mv:AVal)(c:Nat)(es:List (Nat×Str))(nb:Option Buf)(cp:Nat):AHeap:=qbe (B.set km (XH c (es.map opC))) kx mv (.map km) nb cp
structure ExOk(B:AHeap)(kx km:Nat)(nb:Option Buf)(ns:List Str):Prop where
 bm:B km=none
 bx:B kx=none
 ne:km≠kx
 use:∀M,UseOk (B.set km M) kx nb ns
section
variable {B:AHeap} {kx km:Nat} {mv:AVal} {c:Nat} {es:List (Nat×Str)} {nb:Option Buf} {cp:Nat} {ns:List Str}
theorem ExOk.x(he:ExOk B kx km nb ns):ZN B kx km mv c es nb cp kx=some ⟨[mv, .map km,QA 1 nb, .int .i64 cp],0⟩:=(he.use _).at
theorem ExOk.m(he:ExOk B kx km nb ns):ZN B kx km mv c es nb cp km=some (XH c (es.map opC)):=(he.use _).above _ _ (AHeap.set_same _ _ _)
theorem ExOk.above(he:ExOk B kx km nb ns):Sub B (ZN B kx km mv c es nb cp):=(Sub.set he.bm).trans (he.use _).above
theorem ExOk.set_x(he:ExOk B kx km nb ns)(cp':Nat):(ZN B kx km mv c es nb cp).set kx ⟨[mv, .map km,QA 1 nb, .int .i64 cp'],0⟩=ZN B kx km mv c es nb cp':=(he.use _).set _
theorem ExOk.set_m(he:ExOk B kx km nb ns)(c':Nat)(es':List (Nat×Str)):(ZN B kx km mv c es nb cp).set km (XH c' (es'.map opC))=ZN B kx km mv c' es' nb cp:=by
 unfold ZN qbe;rw[Wo ((he.use _).ok _) ((AHeap.set_ne _ _ he.ne).trans (AHeap.set_same _ _ _)),AHeap.set_comm _ _ _ he.ne,AHeap.set_set]
theorem ExOk.down(he:ExOk B kx km nb ns){B':AHeap}(hs:Sub B' B):ExOk B' kx km nb ns:=⟨hs.none he.bm,hs.none he.bx,he.ne,fun M=>(he.use M).down (Sub.set_both hs _ _)⟩
theorem qcL{B':AHeap}(hs:Sub B' B):Sub (ZN B' kx km mv c es nb cp) (ZN B kx km mv c es nb cp):=Sub.bufBoth (Sub.set_both (Sub.set_both hs _ _) _ _)
theorem ExOk.lay(he:ExOk B kx km nb ns){j:Nat}(hj:ZN B kx km mv c es nb cp j=none)(b:Blk):(ZN B kx km mv c es nb cp).set j b=ZN (B.set j b) kx km mv c es nb cp/\ExOk (B.set j b) kx km nb ns:=by
 have hnm:j≠km:=fun e=>by rw[e,he.m]at hj;cases hj
 have hnx:j≠kx:=fun e=>by rw[e,he.x]at hj;cases hj
 obtain⟨h1,h2,h3,h4⟩:=(he.use (XH c (es.map opC))).lay hj b;refine⟨?_,(AHeap.set_ne _ _ hnm.symm).trans he.bm,(AHeap.set_ne _ _ hnx.symm).trans he.bx,he.ne,fun M=>?_⟩
 ·unfold ZN
  rw[h1,AHeap.set_comm _ _ _ hnm]
 ·have hj2:qbe (B.set km M) kx mv (.map km) nb cp j=none:=by
   have hb:B j=none:=by
    have:=h3
    rwa [AHeap.set_ne _ _ hnm]at this
   unfold ZN qbe at hj;unfold qbe;cases nb with
   |none=>exact(AHeap.set_ne _ _ hnx).trans ((AHeap.set_ne _ _ hnm).trans hb)
   |some b'=>
    have hnb:j≠b'.blk:=fun e=>by
     rw[e,show QG ((B.set km (XH c (es.map opC))).set kx ⟨[mv, .map km,QA 1 (some b'), .int .i64 cp],0⟩) (some b')=((B.set km (XH c (es.map opC))).set kx ⟨[mv, .map km,QA 1 (some b'), .int .i64 cp],0⟩).set b'.blk ⟨b'.cells,0⟩from rfl,AHeap.set_same]at hj;cases hj
    exact(AHeap.set_ne _ _ hnb).trans ((AHeap.set_ne _ _ hnx).trans ((AHeap.set_ne _ _ hnm).trans hb))
  have:=((he.use M).lay hj2 b).2.1
  rwa [AHeap.set_comm _ _ _ hnm]at this
theorem ExOk.off(he:ExOk B kx km nb ns){B':AHeap}{j:Nat}{b:Blk}(hj:B j=some b)(hj':B' j=none):ZN B' kx km mv c es nb cp j=none:=by
 have hnm:j≠km:=fun e=>by rw[e,he.bm]at hj;cases hj
 have hnx:j≠kx:=fun e=>by rw[e,he.bx]at hj;cases hj
 have h1:=(he.use ⟨[],0⟩).ok ⟨[],0⟩;unfold ZN qbe;cases nb with
 |none=>exact(AHeap.set_ne _ _ hnx).trans ((AHeap.set_ne _ _ hnm).trans hj')
 |some b'=>
  have hnb:j≠b'.blk:=fun e=>by
   have h2:((B.set km ⟨[],0⟩).set kx ⟨[],0⟩) b'.blk=none:=h1.1;rw[<-e,AHeap.set_ne _ _ hnx,AHeap.set_ne _ _ hnm,hj]at h2;cases h2
  exact(AHeap.set_ne _ _ hnb).trans ((AHeap.set_ne _ _ hnx).trans ((AHeap.set_ne _ _ hnm).trans hj'))
end
structure ExpR(B:AHeap)(kx km:Nat)(mv:AVal)(op:List Str)(st:Xs)(h:AHeap):Prop where
 few:st.names.length<=5000
 ex:∃c es nb,ExOk B kx km nb st.names/\es.map (·.2)=op/\Sub (ZN B kx km mv c es nb st.copies) h
theorem mFind_op(s:Str):∀(es:List (Nat×Str)) (k:Nat),s∉es.map (·.2)->qar (.str s) (es.map opC) k=some none
 |[],_,_=>rfl
 |e::es,k,h=>by
  simp only[List.map_cons,List.mem_cons,not_or]at h;rw[List.map_cons,opC,qar];simp only[kEq];rw[decide_eq_false h.1];exact mFind_op s es (k+1) h.2
theorem qbP(s:Str)(b:Nat):∀(es:List (Nat×Str)) (k:Nat),s∉es.map (·.2)->qar (.str s) ((es++[(b,s)]).map opC) k=some (some (k+es.length, .bool true))
 |[],k,_=>by
  rw[List.nil_append,List.map_cons,List.map_nil,opC,qar];simp only[kEq,decide_true];rfl
 |e::es,k,h=>by
  simp only[List.map_cons,List.mem_cons,not_or]at h;rw[List.cons_append,List.map_cons,opC,qar];simp only[kEq];rw[decide_eq_false h.1,List.length_cons,show k+(es.length+1)=(k+1)+es.length by omega];exact qbP s b es (k+1) h.2
theorem mFind_in(s:Str):∀(es:List (Nat×Str)) (k:Nat),s∈es.map (·.2)->∃j,qar (.str s) (es.map opC) k=some (some (j, .bool true))
 |[],_,h=>by cases h
 |e::es,k,h=>by
  rw[List.map_cons,opC,qar];simp only[kEq];by_cases q:s=e.2
  ·rw[decide_eq_true q]
   exact⟨k,rfl⟩
  ·rw[decide_eq_false q]
   rw[List.map_cons,List.mem_cons]at h;exact mFind_in s es (k+1) (h.resolve_left q)
theorem look_op{h:AHeap}{km c:Nat}{es:List (Nat×Str)}{s:Str}(hm:h km=some (XH c (es.map opC))):qaf Tryz.prog h 74 (.map km) (.str s) false=⟨True, .bool ((es.map (·.2)).contains s)⟩:=by
 by_cases q:s∈es.map (·.2)
 ·obtain⟨j,hj⟩:=mFind_in s es 0 q
  rw[pLookup_in Tryz.underlying74 ze4 hm (by rfl) hj,lookR_false,List.contains_iff_mem.2 q]
 ·rw[pLookup_out Tryz.underlying74 ze4 hm (by rfl) (mFind_op s es 0 q),lookR_false]
  have:(es.map (·.2)).contains s=false:=by
   rw[Bool.eq_false_iff];intro z;exact q (List.contains_iff_mem.1 z)
  rw[this];rfl
theorem len_op{h:AHeap}{km c:Nat}{es:List (Nat×Str)}(hm:h km=some (XH c (es.map opC))):Ye Tryz.prog h 74 (.map km)=⟨True, .int .i64 es.length⟩:=by
 have:=pLen_map Tryz.underlying74 (Uo hm)
 rwa [List.length_map]at this
theorem c_mem2(wz:World)(h:AHeap)(q:MemQ)(hq:q.2.live=true)(hqc:q.2.cells=[q.2])(kn:Nat)(s:Str)(eb_n:h kn=some ⟨[.str s],0⟩):
 ACall Tryz.prog wz 58 ([.agg (memQC q)]++[.ptr (.own kn) 0]) h (fun r h'=>r= .bool (decide (q.1.name=s))/\h'=h):=by
 have hs_h:Sub h h:=Sub.refl h;obtain⟨⟨nm,tk⟩,tv⟩:=q;simp only at hq hqc;unfold memQC;simp only[List.cons_append,List.nil_append];refine qU (n:=8) (rs:=[.tmp 3]) Tryz.func58 rfl rfl rfl rfl (Nat.le_of_ble_eq_true rfl) ?_;simp only[Qe];refine awp_rseq [1,2] (by rfl) fun K hK=>?_;refine WE (v:= .agg [.str nm,tv]) (cs:=[.str nm,tv]) (by rfl) (by simp+decide only[lv_agg]) (by rfl) fun k0q0 hk0q0=>?_;have hn_0q0:h k0q0=none:=by first|assumption|(simp only[AHeap.set_none]at hk0q0;simp only[hk0q0])
 have hf_0q0:h k0q0=none:=Sub.none hs_h hn_0q0;have ne_0q0_n:k0q0≠kn:=AHeap.ne_some hn_0q0 eb_n;simp+decide only[qa,ev,qH,qF,putD,Slots.put,Slots.keep,if_true,if_false,true_and,↓qd,qb,Nat.zero_add];apply hK;clear hK K;refine awp_rseq [3] (by rfl) fun K hK=>?_;simp+decide only[qa,ev,putD,Slots.put,Slots.get,Slots.keep,if_true,if_false,true_and,↓qC,qm,fa57_0,↓qG,qY,qy ag9,↓qA,ql,qR,cond_false,XZ,qfA,↓qd,qb,QO,ne_eq,not_false_eq_true,ne_0q0_n.symm,Qy wz eb_n,QP,List.getD_cons_zero,Nat.zero_add,qE];apply hK;clear hK K;refine qO ?_;refine Qa h zqC (qZ (Qd)) ?_;simp+decide only[Slots.get,if_true,and_true,Qr];all_goals first|rfl|exact⟨rfl,rfl⟩|(simp+decide only[if_true,if_false, *];done)|(trace_state;fail)
theorem c_mem1(wz:World)(h:AHeap)(ks:Nat)(t:TokC)(rv:AVal)(hrl:rv.live=true)(e:Int)(eb_s:h ks=some ⟨stmC t rv,0⟩):
 ACall Tryz.prog wz 56 ([.int .i64 e]++[.ptr (.own ks) 0]) h (fun r h'=>r= .tuple [.nilSlice,Qz ⟨e,t.line,t.col⟩]/\h'=h):=by
 have hs_h:Sub h h:=Sub.refl h;unfold stmC at eb_s;simp only[List.cons_append,List.nil_append];refine qU (n:=10) (rs:=[.tmp 3, .cell 4 35]) Tryz.func56 rfl rfl rfl rfl (Nat.le_of_ble_eq_true rfl) ?_;simp only[Qe];refine awp_rseq [0,1,4] (by rfl) fun K hK=>?_;simp+decide only[ev,qH,qF,putD,Slots.put,if_false,true_and,↓qd,qb,Nat.zero_add];refine Qj qbc (cs:=[.int .i64 0, .int .i64 0, .int .i64 0]) (by rfl) fun k0q1 hk0q1=>?_;have hn_0q1:h k0q1=none:=by first|assumption|(simp only[AHeap.set_none]at hk0q1;simp only[hk0q1])
 have hf_0q1:h k0q1=none:=Sub.none hs_h hn_0q1;have ne_0q1_s:k0q1≠ks:=AHeap.ne_some hn_0q1 eb_s;simp+decide only[qa,putD,Slots.put,Slots.keep,if_true,if_false];apply hK;clear hK K;refine Zk 6 [3,4] mixed (by kernel_rfl) (by rfl) (by rfl) fun K hK=>?_;simp+decide only[ev,qH,qF,putD,Slots.put,Slots.get,if_true,if_false,true_and,↓qh,qc,↓qC,qm,fa91_0,fa54_2,↓qG,qY,qg ag33 qbf,↓Qp,↓qW,UE,evP,List.map_cons,List.map_nil,↓qd,qb,QO,ne_eq,not_false_eq_true,ne_0q1_s.symm,Qy wz eb_s,qf,List.getD_cons_zero,List.getD_cons_succ,Nat.zero_add,Nat.reduceAdd,qi,allLive,Bool.and_true];refine qp (by rfl) (by rfl) zqA QI (by rfl) (by rfl) zqD (Nat.zero_le _) (by rfl) ?_;simp only[AHeap.set_set,AVal.cells];simp+decide only[qa,ev,putD,Slots.get,Slots.keep,if_true,if_false,setAt,List.set_cons_zero,List.set_cons_succ,Nat.zero_add,Nat.reduceAdd];apply hK;clear hK K;refine qO ?_;refine Qa h zqC (?_) ?_
 ·simp+decide only[QE,qw,qj,Slots.get,if_true,if_false,and_true,qw,qj,qg Xt QI,Qc,qf,List.getD_cons_zero,List.getD_cons_succ,Nat.zero_add,Nat.reduceAdd,qi,allLive,Bool.and_true,qf,List.getD_cons_zero,List.getD_cons_succ,Nat.zero_add,Nat.reduceAdd,qi,allLive,Bool.and_true]
 simp+decide only[Slots.get,if_true,if_false,and_true,Xj,qw,qj,qg Xt QI,Qc,qf,List.getD_cons_zero,List.getD_cons_succ,Nat.zero_add,Nat.reduceAdd,qi,allLive,Bool.and_true,qf,List.getD_cons_zero,List.getD_cons_succ,Nat.zero_add,Nat.reduceAdd,qi,allLive,Bool.and_true,Qz];all_goals first|rfl|exact⟨rfl,rfl⟩|(simp+decide only[if_true,if_false, *];done)|(trace_state;fail)
end Go.Proofs.YtlhhaagmakhilaaGreatDoor
namespace Go.Proofs.YtlhhaagmakhilaaGreatDoor
open Go.AM
open Go.Proofs
open Go.Col (Str FaultC okF)
open Go.Tok
open Go.Cop
open Go.RowKit (Below)
set_option maxRecDepth 100000
def ListR(wz:World)(B:AHeap)(kx km:Nat)(mv:AVal)(op:List Str)(x:Xr)(r:AVal)(h':AHeap):Prop:=
 ∃(tb:Option Buf) (st':Xs) (bv:AVal) (bf:FaultC),bufOk B 5 tb/\ExpR (QG B tb) kx km mv op st' h'/\r= .tuple [bv,Qz bf]/\
  ((bf≠okF/\x= .bad bf/\bv= .nilSlice)\/(bf=okF/\∃out,x= .ok out st'/\IsL wz (QG (fun _=>none) tb) 5 bv (out.map QK)/\out.length<=200000/\st'.names.length<=st'.copies/\st'.copies<=4096))
theorem qdK(H:AHeap):Sub (fun _=>none) H:=fun j d hj=>by cases hj
theorem UseOk.swap{B:AHeap}{kx km:Nat}{nb:Option Buf}{ns:List Str}{M:Blk}(hu:UseOk (B.set km M) kx nb ns)(hne:km≠kx)(M':Blk):UseOk (B.set km M') kx nb ns:=by
 refine⟨?_,fun X=>?_,hu.eq⟩
 ·have:=hu.bx
  rw[AHeap.set_ne _ _ hne.symm]at this|-
  exact this
 ·have h1:=hu.ok X
  cases nb with
  |none=>trivial
  |some b=>
   refine⟨?_,h1.2⟩;have h2:((B.set km M).set kx X) b.blk=none:=h1.1;have e1:b.blk≠kx:=fun e=>by rw[e,AHeap.set_same]at h2;cases h2
   rw[AHeap.set_ne _ _ e1]at h2;have e2:b.blk≠km:=fun e=>by rw[e,AHeap.set_same]at h2;cases h2
   rw[AHeap.set_ne _ _ e2]at h2;exact(AHeap.set_ne _ _ e1).trans ((AHeap.set_ne _ _ e2).trans h2)
theorem qds(s:Str)(b:Nat):∀es:List (Nat×Str),((es++[(b,s)]).map opC).eraseIdx es.length=es.map opC
 |es=>by
  rw[List.map_append,List.eraseIdx_append_of_length_le (by rw[List.length_map];exact Nat.le_refl _),List.length_map,Nat.sub_self];simp
theorem ExOk.buf{B hc:AHeap}{kx km:Nat}{mv:AVal}{c cp es5:Nat}{es:List (Nat×Str)}{nb tb:Option Buf}{ns:List Str}(he:ExOk B kx km nb ns)(hs:Sub (ZN B kx km mv c es nb cp) hc)(ht:bufOk hc es5 tb):ZN (QG B tb) kx km mv c es nb cp=QG (ZN B kx km mv c es nb cp) tb/\ExOk (QG B tb) kx km nb ns:=by
 cases tb with
 |none=>exact⟨rfl,he⟩
 |some b=>
  obtain⟨h1,h2⟩:=he.lay (mv:=mv) (c:=c) (es:=es) (cp:=cp) (j:=b.blk) (hs.none ht.1) ⟨b.cells,0⟩;exact⟨h1.symm,h2⟩
theorem bufH_off{h hc:AHeap}{es j:Nat}{b:Option Buf}{c:Blk}(hj:h j=none)(hj':hc j=some c)(hb:bufOk hc es b):QG h b j=none:=by
 cases b with
 |none=>exact hj
 |some b=>
  have hne:j≠b.blk:=fun e=>by
   have:=hb.1;rw[<-e,hj']at this;cases this
  exact(AHeap.set_ne _ _ hne).trans hj
theorem find_name{qs:List MemQ}{ms:List MemC}(hms:ms=qs.map (·.1))(s:Str):(qaW (fun q:MemQ=>decide (q.1.name=s)) qs= -1/\ms.find? (fun m=>decide (m.name=s))=none)\/∃i,i<qs.length/\qaW (fun q:MemQ=>decide (q.1.name=s)) qs=i/\ms.find? (fun m=>decide (m.name=s))=some (qs.getD i badM).1:=by
 have e:=idxI_map (fun q:MemQ=>q.1) (fun m:MemC=>decide (m.name=s)) qs;rw[<-hms]at e;rcases find_idx (r:=ms.map fun m=>(⟨[⟨1,m.name,0,0,false⟩],[]⟩:RepC)) (p:=fun x=>decide ((x.old.getD 0 noT).text=s))with z|z
 ·left
  rw[List.findIdx?_map]at z;rw[List.find?_map]at z;refine⟨?_,?_⟩
  ·rw[<-e];unfold qaW
   have z1:=z.1;simp only[Function.comp_def]at z1;rw[show ms.findIdx? (fun m=>decide (m.name=s))=none from z1]
  ·have z2:=z.2
   simpa[Function.comp_def]using z2
 ·right
  obtain⟨i,x,z1,z2,z3,z4⟩:=z;rw[List.findIdx?_map]at z1;have z1':ms.findIdx? (fun m=>decide (m.name=s))=some i:=z1;rw[List.length_map]at z3;have hq:i<qs.length:=by rw[hms,List.length_map]at z3;exact z3
  refine⟨i,hq,?_,?_⟩
  ·rw[<-e];unfold qaW;rw[z1']
  ·have h1:=List.findIdx?_eq_some_iff_getElem.1 z1'
   obtain⟨h2,h3,h4⟩:=h1;rw[List.find?_eq_some_iff_getElem];refine⟨?_,i,h2,?_,fun j hj=>by simpa using h4 j hj⟩
   ·have:(qs.getD i badM).1=ms[i]:=by
     simp only[hms,List.getElem_map,List.getD,List.getElem?_eq_getElem hq,Option.getD_some]
    rw[this];exact h3
   ·simp only[hms,List.getElem_map,List.getD,List.getElem?_eq_getElem hq,Option.getD_some]
end Go.Proofs.YtlhhaagmakhilaaGreatDoor
namespace Go.Proofs.YtlhhaagmakhilaaGreatDoor
open Go.AM
open Go.Proofs
open Go.Col (Str FaultC okF)
open Go.Tok
open Go.Cop
open Go.RowKit (Below)
set_option maxRecDepth 100000
theorem addE_len(ns:List Str)(s:Str):(Cop.addE ns s).length<=ns.length+1:=by
 unfold Cop.addE;split
 ·omega
 ·rw[List.length_append,List.length_singleton];omega
def RecOk(wz:World)(kx km:Nat)(mv:AVal)(mems:List MemC)(op:List Str)(rec:List TokC->List Str->Xs->Xr):Prop:=
 op.length<=8->∀(h B:AHeap) (v:AVal) (l:List TokC) (st:Xs),ExpR B kx km mv op st h->IsMems wz B mv mems->IsL wz B 5 v (l.map QK)->l.length<=100000->st.names.length<=st.copies->st.copies<=4096->
  ACall Tryz.prog wz 32 [.ptr (.own kx) 0,v] h (ListR wz B kx km mv op (rec l op st))
set_option maxHeartbeats 4000000 in
theorem c_member(wz:World)(h B:AHeap)(kx km:Nat)(mv:AVal)(mems:List MemC)(op:List Str)(st:Xs)(s:Stm)(rv:AVal)(rec:List TokC->List Str->Xs->Xr)(hx:ExpR B kx km mv op st h)(hms:IsMems wz B mv mems)(hml:mems.length<=1000000)(hmt:∀m∈mems,m.toks.length<=100000)
 (hrp:IsReps wz B rv s.reps) (hrn:∀x∈s.reps,x.new.length<=1000000) (hrl:s.reps.length<=1000000) (hro:∀x∈s.reps,x.old≠[]) (hst:st.names.length<=st.copies) (hst2:st.copies<=4096) (hop8:op.length<=8)
 (hrec:op.length<8->RecOk wz kx km mv mems (op++[s.name.text]) rec):
 ACall Tryz.prog wz 47 [.ptr (.own kx) 0, .agg (stmC s.name rv)] h (ListR wz B kx km mv op (qai true mems op rec s st)):=by
 obtain⟨hfew,c,es,nb,he,hes,hsh⟩:=hx;obtain⟨qs,hqs,hq2,hq3⟩:=hms;have hmvs:=hq2.scal;have hmvl:=Yj hmvs;have hmvc:=hq2.cells;have hrvs:rv.scal=true:=by obtain⟨zs,-,z2,-⟩:=hrp;exact z2.scal
 have hrvl:=Yj hrvs;have hql:∀q∈qs,q.2.live=true:=fun q hq=>(hq3 q hq).live;have hqn:qs.length=mems.length:=by rw[hqs,List.length_map]
 refine ACall.down hsh ?_;obtain⟨nm,hnm⟩:∃nm,nm=s.name.text:=⟨_,rfl⟩
 have hsc:stmC s.name rv=[.int .u8 s.name.kind.toNat, .str nm, .int .i64 s.name.line, .int .i64 s.name.col, .bool s.name.left,rv]:=by rw[hnm];rfl
 obtain⟨X,hX⟩:∃X,X=qai true mems op rec s st:=⟨_,rfl⟩
 rw[<-hX];unfold qai at hX;rw[<-hnm]at hX hrec;have hes':es.length=op.length:=by rw[<-hes,List.length_map]
 obtain⟨H,hH⟩:∃H,H=ZN B kx km mv c es nb st.copies:=⟨_,rfl⟩
 have hs_H:Sub B H:=by rw[hH];exact he.above
 have eb_x:H kx=some ⟨[mv, .map km,QA 1 nb, .int .i64 st.copies],0⟩:=by rw[hH];exact he.x
 have eb_m:H km=some (XH c (es.map opC)):=by rw[hH];exact he.m
 have hbl:=QV 1 nb;have ne_x_m:kx≠km:=he.ne.symm;rw[<-hH];unfold stmC;rw[<-hnm];refine acall_put (k:=119) (rs:=[.tmp 4, .cell 5 35]) Tryz.func47 rfl rfl rfl rfl (Nat.le_of_ble_eq_true rfl) ?_;simp only[Qe];refine awp_rseq [0,3,5] (by rfl) fun K hK=>?_;refine WE (v:= .agg [.int .u8 s.name.kind.toNat, .str nm, .int .i64 s.name.line, .int .i64 s.name.col, .bool s.name.left,rv]) (cs:=[.int .u8 s.name.kind.toNat, .str nm, .int .i64 s.name.line, .int .i64 s.name.col, .bool s.name.left,rv]) (by rfl) (by simp+decide only[lv_agg]) (by rfl) fun k0q0 hk0q0=>?_;have hn_0q0:H k0q0=none:=by first|assumption|(simp only[AHeap.set_none]at hk0q0;simp only[hk0q0])
 have hf_0q0:B k0q0=none:=Sub.none hs_H hn_0q0;have ne_0q0_x:k0q0≠kx:=AHeap.ne_some hn_0q0 eb_x;have ne_0q0_m:k0q0≠km:=AHeap.ne_some hn_0q0 eb_m;simp+decide only[ev,qH,qF,putD,Slots.put,if_false,true_and,↓qd,qb,Nat.zero_add];refine Qj qbc (cs:=[.int .i64 0, .int .i64 0, .int .i64 0]) (by rfl) fun k0q2 hk0q2=>?_;have ne_0q2_0q0:k0q2≠k0q0:=by simp only[AHeap.set_none]at hk0q2;simp only[hk0q2,ne_eq,not_false_eq_true]
 have hn_0q2:H k0q2=none:=by first|assumption|(simp only[AHeap.set_none]at hk0q2;simp only[hk0q2])
 have hf_0q2:B k0q2=none:=Sub.none hs_H hn_0q2;have ne_0q2_x:k0q2≠kx:=AHeap.ne_some hn_0q2 eb_x;have ne_0q2_m:k0q2≠km:=AHeap.ne_some hn_0q2 eb_m;simp+decide only[qa,putD,Slots.put,Slots.keep,if_true,if_false];apply hK;clear hK K;refine awp_rseq [0,3,5,6] (by rfl) fun K hK=>?_;simp+decide only[ev,putD,Slots.put,Slots.get,if_true,if_false,true_and,↓qC,qm,fa91_0,UI,↓qG,qY,qy ag9,QO,ne_eq,not_false_eq_true,ne_0q2_0q0.symm,QP,List.getD_cons_zero,List.getD_cons_succ,Nat.zero_add,qE];refine Qj ze9 (cs:=[.str []]) (by rfl) fun k1q3 hk1q3=>?_;have ne_1q3_0q0:k1q3≠k0q0:=by simp only[AHeap.set_none]at hk1q3;simp only[hk1q3,ne_eq,not_false_eq_true]
 have ne_1q3_0q2:k1q3≠k0q2:=by simp only[AHeap.set_none]at hk1q3;simp only[hk1q3,ne_eq,not_false_eq_true]
 have hn_1q3:H k1q3=none:=by first|assumption|(simp only[AHeap.set_none]at hk1q3;simp only[hk1q3])
 have hf_1q3:B k1q3=none:=Sub.none hs_H hn_1q3;have ne_1q3_x:k1q3≠kx:=AHeap.ne_some hn_1q3 eb_x;have ne_1q3_m:k1q3≠km:=AHeap.ne_some hn_1q3 eb_m;refine qp (by rfl) (by rfl) zqA sz9 (by rfl) (by rfl) zqD (Nat.zero_le _) (by first|rfl|(simp+decide only[ev,putD,Slots.put,Slots.get,if_true,if_false,AVal.cells,QC,Bool.and_true,Bool.true_and,hmvs,hrvs,XY,Ze,XJ])) ?_;simp only[AHeap.set_set,AVal.cells];simp+decide only[qa,ev,putD,Slots.put,Slots.get,Slots.keep,if_true,if_false,setAt,List.set_cons_zero];apply hK;clear hK K;refine awp_rseq [0,3,5,6,7] (by rfl) fun K hK=>?_;simp+decide only[qa,ev,putD,Slots.put,Slots.get,Slots.keep,if_true,if_false,true_and,↓qeu,qdh,evs,List.map_cons,List.map_nil,↓qd,qb];apply hK;clear hK K;refine awp_rseq [0,3,5,6,7,8] (by rfl) fun K hK=>?_;simp+decide only[ev,putD,Slots.put,Slots.get,if_true,if_false,true_and,↓qh,qc,↓Qk,qM,Qn,↓qC,qm,fa76_0,↓qG,qY,qy ag28,↓qeu,qdh,evs,List.map_cons,List.map_nil,QO,ne_eq,not_false_eq_true,ne_0q0_x.symm,ne_0q2_x.symm,ne_1q3_x.symm,Qy wz eb_x,List.getD_cons_zero,Nat.zero_add,hmvl];refine qN (V:= .int .i64 (qaW (fun q:MemQ=>decide (q.1.name=nm)) qs)) (by rfl) (by rfl) (c_indexM wz _ mv qs _ [.ptr (.own k1q3) 0] (fun q=>decide (q.1.name=nm)) (hq2.mono zqB) hql (by omega) (by rfl) (fun q hq=>c_mem2 wz _ q (hql q hq) (hq3 q hq).cells k1q3 nm zqA)) ?_;simp+decide only[qa,ev,putD,Slots.put,Slots.get,Slots.keep,if_true,if_false,true_and,↓qd,qb];apply hK;clear hK K;refine awp_rseq [0,3,5,6,7,8] (by rfl) fun K hK=>?_;simp+decide only[ev,qH,qF,putD,Slots.put,Slots.get,if_true,if_false,true_and,↓qh,qc,↓Qk,qM,Qn,↓qC,qm,fa76_3,↓qG,qY,qy ag3,↓qA,ql,qB,cond_false,qo,QY,QO,ne_eq,not_false_eq_true,ne_0q0_x.symm,ne_0q2_x.symm,ne_1q3_x.symm,Qy wz eb_x,List.getD_cons_zero,List.getD_cons_succ,Nat.zero_add,qi];try simp(disch:=omega)only[wrap_i64]
 refine qp (by rfl) (by rfl) zqA sz3 (by rfl) (by rfl) zqD (Nat.zero_le _) (by first|rfl|(simp+decide only[ev,putD,Slots.put,Slots.get,if_true,if_false,AVal.cells,QC,Bool.and_true,Bool.true_and,hmvs,hrvs,XY,Ze,XJ])) ?_;simp only[AVal.cells];simp+decide only[qa,ev,putD,Slots.get,Slots.keep,if_true,if_false,setAt,List.set_cons_zero,List.set_cons_succ];apply hK;clear hK K;refine qK ?_;refine Ql ?_;obtain⟨H5,hH5⟩:∃H5,H5=(((H.set k0q0 ⟨[.int .u8 s.name.kind.toNat, .str nm, .int .i64 s.name.line, .int .i64 s.name.col, .bool s.name.left,rv],0⟩).set k0q2 ⟨[.int .i64 0, .int .i64 0, .int .i64 0],0⟩).set k1q3 ⟨[.str nm],0⟩).set kx ⟨[mv, .map km,QA 1 nb, .int .i64 ((st.copies+1:Nat):Int)],0⟩:=⟨_,rfl⟩
 refine Awp.forget (h':=H5) (by rw[hH5];exact Sub.refl _) ?_;have hs_H5:Sub B H5:=by rw[hH5];exact Zz zqB he.bx _
 have eb_x:H5 kx=some ⟨[mv, .map km,QA 1 nb, .int .i64 ((st.copies+1:Nat):Int)],0⟩:=by rw[hH5];exact AHeap.set_same _ _ _
 have eb_m:H5 km=some (XH c (es.map opC)):=by rw[hH5];exact zqA
 have eb_0q0:H5 k0q0=some ⟨[.int .u8 s.name.kind.toNat, .str nm, .int .i64 s.name.line, .int .i64 s.name.col, .bool s.name.left,rv],0⟩:=by rw[hH5];exact zqA
 have eb_0q2:H5 k0q2=some ⟨[.int .i64 0, .int .i64 0, .int .i64 0],0⟩:=by rw[hH5];exact zqA
 have eb_1q3:H5 k1q3=some ⟨[.str nm],0⟩:=by rw[hH5];exact zqA
 have hE5:Sub (ZN B kx km mv c es nb (st.copies+1)) H5:=by
  rw[hH5,<-he.set_x (st.copies+1),<-hH];exact Sub.set_both (Sub.trans_set (Sub.trans_set (Sub.set hn_0q0) hn_0q2) hn_1q3) _ _
 have hz5:ZN B kx km mv c es nb (st.copies+1) k0q2=none:=by
  rw[<-he.set_x (cp:=st.copies) (st.copies+1),<-hH];exact(AHeap.set_ne _ _ ne_0q2_x).trans hn_0q2
 have hlk:=look_op (s:=nm) eb_m;rw[hes]at hlk;have hlo:=len_op eb_m;rw[hes']at hlo;refine awp_rseq [0,3,5,6,7,8,30] (by rfl) fun K hK=>?_;simp+decide only[qa,ev,qH,qF,putD,Slots.put,Slots.get,Slots.keep,if_true,if_false,true_and,↓qh,qc,↓qA,ql,qB,cond_false,qo,XP,↓qd,qb];apply hK;clear hK K;refine qJ (b:=_) rfl (fun hb1=>?_) (fun hb1=>?_)
 ·try simp only[decide_eq_true_eq]at hb1
  have hnone:mems.find? (fun m=>decide (m.name=nm))=none:=by
   rcases find_name hqs nm with z|⟨i,zi,z1,z2⟩
   ·exact z.2
   ·omega
  rw[hnone]at hX;simp only at hX;refine awp_rseq [4,5] (by rfl) fun K hK=>?_;simp+decide only[ev,putD,Slots.put,Slots.get,if_true,if_false,true_and,↓qh,qc];refine qN (V:= .tuple [.nilSlice,Qz ⟨7,s.name.line,s.name.col⟩]) (by rfl) (by rfl) (c_mem1 wz _ k0q0 s.name rv hrvl 7 (by rw[hsc];exact zqA)) ?_;simp+decide only[ev,putD,Slots.put,Slots.get,if_true,if_false,true_and,↓QW,QH,QS,List.length_cons,List.length_nil,List.getD_cons_zero,List.getD_cons_succ,↓qd,qb,List.getD_cons_zero,List.getD_cons_succ,Nat.zero_add,Nat.reduceAdd,Qz];refine qp (by rfl) (by rfl) zqA QI (by rfl) (by rfl) zqD (Nat.zero_le _) (by first|rfl|(simp+decide only[ev,putD,Slots.put,Slots.get,if_true,if_false,AVal.cells,QC,Bool.and_true,Bool.true_and,hmvs,hrvs,XY,Ze,XJ])) ?_;simp only[AVal.cells];simp+decide only[qa,ev,putD,Slots.get,Slots.keep,if_true,if_false,setAt,List.set_cons_zero,List.set_cons_succ,Nat.zero_add,Nat.reduceAdd];apply hK;clear hK K;refine qO ?_;try simp only[Qi,Qw]
  refine QR (?_) ?_
  ·simp+decide only[QE,qw,qj,Slots.get,if_true,if_false,and_true,qw,qj,qg Xt QI,Qc,qf,List.getD_cons_zero,List.getD_cons_succ,Nat.zero_add,Nat.reduceAdd,qi,allLive,Bool.and_true,qf,List.getD_cons_zero,List.getD_cons_succ,Nat.zero_add,Nat.reduceAdd,qi,allLive,Bool.and_true]
  simp+decide only[Slots.get,if_true,if_false,Xj,qw,qj,qg Xt QI,Qc,qf,List.getD_cons_zero,List.getD_cons_succ,Nat.zero_add,Nat.reduceAdd,qi,allLive,Bool.and_true,qf,List.getD_cons_zero,List.getD_cons_succ,Nat.zero_add,Nat.reduceAdd,qi,allLive,Bool.and_true];exact⟨_,Sub.refl _,none,⟨st.names,st.copies+1⟩, .nilSlice,⟨7,s.name.line,s.name.col⟩,trivial,⟨hfew,c,es,nb,he,hes,Sub.trans_set hE5 hz5⟩,rfl, .inl ⟨fun e=>absurd (congrArg FaultC.e e) (by simp[okF]),hX,rfl⟩⟩
 ·try simp only[decide_eq_false_iff_not]at hb1
  obtain⟨i,zi,z1,z2⟩:∃i,i<qs.length/\qaW (fun q:MemQ=>decide (q.1.name=nm)) qs=i/\mems.find? (fun m=>decide (m.name=nm))=some (qs.getD i badM).1:=by
   rcases find_name hqs nm with z|z
   ·omega
   ·exact z
  rw[z1];rw[z2]at hX;simp only at hX;obtain⟨q,hqe⟩:∃q,q=qs.getD i badM:=⟨_,rfl⟩
  have hqm:q∈qs:=by rw[hqe];exact qaO badM zi
  rw[<-hqe]at hX;have hqt:q.1.toks.length<=100000:=hmt _ (by rw[hqs];exact List.mem_map.2 ⟨q,hqm,rfl⟩);refine Zn [0,3,5,6,7,8,37] mixed (by kernel_rfl) (by rfl) (by rfl) fun K hK=>?_;simp+decide only[qa,ev,putD,Slots.put,Slots.get,Slots.keep,if_true,if_false,true_and,↓qh,qc,↓Qk,qM,Qn,↓qC,qm,fa76_1,↓qG,qY,qy ag74,qy ag9,↓ap_lookup,pop_lookup,↓qd,qb,Qy wz eb_x,Qy wz eb_1q3,lv_map,List.getD_cons_zero,List.getD_cons_succ,Nat.zero_add,qE,hlk];apply hK;clear hK K;refine qJ (b:=_) rfl (fun hb2=>?_) (fun hb2=>?_)
  ·skip
   rw[if_pos hb2]at hX;refine awp_rseq [4,5] (by rfl) fun K hK=>?_;simp+decide only[ev,putD,Slots.put,Slots.get,if_true,if_false,true_and,↓qh,qc];refine qN (V:= .tuple [.nilSlice,Qz ⟨10,s.name.line,s.name.col⟩]) (by rfl) (by rfl) (c_mem1 wz _ k0q0 s.name rv hrvl 10 (by rw[hsc];exact zqA)) ?_;simp+decide only[ev,putD,Slots.put,Slots.get,if_true,if_false,true_and,↓QW,QH,QS,List.length_cons,List.length_nil,List.getD_cons_zero,List.getD_cons_succ,↓qd,qb,List.getD_cons_zero,List.getD_cons_succ,Nat.zero_add,Nat.reduceAdd,Qz];refine qp (by rfl) (by rfl) zqA QI (by rfl) (by rfl) zqD (Nat.zero_le _) (by first|rfl|(simp+decide only[ev,putD,Slots.put,Slots.get,if_true,if_false,AVal.cells,QC,Bool.and_true,Bool.true_and,hmvs,hrvs,XY,Ze,XJ])) ?_;simp only[AVal.cells];simp+decide only[qa,ev,putD,Slots.get,Slots.keep,if_true,if_false,setAt,List.set_cons_zero,List.set_cons_succ,Nat.zero_add,Nat.reduceAdd];apply hK;clear hK K;refine qO ?_;try simp only[Qi,Qw]
   refine QR (?_) ?_
   ·simp+decide only[QE,qw,qj,Slots.get,if_true,if_false,and_true,qw,qj,qg Xt QI,Qc,qf,List.getD_cons_zero,List.getD_cons_succ,Nat.zero_add,Nat.reduceAdd,qi,allLive,Bool.and_true,qf,List.getD_cons_zero,List.getD_cons_succ,Nat.zero_add,Nat.reduceAdd,qi,allLive,Bool.and_true]
   simp+decide only[Slots.get,if_true,if_false,Xj,qw,qj,qg Xt QI,Qc,qf,List.getD_cons_zero,List.getD_cons_succ,Nat.zero_add,Nat.reduceAdd,qi,allLive,Bool.and_true,qf,List.getD_cons_zero,List.getD_cons_succ,Nat.zero_add,Nat.reduceAdd,qi,allLive,Bool.and_true];exact⟨_,Sub.refl _,none,⟨st.names,st.copies+1⟩, .nilSlice,⟨10,s.name.line,s.name.col⟩,trivial,⟨hfew,c,es,nb,he,hes,Sub.trans_set hE5 hz5⟩,rfl, .inl ⟨fun e=>absurd (congrArg FaultC.e e) (by simp[okF]),hX,rfl⟩⟩
  ·skip
   rw[if_neg (by rw[hb2];decide)]at hX;refine awp_rseq [0,3,5,6,7,8,48] (by rfl) fun K hK=>?_;simp+decide only[qa,ev,qH,qF,putD,Slots.put,Slots.get,Slots.keep,if_true,if_false,true_and,↓qh,qc,↓Qk,qM,Qn,↓qC,qm,fa76_1,↓qG,qY,qy ag74,↓Xo,QD,↓qA,ql,qB,cond_false,qo,qaC,↓Xf,agP,Qs,qL,qI,Qf,implies_true,↓ZY,qaY,qaZ,↓XC,fa76_3,Zl,Zm,↓Zr,Za,WS,qdy,qy ag3,↓Xb,Zc,Zd,UV,↓QT,Qu,Qh,Zh,ZK,↓qd,qb,Qy wz eb_x,lv_map,List.getD_cons_zero,List.getD_cons_succ,Nat.zero_add,qi,hlo];apply hK;clear hK K;refine qJ (b:=_) rfl (fun hb3=>?_) (fun hb3=>?_)
   ·try simp only[decide_eq_true_eq,Bool.or_eq_true]at hb3
    rw[if_pos (by
     rcases hb3 with z|z
     ·left;omega
     ·right;exact⟨trivial,by omega⟩)]at hX
    refine awp_rseq [4,5] (by rfl) fun K hK=>?_;simp+decide only[ev,putD,Slots.put,Slots.get,if_true,if_false,true_and,↓qh,qc];refine qN (V:= .tuple [.nilSlice,Qz ⟨3,s.name.line,s.name.col⟩]) (by rfl) (by rfl) (c_mem1 wz _ k0q0 s.name rv hrvl 3 (by rw[hsc];exact zqA)) ?_;simp+decide only[ev,putD,Slots.put,Slots.get,if_true,if_false,true_and,↓QW,QH,QS,List.length_cons,List.length_nil,List.getD_cons_zero,List.getD_cons_succ,↓qd,qb,List.getD_cons_zero,List.getD_cons_succ,Nat.zero_add,Nat.reduceAdd,Qz];refine qp (by rfl) (by rfl) zqA QI (by rfl) (by rfl) zqD (Nat.zero_le _) (by first|rfl|(simp+decide only[ev,putD,Slots.put,Slots.get,if_true,if_false,AVal.cells,QC,Bool.and_true,Bool.true_and,hmvs,hrvs,XY,Ze,XJ])) ?_;simp only[AVal.cells];simp+decide only[qa,ev,putD,Slots.get,Slots.keep,if_true,if_false,setAt,List.set_cons_zero,List.set_cons_succ,Nat.zero_add,Nat.reduceAdd];apply hK;clear hK K;refine qO ?_;try simp only[Qi,Qw]
    refine QR (?_) ?_
    ·simp+decide only[QE,qw,qj,Slots.get,if_true,if_false,and_true,qw,qj,qg Xt QI,Qc,qf,List.getD_cons_zero,List.getD_cons_succ,Nat.zero_add,Nat.reduceAdd,qi,allLive,Bool.and_true,qf,List.getD_cons_zero,List.getD_cons_succ,Nat.zero_add,Nat.reduceAdd,qi,allLive,Bool.and_true]
    simp+decide only[Slots.get,if_true,if_false,Xj,qw,qj,qg Xt QI,Qc,qf,List.getD_cons_zero,List.getD_cons_succ,Nat.zero_add,Nat.reduceAdd,qi,allLive,Bool.and_true,qf,List.getD_cons_zero,List.getD_cons_succ,Nat.zero_add,Nat.reduceAdd,qi,allLive,Bool.and_true];exact⟨_,Sub.refl _,none,⟨st.names,st.copies+1⟩, .nilSlice,⟨3,s.name.line,s.name.col⟩,trivial,⟨hfew,c,es,nb,he,hes,Sub.trans_set hE5 hz5⟩,rfl, .inl ⟨fun e=>absurd (congrArg FaultC.e e) (by simp[okF]),hX,rfl⟩⟩
   ·try simp only[decide_eq_false_iff_not,Bool.or_eq_false_iff]at hb3
    rw[if_neg (by
     rintro(z|⟨-,z⟩)
     ·omega
     ·omega)]at hX
    have hlt8:op.length<8:=by omega
    have hcp:st.copies+1<=4096:=by omega
    have hnot:nm∉es.map (·.2):=by rw[hes];intro z;rw[List.contains_iff_mem.2 z]at hb2;cases hb2
    refine qP ?_;change Awp _ _ _ _ _ _ _;obtain⟨B1,hB1⟩:∃B1,B1=((B.set k0q0 ⟨[.int .u8 s.name.kind.toNat, .str nm, .int .i64 s.name.line, .int .i64 s.name.col, .bool s.name.left,rv],0⟩).set k0q2 ⟨[.int .i64 0, .int .i64 0, .int .i64 0],0⟩).set k1q3 ⟨[.str nm],0⟩:=⟨_,rfl⟩
    obtain⟨y1,y2⟩:=he.lay (mv:=mv) (c:=c) (es:=es) (cp:=st.copies) (j:=k0q0) (by rw[<-hH];exact hn_0q0) ⟨[.int .u8 s.name.kind.toNat, .str nm, .int .i64 s.name.line, .int .i64 s.name.col, .bool s.name.left,rv],0⟩;obtain⟨y3,y4⟩:=y2.lay (mv:=mv) (c:=c) (es:=es) (cp:=st.copies) (j:=k0q2) (by rw[<-y1,<-hH];exact(AHeap.set_ne _ _ ne_0q2_0q0).trans hn_0q2) ⟨[.int .i64 0, .int .i64 0, .int .i64 0],0⟩;obtain⟨y5,y6⟩:=y4.lay (mv:=mv) (c:=c) (es:=es) (cp:=st.copies) (j:=k1q3) (by rw[<-y3,<-y1,<-hH];exact(AHeap.set_ne _ _ ne_1q3_0q2).trans ((AHeap.set_ne _ _ ne_1q3_0q0).trans hn_1q3)) ⟨[.str nm],0⟩;rw[<-hB1]at y5 y6;have h5:H5=ZN B1 kx km mv c es nb (st.copies+1):=by rw[hH5,hH,y1,y3,y5,y6.set_x]
    have hsB1:Sub B B1:=by rw[hB1];exact zqB
    have b1_0:B1 k0q0=some ⟨[.int .u8 s.name.kind.toNat, .str nm, .int .i64 s.name.line, .int .i64 s.name.col, .bool s.name.left,rv],0⟩:=by rw[hB1];exact zqA
    have b1_2:B1 k0q2=some ⟨[.int .i64 0, .int .i64 0, .int .i64 0],0⟩:=by rw[hB1];exact zqA
    have b1_n:B1 k1q3=some ⟨[.str nm],0⟩:=by rw[hB1];exact zqA
    have hcu:ACall Tryz.prog wz 44 [.ptr (.own kx) 0, .str nm] H5 (fun r h'=>r= .tuple []/\∃nb',UseOk (B1.set km (XH c (es.map opC))) kx nb' (Cop.addE st.names nm)/\h'=qbe (B1.set km (XH c (es.map opC))) kx mv (.map km) nb' ((st.copies+1:Nat):Int)):=by
     rw[h5];exact c_use wz _ kx mv (.map km) nb _ st.names nm (y6.use _) (by omega) hmvs rfl
    refine awp_rseq [0,3,5,6,7,8] (by rfl) fun K hK=>?_;simp+decide only[ev,putD,Slots.put,Slots.get,if_true,if_false,true_and,↓qh,qc,↓qG,qY,qy ag9,Qy wz eb_1q3,List.getD_cons_zero,qE];refine QN (by rfl) (by rfl) (hcu) fun x11q2 h11q2 hx11q2=>?_;obtain⟨-,nb2,hu2,hh11⟩:=hx11q2;have he2:ExOk B1 kx km nb2 (Cop.addE st.names nm):=⟨y6.bm,y6.bx,y6.ne,fun M=>hu2.swap y6.ne M⟩
    have hh:h11q2=ZN B1 kx km mv c es nb2 (st.copies+1):=hh11;have hs_h11q2:Sub B h11q2:=by rw[hh];exact hsB1.trans he2.above
    have eb_x:h11q2 kx=some ⟨[mv, .map km,QA 1 nb2, .int .i64 ((st.copies+1:Nat):Int)],0⟩:=by rw[hh];exact he2.x
    have eb_m:h11q2 km=some (XH c (es.map opC)):=by rw[hh];exact he2.m
    have eb_0q0:h11q2 k0q0=some ⟨[.int .u8 s.name.kind.toNat, .str nm, .int .i64 s.name.line, .int .i64 s.name.col, .bool s.name.left,rv],0⟩:=by rw[hh];exact he2.above _ _ b1_0
    have eb_0q2:h11q2 k0q2=some ⟨[.int .i64 0, .int .i64 0, .int .i64 0],0⟩:=by rw[hh];exact he2.above _ _ b1_2
    have eb_1q3:h11q2 k1q3=some ⟨[.str nm],0⟩:=by rw[hh];exact he2.above _ _ b1_n
    have hbl:=QV 1 nb2;simp+decide only[qa,putD,Slots.put,Slots.keep,if_true,if_false];apply hK;clear hK K;refine Zk 5 [0,3,5,6,7,8] mixed (by kernel_rfl) (by rfl) (by rfl) fun K hK=>?_;simp+decide only[ev,putD,Slots.put,Slots.get,if_true,if_false,true_and,↓qh,qc,↓Qk,qM,Qn,↓qC,qm,fa76_1,↓qG,qY,qy ag74,qy ag9,Qy wz eb_x,Qy wz eb_1q3,lv_map,List.getD_cons_zero,List.getD_cons_succ,Nat.zero_add,qE];refine aOps_putNew Tryz.underlying74 (by rfl) eb_m (by rfl) (mFind_op _ es 0 hnot) ?_;simp+decide only[qa,ev,qH,qF,putD,Slots.get,Slots.keep,if_true,if_false];apply hK;clear hK K;obtain⟨H13,hH13⟩:∃H13,H13=ZN B1 kx km mv (c+1) (es++[(c,nm)]) nb2 (st.copies+1):=⟨_,rfl⟩
    refine Awp.forget (h':=H13) (by rw[hH13,<-he2.set_m (c:=c) (es:=es),<-hh,List.map_append];exact Sub.refl _) ?_;have hs_H13:Sub B H13:=by rw[hH13];exact hsB1.trans he2.above
    have eb_x:H13 kx=some ⟨[mv, .map km,QA 1 nb2, .int .i64 ((st.copies+1:Nat):Int)],0⟩:=by rw[hH13];exact he2.x
    have eb_m:H13 km=some (XH (c+1) ((es++[(c,nm)]).map opC)):=by rw[hH13];exact he2.m
    have eb_0q0:H13 k0q0=some ⟨[.int .u8 s.name.kind.toNat, .str nm, .int .i64 s.name.line, .int .i64 s.name.col, .bool s.name.left,rv],0⟩:=by rw[hH13];exact he2.above _ _ b1_0
    have eb_0q2:H13 k0q2=some ⟨[.int .i64 0, .int .i64 0, .int .i64 0],0⟩:=by rw[hH13];exact he2.above _ _ b1_2
    have eb_1q3:H13 k1q3=some ⟨[.str nm],0⟩:=by rw[hH13];exact he2.above _ _ b1_n
    obtain⟨lcm,om,cm,rfl⟩:=mem_open hq2 (by omega);obtain⟨-,d1⟩:=mem_at (hq2.mono hs_H13) zi;rw[<-hqe]at d1;have hqv:=hql q hqm;have hal:=addE_len st.names nm;refine awp_put_deleteE [0,3,5,7,8] (vm:= .map km) (vi:= .str nm) 5 (by rfl) (by rfl) rfl mixed (by kernel_rfl) (by rfl) fun K hK=>?_;simp only[List.take_succ_cons,List.take_zero];simp+decide only[qa,ev,putD,Slots.put,Slots.get,Slots.keep,if_true,if_false,true_and,↓qh,qc,↓Qk,qM,Qn,↓qC,qm,fa76_1,↓qG,qY,qy ag74,qy ag9,Qy wz eb_x,Qy wz eb_1q3,lv_map,List.getD_cons_zero,List.getD_cons_succ,Nat.zero_add,qE];skip;apply hK;clear hK K;intro dq;refine awp_rseq [3,5,7,9,10] (by rfl) fun K hK=>?_;simp+decide only[ev,putD,Slots.put,Slots.get,if_true,if_false,true_and,↓qh,qc,↓Qk,qM,Qn,↓qC,qm,fa76_0,↓qG,qY,qy ag28,↓QB,Qb Tryz.underlying28 sz57,fa57_1,qy UJ,Qy wz eb_x,List.getD_cons_zero,Nat.zero_add,hmvl,d1,hqv,Int.toNat_natCast];repeat (with_reducible refine And.intro ?_ ?_;· first|trivial|omega|(intro hg;simp only[Bool.and_eq_true,Bool.or_eq_true,Bool.not_eq_true',Bool.and_eq_false_iff,Bool.or_eq_false_iff,Bool.not_eq_false',decide_eq_true_eq,decide_eq_false_iff_not,XV]at hg;omega))
    refine QN (by rfl) (by rfl) (hrec hlt8 (by rw[List.length_append,List.length_singleton];omega) _ B1 q.2 q.1.toks ⟨Cop.addE st.names nm,st.copies+1⟩ ⟨by(simp only;omega),c+1,es++[(c,nm)],nb2,he2,by rw[List.map_append,hes];rfl,by rw[<-hH13];exact zqB⟩ ⟨qs,hqs,hq2.mono hsB1,fun q hq=>(hq3 q hq).mono hsB1⟩ ((hq3 q hqm).mono hsB1) hqt (by simp only;omega) hcp) fun x14q9 h14q9 hx14q9=>?_;obtain⟨tb0,st2,bv,bf,htb0,hxr,rfl,hcase⟩:=hx14q9;obtain⟨B2,hB2⟩:∃B2,B2=QG B1 tb0:=⟨_,rfl⟩
    rw[<-hB2]at hxr;obtain⟨hfew2,c3,es3,nb3,he3,hop3,hs3⟩:=hxr;have hsB2:Sub B1 B2:=by rw[hB2];exact Sub.buf htb0
    obtain⟨es4,b4,rfl,hes4⟩:∃es4 b4,es3=es4++[(b4,nm)]/\es4.map (·.2)=op:=by
     obtain⟨l1,l2,q1,q2,q3⟩:=List.map_eq_append_iff.1 hop3;cases l2 with
     |nil=>simp at q3
     |cons a l3=>
      obtain⟨a1,a2⟩:=a;simp only[List.map_cons,List.cons.injEq,List.map_eq_nil_iff]at q3;obtain⟨rfl,rfl⟩:=q3;exact⟨l1,a1,q1,q2⟩
    have hnot4:nm∉es4.map (·.2):=by rw[hes4,<-hes];exact hnot
    have hsBB2:Sub B B2:=hsB1.trans hsB2;have hs2h:Sub B2 h14q9:=he3.above.trans hs3;have hs_h14q9:Sub B h14q9:=hsBB2.trans hs2h;have eb_x:h14q9 kx=some ⟨[.slice lcm om qs.length cm, .map km,QA 1 nb3, .int .i64 st2.copies],0⟩:=hs3 _ _ he3.x;have eb_m:h14q9 km=some (XH c3 ((es4++[(b4,nm)]).map opC)):=hs3 _ _ he3.m;have eb_0q0:h14q9 k0q0=some ⟨[.int .u8 s.name.kind.toNat, .str nm, .int .i64 s.name.line, .int .i64 s.name.col, .bool s.name.left,rv],0⟩:=hs2h _ _ (hsB2 _ _ b1_0);have eb_0q2:h14q9 k0q2=some ⟨[.int .i64 0, .int .i64 0, .int .i64 0],0⟩:=hs2h _ _ (hsB2 _ _ b1_2);have eb_1q3:h14q9 k1q3=some ⟨[.str nm],0⟩:=hs2h _ _ (hsB2 _ _ b1_n);have heB3:ExOk B kx km nb3 st2.names:=he3.down hsBB2;have hE14:Sub (ZN B kx km (.slice lcm om qs.length cm) c3 (es4++[(b4,nm)]) nb3 st2.copies) h14q9:=(qcL hsBB2).trans hs3;have z0q2:ZN B kx km (.slice lcm om qs.length cm) c3 (es4++[(b4,nm)]) nb3 st2.copies k0q2=none:=he3.off (hsB2 _ _ b1_2) hf_0q2;have hbvl:bv.live=true:=by
     rcases hcase with⟨-,-,w3⟩|⟨-,out,-,w3,-⟩
     ·rw[w3];rfl
     ·exact w3.live
    simp+decide only[ev,putD,Slots.put,Slots.get,if_true,if_false,true_and,↓qh,qc,↓QW,QH,QS,List.length_cons,List.length_nil,List.getD_cons_zero,List.getD_cons_succ,List.getD_cons_zero,List.getD_cons_succ,Nat.zero_add,Nat.reduceAdd,Qz];refine Qj qbc (cs:=[.int .i64 0, .int .i64 0, .int .i64 0]) (by rfl) fun k14q13 hk14q13=>?_;have hn_14q13:h14q9 k14q13=none:=by first|assumption|(simp only[AHeap.set_none]at hk14q13;simp only[hk14q13])
    have hf_14q13:B k14q13=none:=Sub.none hs_h14q9 hn_14q13;have ne_14q13_x:k14q13≠kx:=AHeap.ne_some hn_14q13 eb_x;have ne_14q13_m:k14q13≠km:=AHeap.ne_some hn_14q13 eb_m;have ne_14q13_0q0:k14q13≠k0q0:=AHeap.ne_some hn_14q13 eb_0q0;have ne_14q13_0q2:k14q13≠k0q2:=AHeap.ne_some hn_14q13 eb_0q2;have ne_14q13_1q3:k14q13≠k1q3:=AHeap.ne_some hn_14q13 eb_1q3;simp+decide only[ev,putD,Slots.put,Slots.get,if_true,if_false,true_and,↓qd,qb];refine qp (by rfl) (by rfl) zqA QI (by rfl) (by rfl) zqD (Nat.zero_le _) (by first|rfl|(simp+decide only[ev,putD,Slots.put,Slots.get,if_true,if_false,AVal.cells,QC,Bool.and_true,Bool.true_and,hmvs,hrvs,XY,Ze,XJ])) ?_;simp only[AHeap.set_set,AVal.cells];simp+decide only[qa,ev,putD,Slots.get,Slots.keep,if_true,if_false,setAt,List.set_cons_zero,List.set_cons_succ,Nat.zero_add,Nat.reduceAdd];apply hK;clear hK K;refine qK ?_;refine awp_rseq [3,5,7,9,10,94] (by rfl) fun K hK=>?_;simp+decide only[qa,ev,qH,qF,putD,Slots.put,Slots.get,Slots.keep,if_true,if_false,true_and,↓qG,qY,qg Xt QI,↓Qp,↓qW,ZJ,evP,List.map_nil,↓qA,ql,qR,cond_false,Yc,ne35,QP,qf,List.getD_cons_zero,List.getD_cons_succ,Nat.zero_add,Nat.reduceAdd,qi,allLive,Bool.and_true,WB];apply hK;clear hK K;refine qJ (b:=_) rfl (fun hb4=>?_) (fun hb4=>?_)
    ·try simp only[decide_eq_false_iff_not,Bool.not_eq_true']at hb4
     obtain⟨w1,w2,w3⟩:bf≠okF/\rec q.1.toks (op++[nm]) ⟨Cop.addE st.names nm,st.copies+1⟩= .bad bf/\bv= .nilSlice:=by
      rcases hcase with z|⟨z,-⟩
      ·exact z
      ·exact absurd z hb4
     rw[w2]at hX;simp only at hX;refine Zk 2 [4,5] mixed (by kernel_rfl) (by rfl) (by rfl) fun K hK=>?_;simp+decide only[ev,qH,qF,putD,Slots.put,Slots.get,if_true,if_false,true_and,↓qG,qY,qg Xt QI,↓qd,qb,QP,qf,List.getD_cons_zero,List.getD_cons_succ,Nat.zero_add,Nat.reduceAdd,qi,allLive,Bool.and_true];refine qp (by rfl) (by rfl) zqA QI (by rfl) (by rfl) zqD (Nat.zero_le _) (by first|rfl|(simp+decide only[ev,putD,Slots.put,Slots.get,if_true,if_false,AVal.cells,QC,Bool.and_true,Bool.true_and,hmvs,hrvs,XY,Ze,XJ])) ?_;simp only[AVal.cells];simp+decide only[qa,ev,putD,Slots.get,Slots.keep,if_true,if_false,setAt,List.set_cons_zero,List.set_cons_succ,Nat.zero_add,Nat.reduceAdd];apply hK;clear hK K;refine qO ?_;try simp only[Qi]
     refine retD_del (by rfl) Tryz.underlying74 zqA (by rfl) (qbP _ b4 es4 0 hnot4) ?_;refine QR (?_) ?_
     ·simp+decide only[QE,qw,qj,Slots.get,if_true,if_false,and_true,qw,qj,qg Xt QI,Qc,qf,List.getD_cons_zero,List.getD_cons_succ,Nat.zero_add,Nat.reduceAdd,qi,allLive,Bool.and_true,QO,ne_eq,not_false_eq_true,ne_0q2_m,qf,List.getD_cons_zero,List.getD_cons_succ,Nat.zero_add,Nat.reduceAdd,qi,allLive,Bool.and_true]
     simp+decide only[Slots.get,if_true,if_false,Xj,qw,qj,qg Xt QI,Qc,qf,List.getD_cons_zero,List.getD_cons_succ,Nat.zero_add,Nat.reduceAdd,qi,allLive,Bool.and_true,QO,ne_eq,not_false_eq_true,ne_0q2_m,qf,List.getD_cons_zero,List.getD_cons_succ,Nat.zero_add,Nat.reduceAdd,qi,allLive,Bool.and_true];rw[qds];refine⟨_,Sub.refl _,none,st2, .nilSlice,bf,trivial,⟨hfew2,c3,es4,nb3,heB3,hes4,?_⟩,rfl, .inl ⟨w1,hX,rfl⟩⟩;change Sub (ZN B _ _ _ _ _ _ _) _;rw[<-heB3.set_m (c:=c3) (es:=es4++[(b4,nm)])];exact Sub.set_both (Sub.trans_set (Sub.trans_set hE14 (hE14.none hn_14q13)) z0q2) _ _
    ·try simp only[decide_eq_true_eq,Bool.not_eq_false']at hb4
     obtain⟨w1,out,w2,w3,w4,w5,w6⟩:bf=okF/\∃out,rec q.1.toks (op++[nm]) ⟨Cop.addE st.names nm,st.copies+1⟩= .ok out st2/\IsL wz (QG (fun _=>none) tb0) 5 bv (out.map QK)/\out.length<=200000/\st2.names.length<=st2.copies/\st2.copies<=4096:=by
      rcases hcase with⟨z,-⟩|z
      ·exact absurd (by simpa using hb4) z
      ·exact z
     have w3:IsL wz B2 5 bv (out.map QK):=w3.mono (by rw[hB2];exact Sub.bufBoth (qdK _));rw[w2]at hX;simp only[qcY,Bool.true_and,decide_eq_true_eq]at hX;have nbv:=Zp w3;refine qP ?_;change Awp _ _ _ _ _ _ _;refine qK ?_;refine awp_rseq [3,5,7,9,98] (by rfl) fun K hK=>?_;simp+decide only[qa,ev,qH,qF,putD,Slots.put,Slots.get,Slots.keep,if_true,if_false,true_and,↓qh,qc,↓Xo,QD,↓qA,ql,qB,cond_false,qo,UV,nbv];apply hK;clear hK K;refine qJ (b:=_) rfl (fun hb5=>?_) (fun hb5=>?_)
     ·try simp only[decide_eq_true_eq]at hb5
      rw[if_pos (by omega)]at hX;refine awp_rseq [4,5] (by rfl) fun K hK=>?_;simp+decide only[ev,putD,Slots.put,Slots.get,if_true,if_false,true_and,↓qh,qc];refine qN (V:= .tuple [.nilSlice,Qz ⟨3,s.name.line,s.name.col⟩]) (by rfl) (by rfl) (c_mem1 wz _ k0q0 s.name rv hrvl 3 (by rw[hsc];exact zqA)) ?_;simp+decide only[ev,putD,Slots.put,Slots.get,if_true,if_false,true_and,↓QW,QH,QS,List.length_cons,List.length_nil,List.getD_cons_zero,List.getD_cons_succ,↓qd,qb,List.getD_cons_zero,List.getD_cons_succ,Nat.zero_add,Nat.reduceAdd,Qz];refine qp (by rfl) (by rfl) zqA QI (by rfl) (by rfl) zqD (Nat.zero_le _) (by first|rfl|(simp+decide only[ev,putD,Slots.put,Slots.get,if_true,if_false,AVal.cells,QC,Bool.and_true,Bool.true_and,hmvs,hrvs,XY,Ze,XJ])) ?_;simp only[AVal.cells];simp+decide only[qa,ev,putD,Slots.get,Slots.keep,if_true,if_false,setAt,List.set_cons_zero,List.set_cons_succ,Nat.zero_add,Nat.reduceAdd];apply hK;clear hK K;refine qO ?_;try simp only[Qi]
      refine retD_del (by rfl) Tryz.underlying74 zqA (by rfl) (qbP _ b4 es4 0 hnot4) ?_;refine QR (?_) ?_
      ·simp+decide only[QE,qw,qj,Slots.get,if_true,if_false,and_true,qw,qj,qg Xt QI,Qc,qf,List.getD_cons_zero,List.getD_cons_succ,Nat.zero_add,Nat.reduceAdd,qi,allLive,Bool.and_true,QO,ne_eq,not_false_eq_true,ne_0q2_m,qf,List.getD_cons_zero,List.getD_cons_succ,Nat.zero_add,Nat.reduceAdd,qi,allLive,Bool.and_true]
      simp+decide only[Slots.get,if_true,if_false,Xj,qw,qj,qg Xt QI,Qc,qf,List.getD_cons_zero,List.getD_cons_succ,Nat.zero_add,Nat.reduceAdd,qi,allLive,Bool.and_true,QO,ne_eq,not_false_eq_true,ne_0q2_m,qf,List.getD_cons_zero,List.getD_cons_succ,Nat.zero_add,Nat.reduceAdd,qi,allLive,Bool.and_true];rw[qds];refine⟨_,Sub.refl _,none,st2, .nilSlice,⟨3,s.name.line,s.name.col⟩,trivial,⟨hfew2,c3,es4,nb3,heB3,hes4,?_⟩,rfl, .inl ⟨fun e=>absurd (congrArg FaultC.e e) (by simp[okF]),hX,rfl⟩⟩;change Sub (ZN B _ _ _ _ _ _ _) _;rw[<-heB3.set_m (c:=c3) (es:=es4++[(b4,nm)])];exact Sub.set_both (Sub.trans_set (Sub.trans_set hE14 (hE14.none hn_14q13)) z0q2) _ _
     ·try simp only[decide_eq_false_iff_not]at hb5
      rw[if_neg (by omega)]at hX;have z14:B2 k14q13=none:=hs2h.none hn_14q13;have hrE:qcC out s.reps=if 65536<(qbG s.reps out).length then([],3)else(qbG s.reps out,0):=by
       unfold qcC;rw[if_neg];rw[List.any_eq_true];rintro⟨x,hx,e⟩;exact hro x hx (by simpa using e)
      obtain⟨E,hE⟩:∃E,E=qcC out s.reps:=⟨_,rfl⟩
      refine qP ?_;change Awp _ _ _ _ _ _ _;refine awp_rseq [5,7,11,12] (by rfl) fun K hK=>?_;simp+decide only[ev,putD,Slots.put,Slots.get,if_true,if_false,true_and,↓qh,qc,↓qC,qm,fa91_1,↓qG,qY,qy ag43,QO,ne_eq,not_false_eq_true,ne_14q13_0q0.symm,Qy wz eb_0q0,List.getD_cons_zero,List.getD_cons_succ,Nat.zero_add,hrvl];refine QN (by rfl) (by rfl) (c_copyReplace wz _ bv rv out s.reps (w3.mono zqB) (hrp.mono zqB) (by omega) hrl hrn) fun x19q3 h19q3 hx19q3=>?_;rw[<-hE]at hx19q3 hrE;obtain⟨ov,rfl,hor⟩:=hx19q3;have hor':=hor;obtain⟨tb,hov,o1,o2,o3⟩:=hor';have hovl:ov.live=true:=by rw[hov];cases tb<;>rfl
      have hs19:=(hor.toks (wz:=wz)).2.2;have hs_h19q3:Sub B h19q3:=Sub.trans zqC hs19;have hr_h19q3:Sub h14q9 h19q3:=Sub.trans zqC hs19;have eb_14q13:=hs19 k14q13 _ zqA;have eb_x:=hs19 kx _ zqA;have eb_m:=hs19 km _ zqA;have eb_0q0:=hs19 k0q0 _ zqA;have eb_0q2:=hs19 k0q2 _ zqA;have eb_1q3:=hs19 k1q3 _ zqA;simp+decide only[qa,ev,putD,Slots.put,Slots.get,Slots.keep,if_true,if_false,true_and,↓qh,qc,↓QW,QH,QS,List.length_cons,List.length_nil,List.getD_cons_zero,List.getD_cons_succ,↓qd,qb,List.getD_cons_zero,List.getD_cons_succ,Nat.zero_add,Nat.reduceAdd];apply hK;clear hK K;refine qK ?_;refine awp_rseq [5,7,11,12,111] (by rfl) fun K hK=>?_;simp+decide only[qa,ev,qH,qF,putD,Slots.put,Slots.get,Slots.keep,if_true,if_false,true_and,↓qh,qc,↓qA,ql,qB,cond_false,qo,qag];apply hK;clear hK K;refine qJ (b:=_) rfl (fun hb6=>?_) (fun hb6=>?_)
      ·try simp only[decide_eq_false_iff_not,Bool.not_eq_true']at hb6
       have hE3:65536<(qbG s.reps out).length:=by
        rcases Nat.lt_or_ge 65536 (qbG s.reps out).length with z|z
        ·exact z
        ·exfalso
         rw[if_neg (by omega)]at hrE;rw[hrE]at hb6;exact hb6 rfl
       rw[if_pos hE3]at hrE hX;have hE2:E.2=3:=by rw[hrE]
       refine awp_rseq [4,5] (by rfl) fun K hK=>?_;simp+decide only[ev,putD,Slots.put,Slots.get,if_true,if_false,true_and,↓qh,qc];refine qN (V:= .tuple [.nilSlice,Qz ⟨E.2,s.name.line,s.name.col⟩]) (by rfl) (by rfl) (c_mem1 wz _ k0q0 s.name rv hrvl E.2 (by rw[hsc];exact zqA)) ?_;simp+decide only[ev,putD,Slots.put,Slots.get,if_true,if_false,true_and,↓QW,QH,QS,List.length_cons,List.length_nil,List.getD_cons_zero,List.getD_cons_succ,↓qd,qb,List.getD_cons_zero,List.getD_cons_succ,Nat.zero_add,Nat.reduceAdd,Qz];refine qp (by rfl) (by rfl) zqA QI (by rfl) (by rfl) zqD (Nat.zero_le _) (by first|rfl|(simp+decide only[ev,putD,Slots.put,Slots.get,if_true,if_false,AVal.cells,QC,Bool.and_true,Bool.true_and,hmvs,hrvs,XY,Ze,XJ])) ?_;simp only[AVal.cells];simp+decide only[qa,ev,putD,Slots.get,Slots.keep,if_true,if_false,setAt,List.set_cons_zero,List.set_cons_succ,Nat.zero_add,Nat.reduceAdd];apply hK;clear hK K;refine qO ?_;try simp only[Qi]
       refine retD_del (by rfl) Tryz.underlying74 zqA (by rfl) (qbP _ b4 es4 0 hnot4) ?_;refine QR (?_) ?_
       ·simp+decide only[QE,qw,qj,Slots.get,if_true,if_false,and_true,qw,qj,qg Xt QI,Qc,qf,List.getD_cons_zero,List.getD_cons_succ,Nat.zero_add,Nat.reduceAdd,qi,allLive,Bool.and_true,QO,ne_eq,not_false_eq_true,ne_0q2_m,qf,List.getD_cons_zero,List.getD_cons_succ,Nat.zero_add,Nat.reduceAdd,qi,allLive,Bool.and_true]
       simp+decide only[Slots.get,if_true,if_false,Xj,qw,qj,qg Xt QI,Qc,qf,List.getD_cons_zero,List.getD_cons_succ,Nat.zero_add,Nat.reduceAdd,qi,allLive,Bool.and_true,QO,ne_eq,not_false_eq_true,ne_0q2_m,qf,List.getD_cons_zero,List.getD_cons_succ,Nat.zero_add,Nat.reduceAdd,qi,allLive,Bool.and_true];rw[qds,hE2];have hE19:=hE14.trans ((Sub.set hn_14q13).trans hs19);refine⟨_,Sub.refl _,none,st2, .nilSlice,⟨3,s.name.line,s.name.col⟩,trivial,⟨hfew2,c3,es4,nb3,heB3,hes4,?_⟩,rfl, .inl ⟨fun e=>absurd (congrArg FaultC.e e) (by simp[okF]),hX,rfl⟩⟩;change Sub (ZN B _ _ _ _ _ _ _) _;rw[<-heB3.set_m (c:=c3) (es:=es4++[(b4,nm)])];exact Sub.set_both (Sub.trans_set hE19 z0q2) _ _
      ·try simp only[decide_eq_true_eq,Bool.not_eq_false']at hb6
       have hE3:¬65536<(qbG s.reps out).length:=fun z=>by
        rw[if_pos z]at hrE;rw[hrE]at hb6;exact absurd hb6 (by decide)
       rw[if_neg hE3]at hrE hX;have hE1:E.1=qbG s.reps out:=by rw[hrE]
       refine qP ?_;change Awp _ _ _ _ _ _ _;refine awp_rseq [4,5] (by rfl) fun K hK=>?_;simp+decide only[ev,qH,qF,putD,Slots.put,Slots.get,if_true,if_false,true_and,↓qh,qc,↓Qp,↓qW,ZJ,evP,List.map_nil,↓qd,qb];refine qp (by rfl) (by rfl) zqA QI (by rfl) (by rfl) zqD (Nat.zero_le _) (by first|rfl|(simp+decide only[ev,putD,Slots.put,Slots.get,if_true,if_false,AVal.cells,QC,Bool.and_true,Bool.true_and,hmvs,hrvs,XY,Ze,XJ])) ?_;simp only[AVal.cells];simp+decide only[qa,ev,putD,Slots.get,Slots.keep,if_true,if_false,setAt,List.set_cons_zero,List.set_cons_succ,Nat.zero_add,Nat.reduceAdd];apply hK;clear hK K;refine qO ?_;refine retD_del (by rfl) Tryz.underlying74 zqA (by rfl) (qbP _ b4 es4 0 hnot4) ?_;refine QR (?_) ?_
       ·simp+decide only[QE,qw,qj,Slots.get,if_true,if_false,and_true,qw,qj,qg Xt QI,Qc,qf,List.getD_cons_zero,List.getD_cons_succ,Nat.zero_add,Nat.reduceAdd,qi,allLive,Bool.and_true,QO,ne_eq,not_false_eq_true,ne_0q2_m,qf,List.getD_cons_zero,List.getD_cons_succ,Nat.zero_add,Nat.reduceAdd,qi,allLive,Bool.and_true]
       simp+decide only[Slots.get,if_true,if_false,Xj,qw,qj,qg Xt QI,Qc,qf,List.getD_cons_zero,List.getD_cons_succ,Nat.zero_add,Nat.reduceAdd,qi,allLive,Bool.and_true,QO,ne_eq,not_false_eq_true,ne_0q2_m,qf,List.getD_cons_zero,List.getD_cons_succ,Nat.zero_add,Nat.reduceAdd,qi,allLive,Bool.and_true];rw[qds];have hE14':Sub (ZN B kx km (.slice lcm om qs.length cm) c3 (es4++[(b4,nm)]) nb3 st2.copies) (h14q9.set k14q13 ⟨[.int .i64 bf.e, .int .i64 bf.line, .int .i64 bf.col],0⟩):=Sub.trans_set hE14 (hE14.none hn_14q13);obtain⟨e1,e2⟩:=heB3.buf hE14' o1;have hE19:Sub (ZN (QG B tb) kx km (.slice lcm om qs.length cm) c3 (es4++[(b4,nm)]) nb3 st2.copies) h19q3:=by rw[e1,o3];exact Sub.bufBoth hE14'
       have z7:ZN (QG B tb) kx km (.slice lcm om qs.length cm) c3 (es4++[(b4,nm)]) nb3 st2.copies k0q2=none:=by rw[e1];exact bufH_off z0q2 ((AHeap.set_ne _ _ ne_14q13_0q2.symm).trans (hs2h _ _ (hsB2 _ _ b1_2))) o1
       have hob:bufOk B 5 tb:=o1.sub (zqB:Sub B (h14q9.set k14q13 ⟨[.int .i64 bf.e, .int .i64 bf.line, .int .i64 bf.col],0⟩));refine⟨_,Sub.refl _,tb,st2,ov,okF,hob,⟨hfew2,c3,es4,nb3,e2,hes4,?_⟩,rfl, .inr ⟨rfl,qbG s.reps out,hX,?_,by omega,w5,w6⟩⟩
       ·rw[<-e2.set_m (c:=c3) (es:=es4++[(b4,nm)])]
        exact Sub.set_both (Sub.trans_set hE19 z7) _ _
       ·rw[hov,<-hE1]
        exact(IsL.buf (hob.sub (qdK _)) (by decide) o2 Xc (Sub.refl _)).clip
end Go.Proofs.YtlhhaagmakhilaaGreatDoor
namespace Go.Proofs.YtlhhaagmakhilaaGreatDoor
open Go.AM
open Go.Proofs
open Go.Col (Str FaultC okF)
open Go.Tok
open Go.Cop
open Go.RowKit (Below)
set_option maxRecDepth 100000
def qaU(h:AHeap):Option Buf->AHeap
 |none=>h
 |some b=>h.del b.blk
def Um(j:Nat):Option Buf->Prop
 |none=>True
 |some b=>j≠b.blk
theorem UA{h:AHeap}{tb:Option Buf}{j:Nat}{c:Blk}(hj:h j=some c)(hn:Um j tb):qaU h tb j=some c:=by
 cases tb with
 |none=>exact hj
 |some b=>simp only[qaU,AHeap.del,show j≠b.blk from hn,if_false];exact hj
theorem Wz{G:AHeap}{es j:Nat}{tb:Option Buf}{c:Blk}(hb:bufOk G es tb)(hj:G j=some c):Um j tb:=by
 cases tb with
 |none=>trivial
 |some b=>exact bufNe hb hj
theorem noBlk_new{h G:AHeap}{j:Nat}{tb:Option Buf}(hs:Sub (QG G tb) h)(hj:h j=none):Um j tb:=by
 cases tb with
 |none=>trivial
 |some b=>
  intro e;have:=hs b.blk _ (AHeap.set_same _ _ _);rw[<-e,hj]at this;cases this
theorem qcH{A h:AHeap}{es:Nat}{tb:Option Buf}(hs:Sub A h)(hb:bufOk A es tb):Sub A (qaU h tb):=fun j c hj=>UA (hs j c hj) (Wz hb hj)
theorem offB_le(h:AHeap)(tb:Option Buf):Sub (qaU h tb) h:=by
 cases tb with
 |none=>exact Sub.refl _
 |some b=>
  intro j c hj;by_cases e:j=b.blk
  ·subst e;simp[qaU,AHeap.del]at hj
  ·simpa[qaU,AHeap.del,e]using hj
def qak(h:AHeap)(kx km:Nat)(nb:Option Buf):AHeap:=qaU ((h.del kx).del km) nb
theorem qfa{h:AHeap}{kx km:Nat}{nb:Option Buf}{j:Nat}{c:Blk}(hj:h j=some c)(hx:j≠kx)(hm:j≠km)(hn:Um j nb):qak h kx km nb j=some c:=UA (by simp only[AHeap.del,hx,hm,if_false];exact hj) hn
section
variable {B h:AHeap} {kx km:Nat} {mv:AVal} {c cp:Nat} {es:List (Nat×Str)} {nb:Option Buf} {ns:List Str}
theorem base_ok(he:ExOk B kx km nb ns):ExOk (qak h kx km nb) kx km nb ns:=by
 have hk:∀j,(j=kx\/j=km)->qak h kx km nb j=none:=fun j hj=>by
  have:((h.del kx).del km) j=none:=by
   rcases hj with rfl|rfl
   ·by_cases e:j=km<;>simp[AHeap.del,e]
   ·simp[AHeap.del]
  cases hb:qak h kx km nb j with
  |none=>rfl
  |some d=>
   have:=offB_le _ _ j d hb;rw[‹((h.del kx).del km) j=none›]at this;cases this
 refine⟨hk km (.inr rfl),hk kx (.inl rfl),he.ne,fun M=>⟨(AHeap.set_ne _ _ he.ne.symm).trans (hk kx (.inl rfl)),fun X=>?_,(he.use M).eq⟩⟩;have h1:=(he.use M).ok X;cases nb with
 |none=>trivial
 |some b=>
  refine⟨?_,h1.2⟩;have h2:((B.set km M).set kx X) b.blk=none:=h1.1;have e1:b.blk≠kx:=fun e=>by rw[e,AHeap.set_same]at h2;cases h2
  rw[AHeap.set_ne _ _ e1]at h2;have e2:b.blk≠km:=fun e=>by rw[e,AHeap.set_same]at h2;cases h2
  refine(AHeap.set_ne _ _ e1).trans ((AHeap.set_ne _ _ e2).trans ?_);simp[qak,qaU,AHeap.del]
theorem qee(he:ExOk B kx km nb ns){j:Nat}{d:Blk}(hj:B j=some d):j≠kx/\j≠km/\Um j nb:=by
 refine⟨(fun e=>by rw[e,he.bx]at hj;cases hj),(fun e=>by rw[e,he.bm]at hj;cases hj),?_⟩;have hne:j≠km:=fun e=>by rw[e,he.bm]at hj;cases hj
 have hnx:j≠kx:=fun e=>by rw[e,he.bx]at hj;cases hj
 exact Wz ((he.use ⟨[],0⟩).ok ⟨[],0⟩) ((AHeap.set_ne _ _ hnx).trans ((AHeap.set_ne _ _ hne).trans hj))
theorem qed(he:ExOk B kx km nb ns)(hs:Sub (ZN B kx km mv c es nb cp) h){j:Nat}(hj:h j=none):j≠kx/\j≠km/\Um j nb:=by
 refine⟨fun e=>?_,fun e=>?_,noBlk_new hs hj⟩
 ·have:=hs _ _ (he.x (mv:=mv) (c:=c) (es:=es) (cp:=cp))
  rw[<-e,hj]at this;cases this
 ·have:=hs _ _ (he.m (mv:=mv) (c:=c) (es:=es) (cp:=cp))
  rw[<-e,hj]at this;cases this
theorem base_above(he:ExOk B kx km nb ns){B':AHeap}(hb:∀j d,B' j=some d->j≠kx/\j≠km/\Um j nb)(hs:Sub B' h):Sub B' (qak h kx km nb):=fun j d hj=>by
 obtain⟨h1,h2,h3⟩:=hb j d hj;exact qfa (hs j d hj) h1 h2 h3
theorem base_sub(he:ExOk B kx km nb ns)(hs:Sub (ZN B kx km mv c es nb cp) h):Sub (ZN (qak h kx km nb) kx km mv c es nb cp) h:=by
 have hx:=hs _ _ (he.x (mv:=mv) (c:=c) (es:=es) (cp:=cp));have hm:=hs _ _ (he.m (mv:=mv) (c:=c) (es:=es) (cp:=cp));have hn:∀b,nb=some b->h b.blk=some ⟨b.cells,0⟩:=fun b e=>by
  subst e;exact hs _ _ (AHeap.set_same _ _ _)
 have hle:Sub (qak h kx km nb) h:=(offB_le _ _).trans fun j d hj=>by
  by_cases e1:j=km
  ·subst e1;simp[AHeap.del]at hj
  ·by_cases e2:j=kx
   ·subst e2;simp[AHeap.del]at hj
   ·simpa[AHeap.del,e1,e2]using hj
 have hG:Sub (((qak h kx km nb).set km (XH c (es.map opC))).set kx ⟨[mv, .map km,QA 1 nb, .int .i64 cp],0⟩) h:=fun j d hj=>by
  by_cases e2:j=kx
  ·subst e2
   rw[AHeap.set_same]at hj;rw[<-hj];exact hx
  ·rw[AHeap.set_ne _ _ e2]at hj
   by_cases e1:j=km
   ·subst e1
    rw[AHeap.set_same]at hj;rw[<-hj];exact hm
   ·rw[AHeap.set_ne _ _ e1]at hj
    exact hle j d hj
 unfold ZN qbe;cases nb with
 |none=>exact hG
 |some b=>
  intro j d hj;by_cases e:j=b.blk
  ·subst e
   rw[show QG (((qak h kx km (some b)).set km (XH c (es.map opC))).set kx ⟨[mv, .map km,QA 1 (some b), .int .i64 cp],0⟩) (some b)=(((qak h kx km (some b)).set km (XH c (es.map opC))).set kx ⟨[mv, .map km,QA 1 (some b), .int .i64 cp],0⟩).set b.blk ⟨b.cells,0⟩from rfl,AHeap.set_same]at hj;rw[<-hj];exact hn b rfl
  ·rw[show QG (((qak h kx km (some b)).set km (XH c (es.map opC))).set kx ⟨[mv, .map km,QA 1 (some b), .int .i64 cp],0⟩) (some b)=(((qak h kx km (some b)).set km (XH c (es.map opC))).set kx ⟨[mv, .map km,QA 1 (some b), .int .i64 cp],0⟩).set b.blk ⟨b.cells,0⟩from rfl,AHeap.set_ne _ _ e]at hj
   exact hG j d hj
end
section
variable {lim:Bool} {mem:List MemC} {op:List Str} {rec:List TokC->List Str->Xs->Xr} {l:List TokC}
theorem listGo_fuel:∀(f g i:Nat) (out:List TokC) (st:Xs),i<=l.length->l.length<f+i->l.length<g+i->qaj lim mem op rec l f i out st=qaj lim mem op rec l g i out st
 |0,g,i,out,st,hi,h1,_=>by omega
 |f+1,0,i,out,st,hi,_,h2=>by omega
 |f+1,g+1,i,out,st,hi,h1,h2=>by
  rw[qaj,qaj];simp only;split
  ·rfl
  ·rename_i hc
   have hcl:=qeU hi;obtain⟨s1,s2,s3,s4⟩:=qbg (l:=l) (i:=XE l i+1) (by omega);split
   ·rfl
   ·rename_i hok
    have h3:=s3 (by simpa using hok);cases qai lim mem op rec (Xi l (XE l i+1)) st with
    |bad f'=>rfl
    |ok inner st'=>
     simp only;split
     ·rfl
     ·exact listGo_fuel f g _ _ _ s2 (by omega) (by omega)
def listR(lim:Bool)(mem:List MemC)(op:List Str)(rec:List TokC->List Str->Xs->Xr)(l:List TokC)(i:Nat)(out:List TokC)(st:Xs):Xr:=qaj lim mem op rec l (l.length+1-i) i out st
theorem listR_step{i:Nat}(hi:i<=l.length)(out:List TokC)(st:Xs):listR lim mem op rec l i out st=
 if l.length<=XE l i then .ok (out++l.drop i) st
 else if (Xi l (XE l i+1)).ok=false then .bad (qdo l (XE l i) (Xi l (XE l i+1)).at_)
 else match qai lim mem op rec (Xi l (XE l i+1)) st with
  | .bad f=> .bad f
  | .ok inner st'=>if qcY lim (out++qbn l i (XE l i)++inner)=true then .bad ⟨3,(Xi l (XE l i+1)).name.line,(Xi l (XE l i+1)).name.col⟩else listR lim mem op rec l (Xi l (XE l i+1)).at_ (out++qbn l i (XE l i)++inner) st':=by
 unfold listR;rw[show l.length+1-i=(l.length-i)+1 by omega,qaj];simp only;split
 ·rfl
 ·rename_i hc
  have hcl:=qeU hi;obtain⟨s1,s2,s3,s4⟩:=qbg (l:=l) (i:=XE l i+1) (by omega);split
  ·rfl
  ·rename_i hok
   have h3:=s3 (by simpa using hok);cases qai lim mem op rec (Xi l (XE l i+1)) st with
   |bad f'=>rfl
   |ok inner st'=>
    simp only;split
    ·rfl
    ·exact listGo_fuel _ _ _ _ _ s2 (by omega) (by omega)
end
end Go.Proofs.YtlhhaagmakhilaaGreatDoor
namespace Go.Proofs.YtlhhaagmakhilaaGreatDoor
open Go.AM
open Go.Proofs
open Go.Col (Str FaultC okF)
open Go.Tok
open Go.Cop
open Go.RowKit (Below)
set_option maxRecDepth 100000
theorem bufOk_same{H H':AHeap}{es:Nat}{b:Option Buf}(hb:bufOk H es b)(hn:∀j,H j=none->H' j=none):bufOk H' es b:=by
 cases b with
 |none=>trivial
 |some b=>exact⟨hn _ hb.1,hb.2⟩
theorem bufOk_at{H H':AHeap}{es:Nat}{b:Option Buf}(hb:bufOk H es b)(hn:∀b',b=some b'->H' b'.blk=none):bufOk H' es b:=by
 cases b with
 |none=>trivial
 |some b=>exact⟨hn _ rfl,hb.2⟩
theorem Ud{B B':AHeap}(hn:∀j,B j=none->B' j=none)(k:Nat)(c:Blk):∀j,B.set k c j=none->B'.set k c j=none:=fun j hj=>by
 by_cases e:j=k
 ·subst e;rw[AHeap.set_same]at hj;cases hj
 ·rw[AHeap.set_ne _ _ e]at hj|-
  exact hn j hj
theorem ExOk.same{B B':AHeap}{kx km:Nat}{nb:Option Buf}{ns:List Str}(he:ExOk B kx km nb ns)(hn:∀j,B j=none->B' j=none):ExOk B' kx km nb ns:=
 ⟨hn _ he.bm,hn _ he.bx,he.ne,fun M=>⟨Ud hn km M _ (he.use M).bx,fun X=>bufOk_same ((he.use M).ok X) (Ud (Ud hn km M) kx X),(he.use M).eq⟩⟩
theorem expH_same{B B':AHeap}{kx km:Nat}{mv:AVal}{c cp:Nat}{es:List (Nat×Str)}{nb:Option Buf}(hn:∀j,B j=none->B' j=none):∀j,ZN B kx km mv c es nb cp j=none->ZN B' kx km mv c es nb cp j=none:=by
 have h1:=Ud (Ud hn km (XH c (es.map opC))) kx ⟨[mv, .map km,QA 1 nb, .int .i64 cp],0⟩;unfold ZN qbe;cases nb with
 |none=>exact h1
 |some b=>exact Ud h1 b.blk ⟨b.cells,0⟩
theorem swap_none{A:AHeap}{k:Nat}(X Y:Blk):∀j,A.set k X j=none->A.set k Y j=none:=fun j hj=>by
 by_cases e:j=k
 ·subst e;rw[AHeap.set_same]at hj;cases hj
 ·rw[AHeap.set_ne _ _ e]at hj|-
  exact hj
theorem sub_set_in{A B:AHeap}{k:Nat}{c:Blk}(hs:Sub A B)(hk:B k=some c):Sub (A.set k c) B:=fun j d hj=>by
 by_cases e:j=k
 ·subst e;rw[AHeap.set_same]at hj;rw[<-hj];exact hk
 ·rw[AHeap.set_ne _ _ e]at hj;exact hs j d hj
def hasB(h:AHeap)(tb:Option Buf):Prop:=∀b,tb=some b->h b.blk=some ⟨b.cells,0⟩
theorem hasB.mono{h h':AHeap}{tb:Option Buf}(hh:hasB h tb)(hs:Sub h h'):hasB h' tb:=fun b e=>hs _ _ (hh b e)
theorem qeh(H:AHeap)(tb:Option Buf):hasB (QG H tb) tb:=fun b e=>by subst e;exact AHeap.set_same _ _ _
theorem hasB.set{h:AHeap}{tb:Option Buf}{j:Nat}(hh:hasB h tb)(hn:Um j tb)(c:Blk):hasB (h.set j c) tb:=fun b e=>by
 subst e;rw[AHeap.set_ne _ _ (Ne.symm hn)];exact hh b rfl
theorem noBlk_has{h:AHeap}{tb:Option Buf}{j:Nat}(hh:hasB h tb)(hj:h j=none):Um j tb:=by
 cases tb with
 |none=>trivial
 |some b=>
  intro e;have:=hh b rfl;rw[<-e,hj]at this;cases this
theorem offB_has{G h:AHeap}{es:Nat}{tb:Option Buf}(hb:bufOk G es tb)(hh:hasB h tb):bufOk (qaU h tb) es tb/\Sub (QG (qaU h tb) tb) h:=by
 cases tb with
 |none=>exact⟨trivial,Sub.refl _⟩
 |some b=>
  refine⟨⟨by simp[qaU,AHeap.del],hb.2⟩,fun j c hj=>?_⟩;have h1:=hh b rfl;by_cases e:j=b.blk
  ·subst e
   rw[show QG (qaU h (some b)) (some b)=(qaU h (some b)).set b.blk ⟨b.cells,0⟩from rfl,AHeap.set_same]at hj;rw[<-hj];exact h1
  ·rw[show QG (qaU h (some b)) (some b)=(qaU h (some b)).set b.blk ⟨b.cells,0⟩from rfl,AHeap.set_ne _ _ e]at hj
   simpa[qaU,AHeap.del,e]using hj
theorem bufOk_newE{B H E:AHeap}{es:Nat}{tb:Option Buf}(hb:bufOk B es tb)(hE:NewE B H E)(hh:hasB H tb):bufOk E es tb:=by
 cases tb with
 |none=>trivial
 |some b=>exact⟨hE.none (hh b rfl) hb.1,hb.2⟩
theorem ExOk.newE{B H E:AHeap}{kx km:Nat}{mv:AVal}{c cp:Nat}{es:List (Nat×Str)}{nb:Option Buf}{ns:List Str}(he:ExOk B kx km nb ns)(hE:NewE B H E)(hs:Sub (ZN B kx km mv c es nb cp) H):ExOk E kx km nb ns:=by
 have e1:E km=none:=hE.none (hs _ _ he.m) he.bm;have e2:E kx=none:=hE.none (hs _ _ he.x) he.bx;refine⟨e1,e2,he.ne,fun M=>⟨(AHeap.set_ne _ _ he.ne.symm).trans e2,fun X=>?_,(he.use M).eq⟩⟩;refine bufOk_at ((he.use M).ok X) fun b hb=>?_;subst hb;have h2:((B.set km M).set kx X) b.blk=none:=((he.use M).ok X).1;have q1:b.blk≠kx:=fun e=>by rw[e,AHeap.set_same]at h2;cases h2
 rw[AHeap.set_ne _ _ q1]at h2;have q2:b.blk≠km:=fun e=>by rw[e,AHeap.set_same]at h2;cases h2
 rw[AHeap.set_ne _ _ q2]at h2;exact(AHeap.set_ne _ _ q1).trans ((AHeap.set_ne _ _ q2).trans (hE.none (hs b.blk _ (AHeap.set_same _ _ _)) h2))
structure LsG where
 i:Nat
 c:Nat
 es:List (Nat×Str)
 nb:Option Buf
 st:Xs
 tb:Option Buf
 out:List TokC
structure LsOk(B:AHeap)(kx km k0 k1:Nat)(mv:AVal)(op:List Str)(l:List TokC)(R:Nat->List TokC->Xs->Xr)(X:Xr)(s:LsG):Prop where
 i:s.i<=l.length
 ex:∀Y,ExOk ((B.set k0 ⟨[.int .i64 0, .int .i64 0, .int .i64 0],0⟩).set k1 Y) kx km s.nb s.st.names
 op:s.es.map (·.2)=op
 ok:∀Y,bufOk (ZN ((B.set k0 ⟨[.int .i64 0, .int .i64 0, .int .i64 0],0⟩).set k1 Y) kx km mv s.c s.es s.nb s.st.copies) 5 s.tb
 eq:Yu s.tb=(s.out.map QK).flatten
 len:s.out.length<=65536
 nm:s.st.names.length<=s.st.copies
 cp:s.st.copies<=4096
 go:R s.i s.out s.st=X
end Go.Proofs.YtlhhaagmakhilaaGreatDoor
namespace Go.Proofs.YtlhhaagmakhilaaGreatDoor
open Go.AM
open Go.Proofs
open Go.Col (Str FaultC okF)
open Go.Tok
open Go.Cop
open Go.RowKit (Below)
set_option maxRecDepth 100000
set_option maxHeartbeats 4000000 in
theorem c_listS(wz:World)(h B:AHeap)(kx km:Nat)(mv:AVal)(mems:List MemC)(op:List Str)(st:Xs)(v:AVal)(l:List TokC)(rec:List TokC->List Str->Xs->Xr)(hx:ExpR B kx km mv op st h)(hms:IsMems wz B mv mems)(hml:mems.length<=1000000)(hmt:∀m∈mems,m.toks.length<=100000)
 (hv:IsL wz B 5 v (l.map QK)) (hl:l.length<=100000) (hst:st.names.length<=st.copies) (hst2:st.copies<=4096) (hop8:op.length<=8)
 (hrec:op.length<8->∀nm,RecOk wz kx km mv mems (op++[nm]) rec):
 ACall Tryz.prog wz 32 [.ptr (.own kx) 0,v] h (ListR wz B kx km mv op (qaj true mems op rec l (l.length+1) 0 [] st)):=by
 obtain⟨hfew,c,es,nb,he,hes,hsh⟩:=hx;have hmvs:mv.scal=true:=by obtain⟨qs,-,q2,-⟩:=hms;exact q2.scal
 have hmvl:=Yj hmvs;have hlv:=hv.live;have hvs:=hv.scal;have hSv:Sc v=True:=eq_true (isL_Sc hv);have nv:=Zp hv;refine ACall.down hsh ?_;obtain⟨X,hX⟩:∃X,X=qaj true mems op rec l (l.length+1) 0 [] st:=⟨_,rfl⟩
 have hX0:listR true mems op rec l 0 [] st=X:=hX.symm;rw[<-hX];obtain⟨H,hH⟩:∃H,H=ZN B kx km mv c es nb st.copies:=⟨_,rfl⟩
 have hs_H:Sub B H:=by rw[hH];exact he.above
 have eb_x:H kx=some ⟨[mv, .map km,QA 1 nb, .int .i64 st.copies],0⟩:=by rw[hH];exact he.x
 have eb_m:H km=some (XH c (es.map opC)):=by rw[hH];exact he.m
 have ne_x_m:kx≠km:=he.ne.symm;have hrvs:(AVal.bool true).scal=true:=rfl;have hrvl:(AVal.bool true).live=true:=rfl;have hbvl:(AVal.bool true).live=true:=rfl;have hbl:=QV 5 none;have hbn:=QV 1 nb;rw[<-hH];refine qU (n:=52) (rs:=[.tmp 4, .cell 5 35]) Tryz.func32 rfl rfl rfl rfl (Nat.le_of_ble_eq_true rfl) ?_;simp only[Qe];refine awp_rseq [0,1,5] (by rfl) fun K hK=>?_;simp+decide only[ev,qH,qF,putD,Slots.put,if_false,true_and,↓qd,qb,Nat.zero_add];refine Qj qbc (cs:=[.int .i64 0, .int .i64 0, .int .i64 0]) (by rfl) fun k0q1 hk0q1=>?_;have hn_0q1:H k0q1=none:=by first|assumption|(simp only[AHeap.set_none]at hk0q1;simp only[hk0q1])
 have hf_0q1:B k0q1=none:=Sub.none hs_H hn_0q1;have ne_0q1_x:k0q1≠kx:=AHeap.ne_some hn_0q1 eb_x;have ne_0q1_m:k0q1≠km:=AHeap.ne_some hn_0q1 eb_m;simp+decide only[qa,putD,Slots.put,Slots.keep,if_true,if_false];apply hK;clear hK K;refine awp_rseq [0,5,6] (by rfl) fun K hK=>?_;simp+decide only[ev,qH,qF,putD,Slots.put,Slots.get,if_true,if_false,true_and,↓qh,qc,↓Qp,↓qW,bld89_0,evP,List.map_cons,List.map_nil,hSv];refine Qj ze89 (cs:=[.nilSlice, .int .i64 0]) (by rfl) fun k1q2 hk1q2=>?_;have ne_1q2_0q1:k1q2≠k0q1:=by simp only[AHeap.set_none]at hk1q2;simp only[hk1q2,ne_eq,not_false_eq_true]
 have hn_1q2:H k1q2=none:=by first|assumption|(simp only[AHeap.set_none]at hk1q2;simp only[hk1q2])
 have hf_1q2:B k1q2=none:=Sub.none hs_H hn_1q2;have ne_1q2_x:k1q2≠kx:=AHeap.ne_some hn_1q2 eb_x;have ne_1q2_m:k1q2≠km:=AHeap.ne_some hn_1q2 eb_m;refine qp (by rfl) (by rfl) zqA sz89 (by rfl) (by rfl) zqD (Nat.zero_le _) (by first|rfl|(simp+decide only[ev,putD,Slots.put,Slots.get,if_true,if_false,AVal.cells,QC,Bool.and_true,hvs,XY])) ?_;simp only[AHeap.set_set,AVal.cells];simp+decide only[qa,ev,putD,Slots.put,Slots.get,Slots.keep,if_true,if_false,setAt,List.set_cons_zero,List.set_cons_succ,Nat.zero_add];apply hK;clear hK K;obtain⟨y1,y2⟩:=he.lay (mv:=mv) (c:=c) (es:=es) (cp:=st.copies) (j:=k0q1) (by rw[<-hH];exact hn_0q1) ⟨[.int .i64 0, .int .i64 0, .int .i64 0],0⟩;obtain⟨y3,y4⟩:=y2.lay (mv:=mv) (c:=c) (es:=es) (cp:=st.copies) (j:=k1q2) (by rw[<-y1,<-hH];exact(AHeap.set_ne _ _ ne_1q2_0q1).trans hn_1q2) ⟨[v, .int .i64 0],0⟩;refine awp_rseq [0,5,6,7] (by rfl) fun K hK=>?_;simp+decide only[qa,ev,qH,qF,putD,Slots.put,Slots.keep,if_true,if_false,true_and,↓qd,qb];apply hK;clear hK K;refine Ql ?_;refine Xv [0,5,6,7] (fun s:LsG=>[(0, .ptr (.own kx) 0),(5, .ptr (.own k0q1) 0),(6, .ptr (.own k1q2) 0),(7,QA 5 s.tb)]) (fun s:LsG=>QG (ZN ((B.set k0q1 ⟨[.int .i64 0, .int .i64 0, .int .i64 0],0⟩).set k1q2 ⟨[v, .int .i64 s.i],0⟩) kx km mv s.c s.es s.nb s.st.copies) s.tb) (fun s:LsG=>LsOk B kx km k0q1 k1q2 mv op l (listR true mems op rec l) X s) (fun s:LsG=>l.length-s.i) ⟨0,c,es,nb,st,none,[]⟩ (by rfl) (by(show Sub (ZN _ _ _ _ _ _ _ _) _);rw[show((((0:Nat):Int)))=(0:Int)from rfl,<-y3,<-y1,<-hH];exact Sub.refl _) ⟨Nat.zero_le _,fun Y=>y4.same (swap_none _ _),hes,fun Y=>trivial,rfl,Nat.zero_le _,hst,hst2,hX0⟩ ?_;rintro⟨i,c,es,nb,st,tb,out⟩ ⟨g1,g2,g3,g4,g5,g6,g7,g8,g9⟩;simp only at g1 g2 g3 g4 g5 g6 g7 g8 g9|-
 have g2i:=g2 ⟨[v, .int .i64 i],0⟩;have g4i:=g4 ⟨[v, .int .i64 i],0⟩;obtain⟨G,hG⟩:∃G,G=(B.set k0q1 ⟨[.int .i64 0, .int .i64 0, .int .i64 0],0⟩).set k1q2 ⟨[v, .int .i64 i],0⟩:=⟨_,rfl⟩
 rw[<-hG]at g2i g4i|-
 have hBG:Sub B G:=by rw[hG];exact zqB
 have gb_0:G k0q1=some ⟨[.int .i64 0, .int .i64 0, .int .i64 0],0⟩:=by rw[hG];exact zqA
 have gb_1:G k1q2=some ⟨[v, .int .i64 i],0⟩:=by rw[hG];exact AHeap.set_same _ _ _
 obtain⟨H1,hH1⟩:∃H1,H1=QG (ZN G kx km mv c es nb st.copies) tb:=⟨_,rfl⟩
 have hbuf:Sub (ZN G kx km mv c es nb st.copies) H1:=by rw[hH1];exact Sub.buf g4i
 have hs_H1:Sub B H1:=(hBG.trans g2i.above).trans hbuf;have eb_x:H1 kx=some ⟨[mv, .map km,QA 1 nb, .int .i64 st.copies],0⟩:=hbuf _ _ g2i.x;have eb_m:H1 km=some (XH c (es.map opC)):=hbuf _ _ g2i.m;have eb_0q1:H1 k0q1=some ⟨[.int .i64 0, .int .i64 0, .int .i64 0],0⟩:=hbuf _ _ (g2i.above _ _ gb_0);have eb_1q2:H1 k1q2=some ⟨[v, .int .i64 i],0⟩:=hbuf _ _ (g2i.above _ _ gb_1);have has1:hasB H1 tb:=by rw[hH1];exact qeh _ _
 have heB:ExOk B kx km nb st.names:=g2i.down hBG;have hokB:bufOk (ZN B kx km mv c es nb st.copies) 5 tb:=g4i.sub (qcL hBG);have hokB0:bufOk B 5 tb:=hokB.sub heB.above;have hEB1:Sub (ZN B kx km mv c es nb st.copies) H1:=(qcL hBG).trans hbuf;have zB0:ZN B kx km mv c es nb st.copies k0q1=none:=g2i.off gb_0 hf_0q1;have zB1:ZN B kx km mv c es nb st.copies k1q2=none:=g2i.off gb_1 hf_1q2;have hbl:=QV 5 tb;have hbn:=QV 1 nb;have hstp:=listR_step (lim:=true) (mem:=mems) (op:=op) (rec:=rec) g1 out st;rw[g9]at hstp;rw[<-hH1];refine Ql ?_;refine awp_rseq [0,5,6,7,8,9,10,11] (by rfl) fun K hK=>?_;refine QN (by rfl) (by rfl) (c_nextP wz H1 B k1q2 v l i eb_1q2 hs_H1 hf_1q2 hv (by omega) g1) fun x3q0 h3q0 hx3q0=>?_;obtain⟨hsub3,j,eb_1q2,hj,hcase⟩:=hx3q0;have hcl:=qeU g1;have hstm:XE l i<l.length->_:=fun hc=>qbg (l:=l) (i:=XE l i+1) (by omega);have hrps:=statement_reps l (XE l i+1);obtain⟨ci,hci⟩:∃ci,ci=XE l i:=⟨_,rfl⟩
 rw[<-hci]at hcase hcl hstm hrps hstp;obtain⟨sm,hsm⟩:∃sm,sm=Xi l (ci+1):=⟨_,rfl⟩
 rw[<-hsm]at hcase hstm hrps hstp;obtain⟨bv,t,rv,more,f,E,rfl,hbvl,hrvs,hE3,hE3s,hcase⟩:∃bv t rv more f E,x3q0=nextV bv t rv more f/\bv.live=true/\rv.scal=true/\NewE B H1 E/\Sub E h3q0/\
  ((f≠okF/\X= .bad f)\/(f=okF/\more=false/\X= .ok (out++l.drop i) st/\IsL wz B 5 bv ((l.drop i).map QK))\/
   (f=okF/\more=true/\ci<l.length/\sm.ok=true/\t=sm.name/\j=sm.at_/\IsL wz B 5 bv ((qbn l i ci).map QK)/\IsReps wz E rv sm.reps)):=by
  have hle:Sub B (H1.del k1q2):=qce hs_H1 hf_1q2;rcases hcase with⟨z1,bv,rfl,z2⟩|⟨z1,z2,rfl⟩|⟨z1,z2,z3,bv,rv,E,rfl,z4,z5,z6,z7⟩
  ·rw[if_pos z1]at hstp
   exact⟨bv,_,_,_,_,B,rfl,z2.live,rfl,NewE.refl _ _,hle.trans hsub3, .inr (.inl ⟨rfl,rfl,hstp,z2⟩)⟩
  ·rw[if_neg (by omega),if_pos z2]at hstp
   exact⟨.nilSlice,_,_,_,_,B,rfl,rfl,rfl,NewE.refl _ _,hle.trans hsub3, .inl ⟨faultAt_ne _ _ _,hstp⟩⟩
  ·exact⟨bv,_,rv,_,_,E,rfl,z4.live,(by obtain⟨qs,-,q2,-⟩:=z7;exact q2.scal),z5,z6, .inr (.inr ⟨rfl,rfl,z1,z2,rfl,z3,z4,z7⟩)⟩
 have hrvl:=Yj hrvs;have hd:∀k d,H1 k=some d->k≠k1q2->h3q0 k=some d:=fun k d hk hn=>hsub3 k d (by simp only[AHeap.del,hn,if_false];exact hk);have eb_x:h3q0 kx=some ⟨[mv, .map km,QA 1 nb, .int .i64 st.copies],0⟩:=hd _ _ eb_x ne_1q2_x.symm;have eb_m:h3q0 km=some (XH c (es.map opC)):=hd _ _ eb_m ne_1q2_m.symm;have eb_0q1:h3q0 k0q1=some ⟨[.int .i64 0, .int .i64 0, .int .i64 0],0⟩:=hd _ _ eb_0q1 ne_1q2_0q1.symm;have hs_h3q0:Sub B h3q0:=(qce hs_H1 hf_1q2).trans hsub3;have hEB3:Sub (ZN B kx km mv c es nb st.copies) h3q0:=(qce hEB1 zB1).trans hsub3;have has3:hasB h3q0 tb:=fun b e=>hd _ _ (has1 b e) (by subst e;exact Ne.symm (bufNe g4i (g2i.above _ _ gb_1)));unfold nextV stmC;simp+decide only[ev,putD,Slots.put,Slots.get,if_true,if_false,true_and,↓qh,qc,↓QW,QH,QS,List.length_cons,List.length_nil,List.getD_cons_zero,List.getD_cons_succ,List.getD_cons_zero,List.getD_cons_succ,Nat.zero_add,Nat.reduceAdd,Qz];refine Qj ze91 (cs:=[.int .u8 0, .str [], .int .i64 0, .int .i64 0, .bool false, .nilSlice]) (by rfl) fun k3q6 hk3q6=>?_;have hn_3q6:h3q0 k3q6=none:=by first|assumption|(simp only[AHeap.set_none]at hk3q6;simp only[hk3q6])
 have hf_3q6:B k3q6=none:=Sub.none hs_h3q0 hn_3q6;have ne_3q6_x:k3q6≠kx:=AHeap.ne_some hn_3q6 eb_x;have ne_3q6_m:k3q6≠km:=AHeap.ne_some hn_3q6 eb_m;have ne_3q6_0q1:k3q6≠k0q1:=AHeap.ne_some hn_3q6 eb_0q1;have ne_3q6_1q2:k3q6≠k1q2:=AHeap.ne_some hn_3q6 eb_1q2;refine Qj qbc (cs:=[.int .i64 0, .int .i64 0, .int .i64 0]) (by rfl) fun k3q7 hk3q7=>?_;have ne_3q7_3q6:k3q7≠k3q6:=by simp only[AHeap.set_none]at hk3q7;simp only[hk3q7,ne_eq,not_false_eq_true]
 have hn_3q7:h3q0 k3q7=none:=by first|assumption|(simp only[AHeap.set_none]at hk3q7;simp only[hk3q7])
 have hf_3q7:B k3q7=none:=Sub.none hs_h3q0 hn_3q7;have ne_3q7_x:k3q7≠kx:=AHeap.ne_some hn_3q7 eb_x;have ne_3q7_m:k3q7≠km:=AHeap.ne_some hn_3q7 eb_m;have ne_3q7_0q1:k3q7≠k0q1:=AHeap.ne_some hn_3q7 eb_0q1;have ne_3q7_1q2:k3q7≠k1q2:=AHeap.ne_some hn_3q7 eb_1q2;simp+decide only[ev,putD,Slots.put,Slots.get,if_true,if_false,true_and,↓qd,qb];refine qp (by rfl) (by rfl) zqA qab (by rfl) (by rfl) zqD (Nat.zero_le _) (by first|rfl|(simp+decide only[ev,Slots.get,if_true,if_false,AVal.cells,QC,Bool.and_true,hrvs,XY,Ze,XJ])) ?_;simp only[AVal.cells];simp+decide only[ev,putD,Slots.put,Slots.get,if_true,if_false,true_and,↓qd,qb,setAt,List.set_cons_zero,List.set_cons_succ,Nat.zero_add,Nat.reduceAdd];refine qp (by rfl) (by rfl) zqA QI (by rfl) (by rfl) zqD (Nat.zero_le _) (by first|rfl|(simp+decide only[ev,putD,Slots.put,Slots.get,if_true,if_false,AVal.cells,QC,Bool.and_true,Bool.true_and,hvs,hrvs,XY,Ze,XJ])) ?_;simp only[AVal.cells];simp+decide only[qa,ev,putD,Slots.get,Slots.keep,if_true,if_false,setAt,List.set_cons_zero,List.set_cons_succ,Nat.zero_add,Nat.reduceAdd];apply hK;clear hK K;refine qK ?_;refine awp_rseq [0,5,6,7,8,9,10,11,23] (by rfl) fun K hK=>?_;simp+decide only[qa,ev,qH,qF,putD,Slots.put,Slots.get,Slots.keep,if_true,if_false,true_and,↓qG,qY,qg Xt QI,↓Qp,↓qW,ZJ,evP,List.map_nil,↓qA,ql,qR,cond_false,Yc,ne35,QP,qf,List.getD_cons_zero,List.getD_cons_succ,Nat.zero_add,Nat.reduceAdd,qi,allLive,Bool.and_true,WB];apply hK;clear hK K;refine qJ (b:=_) rfl (fun hb1=>?_) (fun hb1=>?_)
 ·try simp only[decide_eq_false_iff_not,Bool.not_eq_true']at hb1
  have hXb:X= .bad f:=by
   rcases hcase with⟨-,z⟩|⟨z,-⟩|⟨z,-⟩
   ·exact z
   ·exact absurd z hb1
   ·exact absurd z hb1
  refine Zk 2 [4,5] mixed (by kernel_rfl) (by rfl) (by rfl) fun K hK=>?_;simp+decide only[ev,qH,qF,putD,Slots.put,Slots.get,if_true,if_false,true_and,↓qG,qY,qg Xt QI,↓qd,qb,QP,qf,List.getD_cons_zero,List.getD_cons_succ,Nat.zero_add,Nat.reduceAdd,qi,allLive,Bool.and_true];refine qp (by rfl) (by rfl) zqA QI (by rfl) (by rfl) zqD (Nat.zero_le _) (by first|rfl|(simp+decide only[ev,putD,Slots.put,Slots.get,if_true,if_false,AVal.cells,QC,Bool.and_true,Bool.true_and,hvs,hrvs,XY,Ze,XJ])) ?_;simp only[AVal.cells];simp+decide only[qa,ev,putD,Slots.get,Slots.keep,if_true,if_false,setAt,List.set_cons_zero,List.set_cons_succ,Nat.zero_add,Nat.reduceAdd];apply hK;clear hK K;refine qO ?_;try simp only[Qi,Qw]
  refine QR (?_) ?_
  ·simp+decide only[QE,qw,qj,Slots.get,if_true,if_false,and_true,qw,qj,qg Xt QI,Qc,qf,List.getD_cons_zero,List.getD_cons_succ,Nat.zero_add,Nat.reduceAdd,qi,allLive,Bool.and_true,qf,List.getD_cons_zero,List.getD_cons_succ,Nat.zero_add,Nat.reduceAdd,qi,allLive,Bool.and_true]
  simp+decide only[Slots.get,if_true,if_false,Xj,qw,qj,qg Xt QI,Qc,qf,List.getD_cons_zero,List.getD_cons_succ,Nat.zero_add,Nat.reduceAdd,qi,allLive,Bool.and_true,qf,List.getD_cons_zero,List.getD_cons_succ,Nat.zero_add,Nat.reduceAdd,qi,allLive,Bool.and_true];have z36:=hEB3.none hn_3q6;have z37:=hEB3.none hn_3q7;exact⟨_,Sub.refl _,none,st, .nilSlice,f,trivial,⟨by omega,c,es,nb,heB,g3,zqB⟩,rfl, .inl ⟨hb1,hXb,rfl⟩⟩
 ·try simp only[decide_eq_true_eq,Bool.not_eq_false']at hb1
  obtain⟨hf0,bl,hbl5,hbll,hcase⟩:f=okF/\∃bl,IsL wz B 5 bv (bl.map QK)/\bl.length<=l.length/\((more=false/\X= .ok (out++bl) st)\/(more=true/\ci<l.length/\sm.ok=true/\t=sm.name/\j=sm.at_/\bl=qbn l i ci/\IsReps wz E rv sm.reps)):=by
   rcases hcase with⟨z,-⟩|⟨z1,z2,z3,z4⟩|⟨z1,z2,z3,z4,z5,z6,z7,z8⟩
   ·exact absurd (by simpa using hb1) z
   ·exact⟨z1,_,z4,by rw[List.length_drop];omega, .inl ⟨z2,z3⟩⟩
   ·exact⟨z1,_,z7,cutT_len _ _ _, .inr ⟨z2,z3,z4,z5,z6,rfl,z8⟩⟩
  refine qP ?_;change Awp _ _ _ _ _ _ _;obtain⟨C6,hC6⟩:∃C6,C6=(h3q0.set k3q6 ⟨[.int .u8 t.kind.toNat, .str t.text, .int .i64 t.line, .int .i64 t.col, .bool t.left,rv],0⟩).set k3q7 ⟨[.int .i64 f.e, .int .i64 f.line, .int .i64 f.col],0⟩:=⟨_,rfl⟩
  refine Awp.forget (h':=C6) (by rw[hC6];exact Sub.set_both (Sub.set_both (Sub.trans_set (Sub.set hn_3q6) hn_3q7) _ _) _ _) ?_;have h36:Sub h3q0 C6:=by rw[hC6];exact Sub.trans_set (Sub.set hn_3q6) hn_3q7
  have hs_C6:Sub B C6:=hs_h3q0.trans h36;have eb_x:C6 kx=some ⟨[mv, .map km,QA 1 nb, .int .i64 st.copies],0⟩:=h36 _ _ eb_x;have eb_m:C6 km=some (XH c (es.map opC)):=h36 _ _ eb_m;have eb_0q1:C6 k0q1=some ⟨[.int .i64 0, .int .i64 0, .int .i64 0],0⟩:=h36 _ _ eb_0q1;have eb_1q2:C6 k1q2=some ⟨[v, .int .i64 j],0⟩:=h36 _ _ eb_1q2;have eb_3q6:C6 k3q6=some ⟨[.int .u8 t.kind.toNat, .str t.text, .int .i64 t.line, .int .i64 t.col, .bool t.left,rv],0⟩:=by rw[hC6];exact zqA
  have eb_3q7:C6 k3q7=some ⟨[.int .i64 f.e, .int .i64 f.line, .int .i64 f.col],0⟩:=by rw[hC6];exact AHeap.set_same _ _ _
  have has6:=has3.mono h36;obtain⟨of1,of2⟩:=offB_has g4i has6;have nb_x:Um kx tb:=Wz g4i g2i.x;have nb_m:Um km tb:=Wz g4i g2i.m;have nb_0:Um k0q1 tb:=Wz g4i (g2i.above _ _ gb_0);have nb_1:Um k1q2 tb:=Wz g4i (g2i.above _ _ gb_1);have nb_6:Um k3q6 tb:=noBlk_has has3 hn_3q6;have nb_7:Um k3q7 tb:=noBlk_has has3 hn_3q7;have of_x:=UA eb_x nb_x;have of_m:=UA eb_m nb_m;have of_0:=UA eb_0q1 nb_0;have of_1:=UA eb_1q2 nb_1;have of_6:=UA eb_3q6 nb_6;have of_7:=UA eb_3q7 nb_7;have of_B:Sub B (qaU C6 tb):=qcH hs_C6 hokB0;have of_E:Sub E (qaU C6 tb):=qcH (hE3s.trans h36) (bufOk_newE hokB0 hE3 has1);have of_X:Sub (ZN B kx km mv c es nb st.copies) (qaU C6 tb):=qcH (hEB3.trans h36) hokB;refine awp_rseq [0,5,6,7,9,10,11] (by rfl) fun K hK=>?_;simp+decide only[ev,putD,Slots.put,Slots.get,if_true,if_false,true_and,↓qh,qc];refine Xu (es:=5) (zs:=out.map QK) (xs:=bl.map QK) (hZ:=qaU C6 tb) (b:=tb) (by rfl) (by rfl) Tryz.underlying26 Tryz.underlying26 (fun k e=>by cases e) Xa by54 qam (by rfl) (by decide) (by rfl) of1 g5 Xc of2 (by rfl) (hbl5.mono hs_C6) (by rw[Yo];intro z hz;obtain⟨t,_,rfl⟩:=List.mem_map.1 hz;rfl) (by simp;omega) (by simp;omega) fun tb2 h6 o1 o2 o3=>?_;have sub6:Sub (qaU C6 tb) h6:=(Sub.buf o1).trans o3;have hs_h6:Sub B h6:=of_B.trans sub6;have eb_x:=sub6 _ _ of_x;have eb_m:=sub6 _ _ of_m;have eb_0q1:=sub6 _ _ of_0;have eb_1q2:=sub6 _ _ of_1;have eb_3q6:=sub6 _ _ of_6;have eb_3q7:=sub6 _ _ of_7;have hbl:=QV 5 tb2;simp+decide only[qa,ev,putD,Slots.put,Slots.get,Slots.keep,if_true,if_false,true_and,↓qd,qb];apply hK;clear hK K;refine qK ?_;refine awp_rseq [0,5,6,7,9,11,29] (by rfl) fun K hK=>?_;simp+decide only[qa,ev,putD,Slots.put,Slots.get,Slots.keep,if_true,if_false,true_and,↓qh,qc,↓YA,XU,Yi];apply hK;clear hK K;refine qJ (b:=_) rfl (fun hb2=>?_) (fun hb2=>?_)
  ·try simp only[Bool.not_eq_true']at hb2
   have hXo:X= .ok (out++bl) st:=by
    rcases hcase with⟨-,z⟩|⟨z,-⟩
    ·exact z
    ·rw[z]at hb2;cases hb2
   refine awp_rseq [4,5] (by rfl) fun K hK=>?_;simp+decide only[ev,qH,qF,putD,Slots.put,Slots.get,if_true,if_false,true_and,↓qh,qc,↓Qp,↓qW,ZJ,evP,List.map_nil,↓qd,qb];refine qp (by rfl) (by rfl) zqA QI (by rfl) (by rfl) zqD (Nat.zero_le _) (by first|rfl|(simp+decide only[ev,putD,Slots.put,Slots.get,if_true,if_false,AVal.cells,QC,Bool.and_true,Bool.true_and,hvs,hrvs,XY,Ze,XJ])) ?_;simp only[AVal.cells];simp+decide only[qa,ev,putD,Slots.get,Slots.keep,if_true,if_false,setAt,List.set_cons_zero,List.set_cons_succ,Nat.zero_add,Nat.reduceAdd];apply hK;clear hK K;refine qO ?_;try simp only[Qi,Qw]
   refine QR (?_) ?_
   ·simp+decide only[QE,qw,qj,Slots.get,if_true,if_false,and_true,qw,qj,qg Xt QI,Qc,qf,List.getD_cons_zero,List.getD_cons_succ,Nat.zero_add,Nat.reduceAdd,qi,allLive,Bool.and_true,qf,List.getD_cons_zero,List.getD_cons_succ,Nat.zero_add,Nat.reduceAdd,qi,allLive,Bool.and_true]
   simp+decide only[Slots.get,if_true,if_false,Xj,qw,qj,qg Xt QI,Qc,qf,List.getD_cons_zero,List.getD_cons_succ,Nat.zero_add,Nat.reduceAdd,qi,allLive,Bool.and_true,qf,List.getD_cons_zero,List.getD_cons_succ,Nat.zero_add,Nat.reduceAdd,qi,allLive,Bool.and_true];obtain⟨e1,e2⟩:=heB.buf of_X o1;have hob:bufOk B 5 tb2:=o1.sub of_B;refine⟨_,Sub.refl _,tb2,st,QA 5 tb2,okF,hob,⟨by omega,c,es,nb,e2,g3,Sub.trans_set (by rw[e1];exact(Sub.bufBoth of_X).trans o3) (by rw[e1];exact bufH_off zB0 of_0 o1)⟩,rfl, .inr ⟨rfl,out++bl,hXo,?_,by rw[List.length_append];omega,g7,g8⟩⟩;exact IsL.buf (hob.sub (qdK _)) (by decide) (by rw[o2,List.map_append,List.flatten_append]) Xc (Sub.refl _)
  ·try simp only[Bool.not_eq_false']at hb2
   obtain⟨m2,m3,rfl,m5,m6,hrp⟩:ci<l.length/\sm.ok=true/\t=sm.name/\j=sm.at_/\bl=qbn l i ci/\IsReps wz E rv sm.reps:=by
    rcases hcase with⟨z,-⟩|⟨-,z⟩
    ·rw[z]at hb2;cases hb2
    ·exact z
   have hm0:=hstm m2;rw[if_neg (by omega),if_neg (by rw[m3];decide)]at hstp;obtain⟨Bc,hBc⟩:∃Bc,Bc=qak h6 kx km nb:=⟨_,rfl⟩
   have heBc:ExOk Bc kx km nb st.names:=by rw[hBc];exact base_ok heB
   have hsBc:Sub (ZN Bc kx km mv c es nb st.copies) h6:=by rw[hBc];exact base_sub heB (of_X.trans sub6)
   have bc_B:Sub B Bc:=by rw[hBc];exact base_above heB (fun j d hj=>qee heB hj) hs_h6
   have bc_E:Sub E Bc:=by rw[hBc];exact base_above heB (fun j d hj=>qee (heB.newE hE3 hEB1) hj) (of_E.trans sub6)
   have bc_0:Bc k0q1=some ⟨[.int .i64 0, .int .i64 0, .int .i64 0],0⟩:=by
    obtain⟨a1,a2,a3⟩:=qee g2i gb_0;rw[hBc];exact qfa eb_0q1 a1 a2 a3
   have bc_1:Bc k1q2=some ⟨[v, .int .i64 j],0⟩:=by
    obtain⟨a1,a2,a3⟩:=qee g2i gb_1;rw[hBc];exact qfa eb_1q2 a1 a2 a3
   have bc_6:Bc k3q6=some ⟨[.int .u8 sm.name.kind.toNat, .str sm.name.text, .int .i64 sm.name.line, .int .i64 sm.name.col, .bool sm.name.left,rv],0⟩:=by
    obtain⟨a1,a2,a3⟩:=qed heB hEB3 hn_3q6;rw[hBc];exact qfa eb_3q6 a1 a2 a3
   have bc_7:Bc k3q7=some ⟨[.int .i64 f.e, .int .i64 f.line, .int .i64 f.col],0⟩:=by
    obtain⟨a1,a2,a3⟩:=qed heB hEB3 hn_3q7;rw[hBc];exact qfa eb_3q7 a1 a2 a3
   have bc_tb:hasB Bc tb2:=fun b e=>by
    subst e;obtain⟨a1,a2,a3⟩:=qed heB of_X o1.1;rw[hBc];exact qfa (o3 _ _ (AHeap.set_same _ _ _)) a1 a2 a3
   have nb2_x:Um kx tb2:=Wz o1 of_x;have nb2_m:Um km tb2:=Wz o1 of_m;have nb2_0:Um k0q1 tb2:=Wz o1 of_0;have nb2_1:Um k1q2 tb2:=Wz o1 of_1;have nb2_6:Um k3q6 tb2:=Wz o1 of_6;have nb2_7:Um k3q7 tb2:=Wz o1 of_7;refine qP ?_;change Awp _ _ _ _ _ _ _;refine awp_rseq [0,5,6,7,9,11,12] (by rfl) fun K hK=>?_;simp+decide only[ev,putD,Slots.put,Slots.get,if_true,if_false,true_and,↓qh,qc,↓qG,qY,qg qdz qab,Qy wz eb_3q6,qf,List.getD_cons_zero,List.getD_cons_succ,Nat.zero_add,Nat.reduceAdd,qD,qi,qE,allLive,Bool.and_true,hrvl];refine QN (by rfl) (by rfl) (c_member wz h6 Bc kx km mv mems op st sm rv rec ⟨by omega,c,es,nb,heBc,g3,hsBc⟩ (hms.mono bc_B) hml hmt (hrp.mono bc_E) (fun x hx=>by have:=hrps.1 x hx;omega) (by have:=hrps.2;omega) hm0.2.2.2 g7 g8 hop8 (fun h8=>hrec h8 sm.name.text)) fun x9q2 h9q2 hx9q2=>?_;obtain⟨tb0,st2,bv2,bf,htb0,hxr,rfl,hcase2⟩:=hx9q2;obtain⟨B2,hB2⟩:∃B2,B2=QG Bc tb0:=⟨_,rfl⟩
   rw[<-hB2]at hxr;obtain⟨hfew2,c2,es2,nb2,he2,hop2,hs2⟩:=hxr;have hsB2:Sub Bc B2:=by rw[hB2];exact Sub.buf htb0
   have bB2:Sub B B2:=bc_B.trans hsB2;have hs2h:Sub B2 h9q2:=he2.above.trans hs2;have hs_h9q2:Sub B h9q2:=bB2.trans hs2h;have eb_x:h9q2 kx=some ⟨[mv, .map km,QA 1 nb2, .int .i64 st2.copies],0⟩:=hs2 _ _ he2.x;have eb_m:h9q2 km=some (XH c2 (es2.map opC)):=hs2 _ _ he2.m;have eb_0q1:=hs2h _ _ (hsB2 _ _ bc_0);have eb_1q2:=hs2h _ _ (hsB2 _ _ bc_1);have eb_3q6:=hs2h _ _ (hsB2 _ _ bc_6);have eb_3q7:=hs2h _ _ (hsB2 _ _ bc_7);have heB2:ExOk B kx km nb2 st2.names:=he2.down bB2;have hEB9:Sub (ZN B kx km mv c2 es2 nb2 st2.copies) h9q2:=(qcL bB2).trans hs2;have y0:ZN B kx km mv c2 es2 nb2 st2.copies k0q1=none:=he2.off (hsB2 _ _ bc_0) hf_0q1;have y7:ZN B kx km mv c2 es2 nb2 st2.copies k3q7=none:=he2.off (hsB2 _ _ bc_7) hf_3q7;have has9:hasB h9q2 tb2:=bc_tb.mono (hsB2.trans hs2h);have hbv2l:bv2.live=true:=by
    rcases hcase2 with⟨-,-,w3⟩|⟨-,inn,-,w3,-⟩
    ·rw[w3];rfl
    ·exact w3.live
   simp+decide only[ev,putD,Slots.put,Slots.get,if_true,if_false,true_and,↓qh,qc,↓QW,QH,QS,List.length_cons,List.length_nil,List.getD_cons_zero,List.getD_cons_succ,↓qd,qb,List.getD_cons_zero,List.getD_cons_succ,Nat.zero_add,Nat.reduceAdd,Qz];refine qp (by rfl) (by rfl) zqA QI (by rfl) (by rfl) zqD (Nat.zero_le _) (by first|rfl|(simp+decide only[ev,putD,Slots.put,Slots.get,if_true,if_false,AVal.cells,QC,Bool.and_true,Bool.true_and,hvs,hrvs,XY,Ze,XJ])) ?_;simp only[AVal.cells];simp+decide only[qa,ev,putD,Slots.get,Slots.keep,if_true,if_false,setAt,List.set_cons_zero,List.set_cons_succ,Nat.zero_add,Nat.reduceAdd];apply hK;clear hK K;refine qK ?_;refine awp_rseq [0,5,6,7,9,11,12,40] (by rfl) fun K hK=>?_;simp+decide only[qa,ev,qH,qF,putD,Slots.put,Slots.get,Slots.keep,if_true,if_false,true_and,↓qG,qY,qg Xt QI,↓Qp,↓qW,ZJ,evP,List.map_nil,↓qA,ql,qR,cond_false,Yc,ne35,QP,qf,List.getD_cons_zero,List.getD_cons_succ,Nat.zero_add,Nat.reduceAdd,qi,allLive,Bool.and_true,WB];apply hK;clear hK K;refine qJ (b:=_) rfl (fun hb3=>?_) (fun hb3=>?_)
   ·try simp only[decide_eq_false_iff_not,Bool.not_eq_true']at hb3
    obtain⟨w1,w2,w3⟩:bf≠okF/\qai true mems op rec sm st= .bad bf/\bv2= .nilSlice:=by
     rcases hcase2 with z|⟨z,-⟩
     ·exact z
     ·exact absurd z hb3
    rw[w2]at hstp;simp only at hstp;refine Zk 2 [4,5] mixed (by kernel_rfl) (by rfl) (by rfl) fun K hK=>?_;simp+decide only[ev,qH,qF,putD,Slots.put,Slots.get,if_true,if_false,true_and,↓qG,qY,qg Xt QI,↓qd,qb,QP,qf,List.getD_cons_zero,List.getD_cons_succ,Nat.zero_add,Nat.reduceAdd,qi,allLive,Bool.and_true];refine qp (by rfl) (by rfl) zqA QI (by rfl) (by rfl) zqD (Nat.zero_le _) (by first|rfl|(simp+decide only[ev,putD,Slots.put,Slots.get,if_true,if_false,AVal.cells,QC,Bool.and_true,Bool.true_and,hvs,hrvs,XY,Ze,XJ])) ?_;simp only[AVal.cells];simp+decide only[qa,ev,putD,Slots.get,Slots.keep,if_true,if_false,setAt,List.set_cons_zero,List.set_cons_succ,Nat.zero_add,Nat.reduceAdd];apply hK;clear hK K;refine qO ?_;try simp only[Qi,Qw]
    refine QR (?_) ?_
    ·simp+decide only[QE,qw,qj,Slots.get,if_true,if_false,and_true,qw,qj,qg Xt QI,Qc,qf,List.getD_cons_zero,List.getD_cons_succ,Nat.zero_add,Nat.reduceAdd,qi,allLive,Bool.and_true,qf,List.getD_cons_zero,List.getD_cons_succ,Nat.zero_add,Nat.reduceAdd,qi,allLive,Bool.and_true]
    simp+decide only[Slots.get,if_true,if_false,Xj,qw,qj,qg Xt QI,Qc,qf,List.getD_cons_zero,List.getD_cons_succ,Nat.zero_add,Nat.reduceAdd,qi,allLive,Bool.and_true,qf,List.getD_cons_zero,List.getD_cons_succ,Nat.zero_add,Nat.reduceAdd,qi,allLive,Bool.and_true];exact⟨_,Sub.refl _,none,st2, .nilSlice,bf,trivial,⟨hfew2,c2,es2,nb2,heB2,hop2,Sub.trans_set (Sub.trans_set hEB9 y7) y0⟩,rfl, .inl ⟨w1,hstp,rfl⟩⟩
   ·try simp only[decide_eq_true_eq,Bool.not_eq_false']at hb3
    obtain⟨w1,inn,w2,w3,w4,w5,w6⟩:bf=okF/\∃inn,qai true mems op rec sm st= .ok inn st2/\IsL wz (QG (fun _=>none) tb0) 5 bv2 (inn.map QK)/\inn.length<=200000/\st2.names.length<=st2.copies/\st2.copies<=4096:=by
     rcases hcase2 with⟨z,-⟩|z
     ·exact absurd (by simpa using hb3) z
     ·exact z
    rw[w2]at hstp;simp only at hstp;refine qP ?_;change Awp _ _ _ _ _ _ _;obtain⟨C12,hC12⟩:∃C12,C12=h9q2.set k3q7 ⟨[.int .i64 bf.e, .int .i64 bf.line, .int .i64 bf.col],0⟩:=⟨_,rfl⟩
    refine Awp.forget (h':=C12) (by rw[hC12];exact Sub.refl _) ?_;have hs_C12:Sub B C12:=by rw[hC12];exact zqB
    have eb_x:C12 kx=some ⟨[mv, .map km,QA 1 nb2, .int .i64 st2.copies],0⟩:=by rw[hC12];exact zqA
    have eb_m:C12 km=some (XH c2 (es2.map opC)):=by rw[hC12];exact zqA
    have eb_0q1:C12 k0q1=some ⟨[.int .i64 0, .int .i64 0, .int .i64 0],0⟩:=by rw[hC12];exact zqA
    have eb_1q2:C12 k1q2=some ⟨[v, .int .i64 j],0⟩:=by rw[hC12];exact zqA
    have eb_3q6:C12 k3q6=some ⟨[.int .u8 sm.name.kind.toNat, .str sm.name.text, .int .i64 sm.name.line, .int .i64 sm.name.col, .bool sm.name.left,rv],0⟩:=by rw[hC12];exact(AHeap.set_ne _ _ ne_3q7_3q6.symm).trans eb_3q6
    have has12:hasB C12 tb2:=by rw[hC12];exact has9.set nb2_7 _
    obtain⟨p1,p2⟩:=offB_has o1 has12;have pf_x:=UA eb_x nb2_x;have pf_m:=UA eb_m nb2_m;have pf_0:=UA eb_0q1 nb2_0;have pf_1:=UA eb_1q2 nb2_1;have pf_6:=UA eb_3q6 nb2_6;have w3':IsL wz C12 5 bv2 (inn.map QK):=w3.mono (fun j d hj=>by
     cases tb0 with
     |none=>cases hj
     |some b=>
      have hjb:j=b.blk:=by
       rcases Nat.decEq j b.blk with e|e
       ·rw[show QG (fun _=>none) (some b)=AHeap.set (fun _=>none) b.blk ⟨b.cells,0⟩from rfl,AHeap.set_ne _ _ e]at hj
        cases hj
       ·exact e
      have h7:j≠k3q7:=fun e=>by
       have:=htb0.1;rw[<-hjb,e,bc_7]at this;cases this
      rw[hC12,AHeap.set_ne _ _ h7];refine hs2h _ _ ?_;rw[hB2];exact Sub.bufBoth (qdK _) _ _ hj)
    refine awp_rseq [0,5,6,7,9] (by rfl) fun K hK=>?_;simp+decide only[ev,putD,Slots.put,Slots.get,if_true,if_false,true_and,↓qh,qc];refine Xu (es:=5) (zs:=(out++bl).map QK) (xs:=inn.map QK) (hZ:=qaU C12 tb2) (b:=tb2) (by rfl) (by rfl) Tryz.underlying26 Tryz.underlying26 (fun k e=>by cases e) Xa by54 qam (by rfl) (by decide) (by rfl) p1 (by rw[o2,List.map_append]) Xc p2 (by rfl) w3' (by rw[Yo];intro z hz;obtain⟨t,_,rfl⟩:=List.mem_map.1 hz;rfl) (by simp;omega) (by simp;omega) fun tb3 h12 o4 o5 o6=>?_;have sub12:Sub (qaU C12 tb2) h12:=(Sub.buf o4).trans o6;have hs_h12:Sub B h12:=(qcH hs_C12 (o1.sub of_B)).trans sub12;have eb_x:=sub12 _ _ pf_x;have eb_m:=sub12 _ _ pf_m;have eb_0q1:=sub12 _ _ pf_0;have eb_1q2:=sub12 _ _ pf_1;have eb_3q6:=sub12 _ _ pf_6;have hbl:=QV 5 tb3;have nbl3:=Zp (l:=out++bl++inn) (IsL.buf (wz:=wz) o4 (by decide) (by rw[o5,List.map_append (l₁:=out++bl)]) Xc (Sub.refl _));simp+decide only[qa,ev,putD,Slots.put,Slots.get,Slots.keep,if_true,if_false,true_and,↓qd,qb];apply hK;clear hK K;refine awp_rseq [0,5,6,7,9,47] (by rfl) fun K hK=>?_;simp+decide only[qa,ev,qH,qF,putD,Slots.put,Slots.get,Slots.keep,if_true,if_false,true_and,↓qh,qc,↓Xo,QD,↓qA,ql,qB,cond_false,qo,UV,nbl3];apply hK;clear hK K;refine qJ (b:=_) rfl (fun hb4=>?_) (fun hb4=>?_)
    ·try simp only[decide_eq_true_eq]at hb4
     rw[<-m6,if_pos (by unfold qcY;rw[Bool.true_and,decide_eq_true_eq];omega)]at hstp;refine Zk 5 [4,5] mixed (by kernel_rfl) (by rfl) (by rfl) fun K hK=>?_;simp+decide only[ev,qH,qF,putD,Slots.put,Slots.get,if_true,if_false,true_and,↓qC,qm,fa91_0,fa54_2,↓qG,qY,qg ag33 qbf,↓Qp,↓qW,UE,evP,List.map_cons,List.map_nil,↓qd,qb,Qy wz eb_3q6,qf,List.getD_cons_zero,List.getD_cons_succ,Nat.zero_add,Nat.reduceAdd,qi,allLive,Bool.and_true];refine qp (by rfl) (by rfl) zqA QI (by rfl) (by rfl) zqD (Nat.zero_le _) (by first|rfl|(simp+decide only[ev,putD,Slots.put,Slots.get,if_true,if_false,AVal.cells,QC,Bool.and_true,Bool.true_and,hvs,hrvs,XY,Ze,XJ])) ?_;simp only[AVal.cells];simp+decide only[qa,ev,putD,Slots.get,Slots.keep,if_true,if_false,setAt,List.set_cons_zero,List.set_cons_succ,Nat.zero_add,Nat.reduceAdd];apply hK;clear hK K;refine qO ?_;try simp only[Qi,Qw]
     refine QR (?_) ?_
     ·simp+decide only[QE,qw,qj,Slots.get,if_true,if_false,and_true,qw,qj,qg Xt QI,Qc,qf,List.getD_cons_zero,List.getD_cons_succ,Nat.zero_add,Nat.reduceAdd,qi,allLive,Bool.and_true,qf,List.getD_cons_zero,List.getD_cons_succ,Nat.zero_add,Nat.reduceAdd,qi,allLive,Bool.and_true]
     simp+decide only[Slots.get,if_true,if_false,Xj,qw,qj,qg Xt QI,Qc,qf,List.getD_cons_zero,List.getD_cons_succ,Nat.zero_add,Nat.reduceAdd,qi,allLive,Bool.and_true,qf,List.getD_cons_zero,List.getD_cons_succ,Nat.zero_add,Nat.reduceAdd,qi,allLive,Bool.and_true];have hEB12:Sub (ZN B kx km mv c2 es2 nb2 st2.copies) (qaU C12 tb2):=qcH (by rw[hC12];exact Sub.trans_set hEB9 y7) (bufOk_at o1 fun b e=>he2.off (hsB2 _ _ (bc_tb b e)) (by subst e;exact of_B.none o1.1));exact⟨_,Sub.refl _,none,st2, .nilSlice,⟨3,sm.name.line,sm.name.col⟩,trivial,⟨hfew2,c2,es2,nb2,heB2,hop2,Sub.trans_set (hEB12.trans sub12) y0⟩,rfl, .inl ⟨fun e=>absurd (congrArg FaultC.e e) (by simp[okF]),hstp,rfl⟩⟩
    ·try simp only[decide_eq_false_iff_not]at hb4
     rw[<-m6,if_neg (by unfold qcY;rw[Bool.true_and,decide_eq_true_eq];omega),<-m5]at hstp;refine qP ?_;try simp only[Qg,YO]
     have hG2:Sub ((B.set k0q1 ⟨[.int .i64 0, .int .i64 0, .int .i64 0],0⟩).set k1q2 ⟨[v, .int .i64 j],0⟩) B2:=sub_set_in (sub_set_in bB2 (hsB2 _ _ bc_0)) (hsB2 _ _ bc_1);have hGC:Sub (ZN ((B.set k0q1 ⟨[.int .i64 0, .int .i64 0, .int .i64 0],0⟩).set k1q2 ⟨[v, .int .i64 j],0⟩) kx km mv c2 es2 nb2 st2.copies) (qaU C12 tb2):=by
      refine qcH (by rw[hC12];exact Sub.trans_set ((qcL hG2).trans hs2) (he2.off (hsB2 _ _ bc_7) ((AHeap.set_ne _ _ ne_3q7_1q2).trans ((AHeap.set_ne _ _ ne_3q7_0q1).trans hf_3q7)))) (bufOk_at o1 fun b e=>he2.off (hsB2 _ _ (bc_tb b e)) ?_);subst e;exact(AHeap.set_ne _ _ (Ne.symm nb2_1)).trans ((AHeap.set_ne _ _ (Ne.symm nb2_0)).trans (of_B.none o1.1))
     exact⟨⟨j,c2,es2,nb2,st2,tb3,out++bl++inn⟩,rfl,(Sub.bufBoth hGC).trans o6,⟨hj,fun Y=>(he2.down hG2).same (swap_none _ _),hop2,fun Y=>bufOk_same (o4.sub hGC) (expH_same (swap_none _ _)),by rw[o5,List.map_append (l₁:=out++bl)],by simp only;omega,w5,w6,hstp.symm⟩,by simp only;omega⟩
end Go.Proofs.YtlhhaagmakhilaaGreatDoor
namespace Go.Proofs.YtlhhaagmakhilaaGreatDoor
open Go.AM
open Go.Proofs
open Go.Col (Str FaultC okF)
open Go.Tok
open Go.Cop
open Go.RowKit (Below)
set_option maxRecDepth 100000
theorem c_list(wz:World)(kx km:Nat)(mv:AVal)(mems:List MemC)(hml:mems.length<=1000000)(hmt:∀m∈mems,m.toks.length<=100000):∀(d:Nat) (op:List Str),8<=d+op.length->RecOk wz kx km mv mems op (qfp true mems d)
 |0,op,hd=>fun h8 h B v l st hx hms hv hl h1 h2=>c_listS wz h B kx km mv mems op st v l (fun _ _ st=> .ok [] st) hx hms hml hmt hv hl h1 h2 h8 (fun hlt=>by omega)
 |d+1,op,hd=>fun h8 h B v l st hx hms hv hl h1 h2=>c_listS wz h B kx km mv mems op st v l (qfp true mems d) hx hms hml hmt hv hl h1 h2 h8 (fun hlt nm=>c_list wz kx km mv mems hml hmt d (op++[nm]) (by rw[List.length_append,List.length_singleton];omega))
theorem okCapG{wz:World}{h:AHeap}{es:Nat}{v:AVal}{xs:List (List AVal)}(hes:0<es)(hb:IsL wz h es v xs):(Yt v).okIn (fun k=>(h k).isSome):=by
 cases hb with
 |nil=>simp only[Yt,AVal.okIn]
 |mk l o n c xs hn hw hc hl hcap=>
  cases l with
  |base b=>simp only[Yt,AVal.okIn]
  |own k=>
   simp only[Yt,AVal.okIn];intro h0;cases hk:h k with
   |some b=>rfl
   |none=>
    obtain⟨m,rfl⟩:∃m,n=m+1:=⟨n-1,by omega⟩
    obtain⟨e,rfl⟩:∃e,es=e+1:=⟨es-1,by omega⟩
    rw[show(m+1)*(e+1)=(m*(e+1)+e)+1 by rw[Nat.succ_mul];omega,qf]at hc;rw[<-hc]at hl;simp[allLive,rd,hk,AVal.live]at hl
theorem sub_ebuf{H:AHeap}{tb:Option Buf}(hh:hasB H tb):Sub (QG (fun _=>none) tb) H:=fun j d hj=>by
 cases tb with
 |none=>cases hj
 |some b=>
  rcases Nat.decEq j b.blk with e|e
  ·rw[show QG (fun _=>none) (some b)=AHeap.set (fun _=>none) b.blk ⟨b.cells,0⟩from rfl,AHeap.set_ne _ _ e]at hj
   cases hj
  ·subst e
   rw[show QG (fun _=>none) (some b)=AHeap.set (fun _=>none) b.blk ⟨b.cells,0⟩from rfl,AHeap.set_same]at hj;rw[<-hj];exact hh b rfl
theorem nam_len{wz:World}{h:AHeap}{v:AVal}{l:List Str}(hv:IsL wz h 1 v (l.map namC)):∀H:AHeap,Ye Tryz.prog H 30 v=⟨True, .int .i64 l.length⟩:=by
 have:=hv.len Tryz.underlying30
 rwa [List.length_map]at this
theorem c_clipN(wz:World)(h:AHeap)(v:AVal)(l:List Str)(hv:IsL wz h 1 v (l.map namC)):ACall Tryz.prog wz 34 [v] h (fun r h'=>r=Yt v/\h'=h):=by
 have hlen:=nam_len hv;have h3:=hv.slice3 Tryz.underlying30 sz9 .i64 .i64 none rfl;rw[List.length_map]at h3;have hlv:=hv.live;refine qU (n:=9) (rs:=[.tmp 2]) Tryz.func34 rfl rfl rfl rfl (Nat.le_of_ble_eq_true rfl) ?_;simp only[Qe];refine awp_rseq [0] (by rfl) fun K hK=>?_;simp+decide only[qa,ev,qH,qF,putD,Slots.put,Slots.keep,if_true,if_false,true_and,↓qd,qb];apply hK;clear hK K;refine awp_rseq [2] (by rfl) fun K hK=>?_;simp+decide only[qa,ev,putD,Slots.put,Slots.get,Slots.keep,if_true,if_false,true_and,↓qh,qc,↓Xo,QD,↓Ua,Zu,evO,↓qd,qb,hlen,h3];apply hK;clear hK K;refine qO ?_;refine Qa _ (Sub.refl _) (qZ (Qd)) ?_;simp+decide only[Slots.get,if_true,and_true,Qr];all_goals first|rfl|exact⟨rfl,rfl⟩|(simp+decide only[if_true,if_false, *];done)|(trace_state;fail)
def ExpandR(wz:World)(h:AHeap)(x:Xr)(r:AVal)(h':AHeap):Prop:=
 ∃(ov nv:AVal) (f:FaultC),r= .tuple [ov,nv,Qz f]/\Sub h h'/\Yt ov=ov/\Yt nv=nv/\((f≠okF/\x= .bad f/\ov= .nilSlice/\nv= .nilSlice)\/(f=okF/\∃out st,x= .ok out st/\IsL wz h' 5 ov (out.map QK)/\IsL wz h' 1 nv (st.names.map namC)/\out.length<=200000/\st.names.length<=4096))
set_option maxHeartbeats 2000000 in
theorem qes(wz:World)(h:AHeap)(lv mv:AVal)(l:List TokC)(mems:List MemC)(hlv:IsL wz h 5 lv (l.map QK))(hms:IsMems wz h mv mems)(hl:l.length<=100000)(hml:mems.length<=1000000)(hmt:∀m∈mems,m.toks.length<=100000):
 ACall Tryz.prog wz 13 [lv,mv] h (ExpandR wz h (UR true l mems)):=by
 have hll:=hlv.live;obtain⟨qs,hqs,hq2,hq3⟩:=hms;have hmvs:=hq2.scal;have hmvl:=Yj hmvs;have hSm:Sc mv=True:=eq_true (isL_Sc hq2);have hSk:∀k,Sc (.map k)=True:=fun k=>eq_true trivial;have hbvl:(AVal.bool true).live=true:=rfl;have hbnl:(AVal.bool true).live=true:=rfl;have hccl:∀v:AVal,v.live=true->(Yt v).live=true:=fun v hv=>by cases v<;>exact hv
 have hc1:(AVal.bool true).live=true:=rfl;have hc2:(AVal.bool true).live=true:=rfl;obtain⟨X,hX⟩:∃X,X=UR true l mems:=⟨_,rfl⟩
 rw[<-hX];refine qU (n:=28) (rs:=[.tmp 4, .tmp 5, .cell 6 35]) Tryz.func13 rfl rfl rfl rfl (Nat.le_of_ble_eq_true rfl) ?_;simp only[Qe];refine awp_rseq [0,1,6] (by rfl) fun K hK=>?_;simp+decide only[ev,qH,qF,putD,Slots.put,if_false,true_and,↓qd,qb,Nat.zero_add];refine Qj qbc (cs:=[.int .i64 0, .int .i64 0, .int .i64 0]) (by rfl) fun k0q2 hk0q2=>?_;try have hf_0q2:h k0q2=none:=by first|assumption|(simp only[AHeap.set_none]at hk0q2;simp only[hk0q2])
 simp+decide only[qa,putD,Slots.put,Slots.keep,if_true,if_false];apply hK;clear hK K;refine awp_rseq [0,6,7] (by rfl) fun K hK=>?_;simp+decide only[ev,putD,Slots.put,Slots.get,if_true,if_false,true_and,↓qh,qc];refine aOps_makeMap fun k1q1 hk1q1=>?_;have ne_1q1_0q2:k1q1≠k0q2:=by simp only[AHeap.set_none]at hk1q1;simp only[hk1q1,ne_eq,not_false_eq_true]
 try have hf_1q1:h k1q1=none:=by first|assumption|(simp only[AHeap.set_none]at hk1q1;simp only[hk1q1])
 simp+decide only[ev,qH,qF,putD,Slots.put,Slots.get,if_true,if_false,true_and,↓Qp,↓qW,bld76_0_1,evP,List.map_cons,List.map_nil,hSm,hSk];refine Qj ze76 (cs:=[.nilSlice, .nilMap, .nilSlice, .int .i64 0]) (by rfl) fun k1q3 hk1q3=>?_;have ne_1q3_0q2:k1q3≠k0q2:=by simp only[AHeap.set_none]at hk1q3;simp only[hk1q3,ne_eq,not_false_eq_true]
 have ne_1q3_1q1:k1q3≠k1q1:=by simp only[AHeap.set_none]at hk1q3;simp only[hk1q3,ne_eq,not_false_eq_true]
 try have hf_1q3:h k1q3=none:=by first|assumption|(simp only[AHeap.set_none]at hk1q3;simp only[hk1q3])
 refine qp (by rfl) (by rfl) zqA sz76 (by rfl) (by rfl) zqD (Nat.zero_le _) (by first|rfl|(simp+decide only[ev,putD,Slots.put,Slots.get,if_true,if_false,AVal.cells,QC,Bool.and_true,Bool.true_and,hmvs,XY,sc_map])) ?_;simp only[AHeap.set_set,AVal.cells];simp+decide only[qa,ev,putD,Slots.put,Slots.get,Slots.keep,if_true,if_false,setAt,List.set_cons_zero,List.set_cons_succ,Nat.zero_add,Nat.reduceAdd];apply hK;clear hK K;obtain⟨B,hB⟩:∃B,B=h.set k0q2 ⟨[.int .i64 0, .int .i64 0, .int .i64 0],0⟩:=⟨_,rfl⟩
 have hs_hB:Sub h B:=by rw[hB];exact Sub.set hf_0q2
 have b_m:B k1q1=none:=by rw[hB];exact(AHeap.set_ne _ _ ne_1q1_0q2).trans hf_1q1
 have b_x:B k1q3=none:=by rw[hB];exact(AHeap.set_ne _ _ ne_1q3_0q2).trans hf_1q3
 have b_0:B k0q2=some ⟨[.int .i64 0, .int .i64 0, .int .i64 0],0⟩:=by rw[hB];exact AHeap.set_same _ _ _
 have heB:ExOk B k1q3 k1q1 none []:=⟨b_m,b_x,ne_1q3_1q1.symm,fun M=>⟨(AHeap.set_ne _ _ ne_1q3_1q1).trans b_x,fun _=>trivial,rfl⟩⟩
 rw[<-hB];have hlist:=c_list wz k1q3 k1q1 mv mems hml hmt 8 [] (by simp) (by simp);refine awp_rseq [6,7,8,9] (by rfl) fun K hK=>?_;simp+decide only[ev,putD,Slots.put,Slots.get,if_true,if_false,true_and,↓qh,qc];refine QN (by rfl) (by rfl) (hlist _ B lv l ⟨[],0⟩ ⟨Nat.zero_le _,0,[],none,heB,rfl,Sub.refl _⟩ ⟨qs,hqs,hq2.mono hs_hB,fun q hq=>(hq3 q hq).mono hs_hB⟩ (hlv.mono hs_hB) hl (Nat.le_refl _) (by decide)) fun x2q1 h2q1 hx2q1=>?_;obtain⟨tb,st,bv,bf,htb,⟨hfew,c2,es2,nb,he2,hop2,hs2⟩,rfl,hcase⟩:=hx2q1;rw[show qfp true mems 8 l [] ⟨[],0⟩=X from hX.symm]at hcase;have hs2h:Sub (QG B tb) h2q1:=he2.above.trans hs2;have hs_h2q1:Sub h h2q1:=(hs_hB.trans (Sub.buf htb)).trans hs2h;have eb_1q3:h2q1 k1q3=some ⟨[mv, .map k1q1,QA 1 nb, .int .i64 st.copies],0⟩:=hs2 _ _ he2.x;have eb_0q2:h2q1 k0q2=some ⟨[.int .i64 0, .int .i64 0, .int .i64 0],0⟩:=hs2h _ _ (ZR htb b_0);have hbvl:bv.live=true:=by
  rcases hcase with⟨-,-,w3⟩|⟨-,inn,-,w3,-⟩
  ·rw[w3];rfl
  ·exact w3.live
 have hbnl:=QV 1 nb;have hc1:=hccl bv hbvl;have hc2:=hccl _ hbnl;simp+decide only[ev,putD,Slots.put,Slots.get,if_true,if_false,true_and,↓qh,qc,↓QW,QH,QS,List.length_cons,List.length_nil,List.getD_cons_zero,List.getD_cons_succ,List.getD_cons_zero,List.getD_cons_succ,Nat.zero_add,Nat.reduceAdd,Qz];refine Qj qbc (cs:=[.int .i64 0, .int .i64 0, .int .i64 0]) (by rfl) fun k2q5 hk2q5=>?_;have hn_2q5:h2q1 k2q5=none:=by first|assumption|(simp only[AHeap.set_none]at hk2q5;simp only[hk2q5])
 have hf_2q5:h k2q5=none:=Sub.none hs_h2q1 hn_2q5;have ne_2q5_1q3:k2q5≠k1q3:=AHeap.ne_some hn_2q5 eb_1q3;have ne_2q5_0q2:k2q5≠k0q2:=AHeap.ne_some hn_2q5 eb_0q2;simp+decide only[ev,putD,Slots.put,Slots.get,if_true,if_false,true_and,↓qd,qb];refine qp (by rfl) (by rfl) zqA QI (by rfl) (by rfl) zqD (Nat.zero_le _) (by first|rfl|(simp+decide only[ev,putD,Slots.put,Slots.get,if_true,if_false,AVal.cells,QC,Bool.and_true,Bool.true_and,hmvs,XY,Ze,XJ,sc_map])) ?_;simp only[AHeap.set_set,AVal.cells];simp+decide only[qa,ev,putD,Slots.get,Slots.keep,if_true,if_false,setAt,List.set_cons_zero,List.set_cons_succ,Nat.zero_add,Nat.reduceAdd];apply hK;clear hK K;refine qK ?_;refine awp_rseq [6,7,8,9,20] (by rfl) fun K hK=>?_;simp+decide only[qa,ev,qH,qF,putD,Slots.put,Slots.get,Slots.keep,if_true,if_false,true_and,↓qG,qY,qg Xt QI,↓Qp,↓qW,ZJ,evP,List.map_nil,↓qA,ql,qR,cond_false,Yc,ne35,QP,qf,List.getD_cons_zero,List.getD_cons_succ,Nat.zero_add,Nat.reduceAdd,qi,allLive,Bool.and_true,WB];apply hK;clear hK K;refine qJ (b:=_) rfl (fun hb1=>?_) (fun hb1=>?_)
 ·try simp only[decide_eq_false_iff_not,Bool.not_eq_true']at hb1
  have hXb:X= .bad bf:=by
   rcases hcase with⟨-,z,-⟩|⟨z,-⟩
   ·exact z
   ·exact absurd z hb1
  refine Zk 3 [4,5,6] mixed (by kernel_rfl) (by rfl) (by rfl) fun K hK=>?_;simp+decide only[ev,qH,qF,putD,Slots.put,Slots.get,if_true,if_false,true_and,↓qG,qY,qg Xt QI,↓qd,qb,QP,qf,List.getD_cons_zero,List.getD_cons_succ,Nat.zero_add,Nat.reduceAdd,qi,allLive,Bool.and_true];refine qp (by rfl) (by rfl) zqA QI (by rfl) (by rfl) zqD (Nat.zero_le _) (by first|rfl|(simp+decide only[ev,putD,Slots.put,Slots.get,if_true,if_false,AVal.cells,QC,Bool.and_true,Bool.true_and,hmvs,XY,Ze,XJ,sc_map])) ?_;simp only[AVal.cells];simp+decide only[qa,ev,putD,Slots.get,Slots.keep,if_true,if_false,setAt,List.set_cons_zero,List.set_cons_succ,Nat.zero_add,Nat.reduceAdd];apply hK;clear hK K;refine qO ?_;try simp only[Qi]
  refine QR (?_) ?_
  ·simp+decide only[QE,qw,qj,Slots.get,if_true,if_false,and_true,qw,qj,qg Xt QI,Qc,qf,List.getD_cons_zero,List.getD_cons_succ,Nat.zero_add,Nat.reduceAdd,qi,allLive,Bool.and_true,qf,List.getD_cons_zero,List.getD_cons_succ,Nat.zero_add,Nat.reduceAdd,qi,allLive,Bool.and_true]
  simp+decide only[Slots.get,if_true,if_false,QF,qw,qj,qg Xt QI,Qc,qf,List.getD_cons_zero,List.getD_cons_succ,Nat.zero_add,Nat.reduceAdd,qi,allLive,Bool.and_true,qf,List.getD_cons_zero,List.getD_cons_succ,Nat.zero_add,Nat.reduceAdd,qi,allLive,Bool.and_true];exact⟨_,Sub.refl _, .nilSlice, .nilSlice,bf,rfl,zqB,rfl,rfl, .inl ⟨hb1,hXb,rfl,rfl⟩⟩
 ·try simp only[decide_eq_true_eq,Bool.not_eq_false']at hb1
  obtain⟨hf0,inn,w2,w3,w4,w5,w6⟩:bf=okF/\∃inn,X= .ok inn st/\IsL wz (QG (fun _=>none) tb) 5 bv (inn.map QK)/\inn.length<=200000/\st.names.length<=st.copies/\st.copies<=4096:=by
   rcases hcase with⟨z,-⟩|z
   ·exact absurd (by simpa using hb1) z
   ·exact z
  have hasT:hasB h2q1 tb:=(qeh B tb).mono hs2h;have hasN:hasB h2q1 nb:=(qeh _ nb).mono hs2;have nT:Um k0q2 tb:=Wz htb b_0;have nN:Um k0q2 nb:=(qee he2 (ZR htb b_0)).2.2;have hun:=he2.use ⟨[],0⟩;have w7:IsL wz (QG (fun _=>none) nb) 1 (QA 1 nb) (st.names.map namC):=IsL.buf ((hun.ok ⟨[],0⟩).sub (qdK _)) (by decide) hun.eq namC_wide (Sub.refl _);have w3h:=w3.mono (sub_ebuf hasT);have w7h:=w7.mono (sub_ebuf hasN);refine qP ?_;change Awp _ _ _ _ _ _ _;obtain⟨C5,hC5⟩:∃C5,C5=h2q1.set k2q5 ⟨[.int .i64 bf.e, .int .i64 bf.line, .int .i64 bf.col],0⟩:=⟨_,rfl⟩
  refine Awp.forget (h':=C5) (by rw[hC5];exact Sub.refl _) ?_;have hs_C5:Sub h C5:=by rw[hC5];exact zqB
  have eb_1q3:C5 k1q3=some ⟨[mv, .map k1q1,QA 1 nb, .int .i64 st.copies],0⟩:=by rw[hC5];exact zqA
  have eb_0q2:C5 k0q2=some ⟨[.int .i64 0, .int .i64 0, .int .i64 0],0⟩:=by rw[hC5];exact zqA
  have hs25:Sub h2q1 C5:=by rw[hC5];exact Sub.set hn_2q5
  have hok1:(Yt bv).okIn (fun k=>(C5 k).isSome):=okCapG (by decide) (w3h.mono hs25);have hok2:(Yt (QA 1 nb)).okIn (fun k=>(C5 k).isSome):=okCapG (by decide) (w7h.mono hs25);refine YM 8 [] [4,5,6] mixed (by kernel_rfl) (by rfl) fun K hK=>?_;simp only[List.take_succ_cons,List.take_zero,List.drop_succ_cons,List.drop_zero];simp+decide only[ev,putD,Slots.put,Slots.get,if_true,if_false,true_and,↓XK,qc];refine Xk (V:=Yt bv) (by rfl) (by rfl) (by first|trivial|(simp+decide only[AVal.okIn,Xw,and_true,true_and,Qz,Wl,AHeap.set_same,Option.isSome_some];done)|(simp[AVal.okIn,Xw,AHeap.set];done)) (fun g hg=>c_clipT wz _ _ (inn.map QK) (w3h.mono (Sub.trans hs25 hg))) ?_;simp+decide only[ev,putD,Slots.put,Slots.get,if_true,if_false,true_and,↓ZG,qm,fa76_2,↓Zv,XF,qy ag30,Qy wz eb_1q3,List.getD_cons_zero,List.getD_cons_succ,Nat.zero_add,hbnl];refine Xk (V:=Yt (QA 1 nb)) (by rfl) (by rfl) (by first|trivial|(simp+decide only[AVal.okIn,Xw,and_true,true_and,Qz,Wl,AHeap.set_same,Option.isSome_some];done)|(simp[AVal.okIn,Xw,AHeap.set];done)) (fun g hg=>c_clipN wz _ _ st.names (w7h.mono (Sub.trans hs25 hg))) ?_;simp+decide only[Yr,ev,qH,qF,putD,Slots.put,Slots.get,if_true,if_false,true_and,↓Us,↓qW,ZJ,evP,List.map_nil,↓qbw,qb];refine qp (by rfl) (by rfl) zqA QI (by rfl) (by rfl) zqD (Nat.zero_le _) (by first|rfl|(simp+decide only[ev,putD,Slots.put,Slots.get,if_true,if_false,AVal.cells,QC,Bool.and_true,Bool.true_and,hmvs,XY,Ze,XJ,sc_map])) ?_;simp only[AVal.cells];simp+decide only[qa,ev,putD,Slots.get,Slots.keep,if_true,if_false,setAt,List.set_cons_zero,List.set_cons_succ,Nat.zero_add,Nat.reduceAdd];apply hK;clear hK K;refine qO ?_;refine QR (?_) ?_
  ·simp+decide only[QE,qw,qj,Slots.get,if_true,if_false,and_true,qw,qj,qg Xt QI,Qc,qf,List.getD_cons_zero,List.getD_cons_succ,Nat.zero_add,Nat.reduceAdd,qi,allLive,Bool.and_true,qf,List.getD_cons_zero,List.getD_cons_succ,Nat.zero_add,Nat.reduceAdd,qi,allLive,Bool.and_true]
  simp+decide only[Slots.get,if_true,if_false,QF,qw,qj,qg Xt QI,Qc,qf,List.getD_cons_zero,List.getD_cons_succ,Nat.zero_add,Nat.reduceAdd,qi,allLive,Bool.and_true,qf,List.getD_cons_zero,List.getD_cons_succ,Nat.zero_add,Nat.reduceAdd,qi,allLive,Bool.and_true];refine⟨_,Sub.refl _,Yt bv,Yt (QA 1 nb),okF,rfl,zqB,qfJ _,qfJ _, .inr ⟨rfl,inn,st,w2,?_,?_,w4,by omega⟩⟩
  ·exact(w3.mono (sub_ebuf ((hasT.mono hs25).set nT _))).clip
  ·exact(w7.mono (sub_ebuf ((hasN.mono hs25).set nN _))).clip
end Go.Proofs.YtlhhaagmakhilaaGreatDoor
namespace Go.Proofs.YtlhhaagmakhilaaGreatDoor
open Go.AM
open Go.Proofs
open Go.Col (Str FaultC okF)
open Go.Tok
open Go.Cop
open Go.RowKit (Below)
set_option maxRecDepth 100000
end Go.Proofs.YtlhhaagmakhilaaGreatDoor
namespace Go.Proofs.YtlhhaagmakhilaaGreatDoor
open Go.AM
open Go.Proofs
open Go.Col
open Go.Tok
open Go.RowKit (Below)
set_option maxRecDepth 100000
def qcR:Str->Str
 |[]=>[]
 |b::s=>if b=34 then 34::34::qcR s else b::qcR s
theorem dblE_app:∀a b:Str,qcR (a++b)=qcR a++qcR b
 |[],_=>rfl
 |x::a,b=>by
  rw[List.cons_append,qcR,qcR,dblE_app a b];split<;>rfl
theorem dblE_none:∀{a:Str},(34:UInt8)∉a->qcR a=a
 |[],_=>rfl
 |x::a,h=>by
  simp only[List.mem_cons,not_or]at h;rw[qcR,if_neg (fun e=>h.1 e.symm),dblE_none h.2]
theorem dblE_len(s:Str):(qcR s).length<=2*s.length:=by
 induction s with
 |nil=>exact Nat.le_refl _
 |cons b s ih=>
  rw[qcR];split<;>simp only[List.length_cons]<;>omega
theorem repl_eq:∀(n:Nat) (s:Str),s.length<=n->Lib.replaceK [34] [34,34] (Lib.count s [34]) s=qcR s
 |0,s,h=>by
  have:s=[]:=List.eq_nil_of_length_eq_zero (by omega);subst this;rfl
 |n+1,s,h=>by
  rcases index_one s 34 with⟨h1,h2⟩|⟨i,h1,h2,h3,h4⟩
  ·rw[Lib.count_miss h1,dblE_none h2]
   rfl
  ·have hc:Lib.count s [34]=Lib.count (s.drop (i+1)) [34]+1:=by
    have:=Lib.count_hit (s:=s) (sub:=[34]) (i:=i) (by decide) h1;rw[this,Nat.add_comm];rfl
   rw[hc,Lib.replaceK_hit _ _ _ _ i h1];have ih:=repl_eq n (s.drop (i+1)) (by rw[List.length_drop];omega);show s.take i++[34,34]++Lib.replaceK [34] [34,34] (Lib.count (s.drop (i+1)) [34]) (s.drop (i+1))=_
   rw[ih];conv=>rhs;rw[h3,dblE_app,dblE_none h4,qcR,if_pos rfl]
   simp
theorem repl_len(s:Str):Lib.count s [34]<=s.length:=by
 have:∀(n:Nat) (s:Str),s.length<=n->Lib.count s [34]<=s.length:=by
  intro n;induction n with
  |zero=>
   intro s h;have:s=[]:=List.eq_nil_of_length_eq_zero (by omega);subst this;exact Nat.le_refl _
  |succ n ih=>
   intro s h;rcases index_one s 34 with⟨h1,h2⟩|⟨i,h1,h2,h3,h4⟩
   ·rw[Lib.count_miss h1];exact Nat.zero_le _
   ·rw[Lib.count_hit (s:=s) (sub:=[34]) (i:=i) (by decide) h1]
    have:=ih (s.drop (i+[34].length)) (by rw[List.length_drop];simp;omega);rw[List.length_drop]at this;simp only[List.length_cons,List.length_nil]at this|-
    omega
 exact this _ s (Nat.le_refl _)
theorem c_dbl(wz:World)(hm:MaxL wz)(h:AHeap)(s:Str)(hl:s.length<=100000000):ACall Tryz.prog wz 54 [.str s, .str [34], .str [34,34]] h (fun v h'=>v= .str (qcR s)/\h'=h):=by
 obtain⟨m,hm⟩:=hm;have hlt:0<wz.heap.size:=cell_lt hm;refine acall_of_callsB (vals:=[.string ⟨⟨s⟩⟩, .string ⟨⟨[34]⟩⟩, .string ⟨⟨[34,34]⟩⟩]) (val:= .string ⟨⟨qcR s⟩⟩) Tryz.func54 rfl rfl (fun fi vs hv=>?_) (fun fi=>rfl) fun w hb=>?_
 ·simp only[VRs,VR]at hv
  obtain⟨v,vs',rfl,rfl,v2,vs2,rfl,rfl,v3,vs3,rfl,rfl,rfl⟩:=hv;rfl
 ·have hw:w.cell? ⟨0,0,none⟩=some (.int .i64 m):=(hb.cell (p:=⟨0,0,none⟩) hlt).trans hm
  have hcn:Lib.countB ⟨⟨s⟩⟩ ⟨⟨[34]⟩⟩<=s.length:=by
   have h1:=repl_len s;exact h1
  refine(Tryz.strings_ReplaceAll ⟨⟨s⟩⟩ ⟨⟨[34]⟩⟩ ⟨⟨[34,34]⟩⟩ m w (by show s.length<_;omega) hw (by decide) (by show s.length+_*2<=_;omega)).mono fun e w' ⟨e1,e2⟩=>⟨?_,e2⟩
  rw[e1];show Ending.returned (.string ⟨⟨Lib.replaceAll s [34] [34,34]⟩⟩)=_
  unfold Lib.replaceAll Lib.replace Lib.replaceNum;rw[if_neg (by decide),if_pos (.inl (by decide)),repl_eq _ _ (Nat.le_refl _)]
def qan(t:TokC):Str:=if t.kind=3 then 34::qcR t.text++[34]else if t.kind=6 then[46]else if t.kind=7 then[61,61]else t.text
def textE(l:List TokC):Str:=Lib.join (l.map qan) [32]
theorem textT_len(t:TokC):(qan t).length<=2*t.text.length+2:=by
 have:=dblE_len t.text;unfold qan;split
 ·simp;omega
 split
 ·simp
 split
 ·simp
 ·omega
def strT(s:Str):List AVal:=[.str s]
structure TxtOk(h:AHeap)(l:List TokC)(g:Nat×Option Buf):Prop where
 i:g.1<=l.length
 ok:bufOk h 1 g.2
 eq:Yu g.2=((l.take g.1).map fun t=>strT (qan t)).flatten
theorem join_lenT{sep:Str}{m:Nat}:∀{l:List Str},(∀x∈l,x.length<=m)->(Lib.join l sep).length<=l.length*(m+sep.length)
 |[],_=>by simp[Lib.join]
 |[x],h=>by
  have:=h x (by simp);simp[Lib.join];omega
 |x::y::l,h=>by
  have ih:=join_lenT (sep:=sep) (l:=y::l) fun z hz=>h z (by simp[hz]);have hx:=h x (by simp);have e:Lib.join (x::y::l) sep=x++sep++Lib.join (y::l) sep:=by
   unfold Lib.join;rw[List.intercalate_cons_cons]
  rw[e];simp only[List.length_append];have:(x::y::l).length*(m+sep.length)=(y::l).length*(m+sep.length)+(m+sep.length):=by
   rw[List.length_cons,Nat.add_mul,Nat.one_mul]
  omega
set_option maxHeartbeats 1000000 in
theorem c_Text(wz:World)(hm:MaxL wz)(h:AHeap)(v:AVal)(l:List TokC)(hv:IsL wz h 5 v (l.map QK))(hl:l.length<=65536)(hb:∀t∈l,t.text.length<=100000000):
 ACall Tryz.prog wz 45 [v] h (fun r h'=>r= .str (textE l)/\h'=h):=by
 have hlv:=hv.live;have hlen:=Zp hv;refine qU (n:=42) (rs:=[.tmp 2]) Tryz.func45 rfl rfl rfl rfl (Nat.le_of_ble_eq_true rfl) ?_;simp only[Qe];refine awp_rseq [0] (by rfl) fun K hK=>?_;simp+decide only[qa,ev,qH,qF,putD,Slots.put,Slots.keep,if_true,if_false,true_and,↓qd,qb];apply hK;clear hK K;refine awp_rseq [0,3] (by rfl) fun K hK=>?_;simp+decide only[qa,ev,qH,qF,putD,Slots.put,Slots.keep,if_true,if_false,true_and,↓qd,qb];apply hK;clear hK K;refine qK ?_;refine awp_rseq [3,6,7,8] (by rfl) fun K hK=>?_;simp+decide only[qa,ev,qH,qF,putD,Slots.put,Slots.get,Slots.keep,if_true,if_false,true_and,↓qh,qc,↓Xo,QD,hlen];apply hK;clear hK K;refine Ql ?_;refine Xv [3,6,7,8] (fun g:Nat×Option Buf=>[(3,QA 1 g.2),(6,v),(7, .int .i64 l.length),(8, .int .i64 g.1)]) (fun g:Nat×Option Buf=>QG h g.2) (fun g:Nat×Option Buf=>TxtOk h l g) (fun g:Nat×Option Buf=>l.length-g.1) (0,none) (by rfl) (Sub.refl _) ⟨Nat.zero_le _,trivial,rfl⟩ ?_;rintro⟨i,b⟩ ⟨g1,g2,g3⟩;simp only at g1 g2 g3|-
 have hbs:=Sub.buf g2;refine awp_rseq [3,6,7,8,9] (by rfl) fun K hK=>?_;simp+decide only[qa,ev,putD,Slots.put,Slots.get,Slots.keep,if_true,if_false,true_and,↓qA,ql,qR,cond_false,qo,XP];apply hK;clear hK K;refine qK (qJ (b:=_) rfl (fun hb1=>?_) (fun hb1=>?_))
 ·try simp only[decide_eq_true_eq]at hb1
  have hi:i<l.length:=by omega
  obtain⟨lc,o,c,rfl⟩:=Ui hv (by omega);obtain⟨e0,e1,e2,e3,e4⟩:=qaw (hv.mono hbs) hi;obtain⟨t,ht⟩:∃t,t=l.getD i Zy:=⟨_,rfl⟩
  have htk:l.take (i+1)=l.take i++[t]:=by rw[List.take_add_one,List.getElem?_eq_getElem hi,ht];simp[List.getD,hi]
  rw[<-ht]at e0 e1 e2 e3 e4;have htb:=hb t (by rw[ht,List.getD,List.getElem?_eq_getElem hi];exact List.getElem_mem hi);have hdl:=dblE_len t.text;refine qP ?_;change Awp _ _ _ _ _ _ _;refine qK ?_;refine Ql ?_;refine awp_rseq [3,5,6,7,8] (by rfl) fun K hK=>?_;simp+decide only[ev,putD,Slots.put,Slots.get,if_true,if_false,true_and,↓QB,qY,Qb Tryz.underlying26 Xa,↓qG,qg Zf Xa,qf,qD,qi,qE,allLive,Bool.and_true,e0,e1,e2,e3,e4,Int.toNat_natCast];repeat (with_reducible refine And.intro ?_ ?_;· first|trivial|omega|(intro hg;simp only[Bool.and_eq_true,Bool.or_eq_true,Bool.not_eq_true',Bool.and_eq_false_iff,Bool.or_eq_false_iff,Bool.not_eq_false',decide_eq_true_eq,decide_eq_false_iff_not,XV]at hg;omega)|(simp only[List.length_append,List.length_map,List.length_range,List.length_replicate,List.length_take,List.length_drop,List.length_cons,List.length_nil,List.length_set,List.length_reverse];omega))
  refine Qj qam (cs:=[.int .u8 0, .str [], .int .i64 0, .int .i64 0, .bool false]) (by rfl) fun k4q2 hk4q2=>?_;try have hf_4q2:h k4q2=none:=by first|assumption|(simp only[AHeap.set_none]at hk4q2;simp only[hk4q2])
  refine qp (by rfl) (by rfl) zqA Xa (by rfl) (by rfl) zqD (Nat.zero_le _) (by rfl) ?_;simp only[AHeap.set_set,AVal.cells];simp+decide only[qa,ev,putD,Slots.put,Slots.get,Slots.keep,if_true,if_false,setAt,List.set_cons_zero,List.set_cons_succ,Nat.zero_add,Nat.reduceAdd];apply hK;clear hK K;refine awp_rseq [3,5,6,7,8,13] (by rfl) fun K hK=>?_;simp+decide only[qa,ev,putD,Slots.put,Slots.get,Slots.keep,if_true,if_false,true_and,↓qC,qm,fa54_0,↓qG,qY,qy ag52,QP,List.getD_cons_zero,Nat.zero_add,qi];apply hK;clear hK K;refine Ql ?_;refine awp_rseq [3,5,6,7,8,13,19] (by rfl) fun K hK=>?_;simp+decide only[qa,ev,qH,qF,putD,Slots.put,Slots.get,Slots.keep,if_true,if_false,true_and,↓qA,ql,qB,cond_false,qo,XR,↓qd,qb];apply hK;clear hK K;refine qJ (b:=_) rfl (fun hb2=>?_) (fun hb2=>?_)
  ·try simp only[decide_eq_true_eq]at hb2
   have hk:t.kind=3:=(Zi _ 3).mp hb2;have htx:qan t=[34]++qcR t.text++[34]:=by unfold qan;rw[if_pos hk];rfl
   refine XA [3,6,7,8] (by rfl) ?_;simp+decide only[ev,putD,Slots.put,Slots.get,if_true,if_false,true_and,↓qh,qc,↓qC,qm,UI,↓qG,qY,qy ag9,QP,List.getD_cons_zero,List.getD_cons_succ,Nat.zero_add,qE];refine qN (V:= .str (qcR t.text)) (by rfl) (by rfl) (c_dbl wz hm _ t.text htb) ?_;simp+decide only[ev,qH,qF,putD,Slots.put,Slots.get,if_true,if_false,↓qA,ql,qR,cond_false,XZ,qdj,Ym];repeat (with_reducible refine And.intro ?_ ?_;· first|trivial|omega|(intro hg;simp only[Bool.and_eq_true,Bool.or_eq_true,Bool.not_eq_true',Bool.and_eq_false_iff,Bool.or_eq_false_iff,Bool.not_eq_false',decide_eq_true_eq,decide_eq_false_iff_not,XV]at hg;omega)|(simp only[List.length_append,List.length_cons,List.length_nil];omega))
   refine Qm (cs:=[.str ([34]++qcR t.text++[34])]) (by kernel_rfl) fun k8q6 hk8q6=>?_;have ne_8q6_4q2:k8q6≠k4q2:=by simp only[AHeap.set_none]at hk8q6;simp only[hk8q6,ne_eq,not_false_eq_true]
   try have hf_8q6:h k8q6=none:=by first|assumption|(simp only[AHeap.set_none]at hk8q6;simp only[hk8q6])
   refine Xu (es:=1) (zs:=(l.take i).map fun t=>strT (qan t)) (xs:=[strT ([34]++qcR t.text++[34])]) (hZ:=h) (b:=b) (by rfl) (by rfl) Tryz.underlying30 Tryz.underlying30 (fun k e=>by cases e) sz9 by9 ze9 (by rfl) (by decide) (by rfl) g2 g3 (fun y hy=>by obtain⟨d,_,rfl⟩:=List.mem_map.1 hy;rfl) ((Sub.set hk4q2).trans (Sub.set hk8q6)) (by rfl) (IsL.own (AHeap.set_same _ _ _) (by simp[strT]) (by rfl) (by rfl) (.exact 1) (Nat.le_refl _)) (by rfl) (by simp;omega) (by simp;omega) fun b' h5 o1 o2 o3=>?_;have hbl':=QV 1 b';simp+decide only[qa,ev,putD,Slots.put,Slots.get,Slots.keep,if_true,if_false,true_and,↓qd,qb];change Awp _ _ _ _ _ _ _;refine XA [3,6,7,8] (by rfl) ?_;simp+decide only[qa,ev,qH,qF,putD,Slots.put,Slots.get,Slots.keep,if_true,if_false,true_and,↓qA,ql,qB,cond_false,qo,QY,↓qh,qc];try simp(disch:=omega)only[wrap_i64]
   try simp only[Qg]
   exact⟨(i+1,b'),rfl,o3,⟨hi,o1,by simp only;rw[o2,htk,List.map_append,List.map_cons,List.map_nil,htx]⟩,by simp only;omega⟩
  ·try simp only[decide_eq_false_iff_not]at hb2
   have hk3:¬t.kind=3:=fun q=>hb2 ((Zi _ 3).mpr q);refine awp_rseq [3,5,6,7,8,13,29] (by rfl) fun K hK=>?_;simp+decide only[qa,ev,qH,qF,putD,Slots.put,Slots.get,Slots.keep,if_true,if_false,true_and,↓qA,ql,qB,cond_false,qo,XR,↓qd,qb];apply hK;clear hK K;refine qJ (b:=_) rfl (fun hb3=>?_) (fun hb3=>?_)
   ·try simp only[decide_eq_true_eq]at hb3
    have hk:t.kind=6:=(Zi _ 6).mp hb3;have htx:qan t=[46]:=by unfold qan;rw[if_neg hk3,if_pos hk]
    refine XA [3,6,7,8] (by rfl) ?_;simp+decide only[ev,putD,Slots.put,Slots.get,if_true,if_false,true_and,↓qh,qc];refine Qm (cs:=[.str ([46])]) (by kernel_rfl) fun k10q1 hk10q1=>?_;have ne_10q1_4q2:k10q1≠k4q2:=by simp only[AHeap.set_none]at hk10q1;simp only[hk10q1,ne_eq,not_false_eq_true]
    try have hf_10q1:h k10q1=none:=by first|assumption|(simp only[AHeap.set_none]at hk10q1;simp only[hk10q1])
    refine Xu (es:=1) (zs:=(l.take i).map fun t=>strT (qan t)) (xs:=[strT ([46])]) (hZ:=h) (b:=b) (by rfl) (by rfl) Tryz.underlying30 Tryz.underlying30 (fun k e=>by cases e) sz9 by9 ze9 (by rfl) (by decide) (by rfl) g2 g3 (fun y hy=>by obtain⟨d,_,rfl⟩:=List.mem_map.1 hy;rfl) ((Sub.set hk4q2).trans (Sub.set hk10q1)) (by rfl) (IsL.own (AHeap.set_same _ _ _) (by simp[strT]) (by rfl) (by rfl) (.exact 1) (Nat.le_refl _)) (by rfl) (by simp;omega) (by simp;omega) fun b' h5 o1 o2 o3=>?_;have hbl':=QV 1 b';simp+decide only[qa,ev,putD,Slots.put,Slots.get,Slots.keep,if_true,if_false,true_and,↓qd,qb];change Awp _ _ _ _ _ _ _;refine XA [3,6,7,8] (by rfl) ?_;simp+decide only[qa,ev,qH,qF,putD,Slots.put,Slots.get,Slots.keep,if_true,if_false,true_and,↓qA,ql,qB,cond_false,qo,QY,↓qh,qc];try simp(disch:=omega)only[wrap_i64]
    try simp only[Qg]
    exact⟨(i+1,b'),rfl,o3,⟨hi,o1,by simp only;rw[o2,htk,List.map_append,List.map_cons,List.map_nil,htx]⟩,by simp only;omega⟩
   ·try simp only[decide_eq_false_iff_not]at hb3
    have hk6:¬t.kind=6:=fun q=>hb3 ((Zi _ 6).mpr q);refine awp_rseq [3,5,6,7,8,34] (by rfl) fun K hK=>?_;simp+decide only[qa,ev,qH,qF,putD,Slots.put,Slots.get,Slots.keep,if_true,if_false,true_and,↓qA,ql,qB,cond_false,qo,XR,↓qd,qb];apply hK;clear hK K;refine qJ (b:=_) rfl (fun hb4=>?_) (fun hb4=>?_)
    ·try simp only[decide_eq_true_eq]at hb4
     have hk:t.kind=7:=(Zi _ 7).mp hb4;have htx:qan t=[61,61]:=by unfold qan;rw[if_neg hk3,if_neg hk6,if_pos hk]
     refine XA [3,6,7,8] (by rfl) ?_;simp+decide only[ev,putD,Slots.put,Slots.get,if_true,if_false,true_and,↓qh,qc];refine Qm (cs:=[.str ([61,61])]) (by kernel_rfl) fun k12q1 hk12q1=>?_;have ne_12q1_4q2:k12q1≠k4q2:=by simp only[AHeap.set_none]at hk12q1;simp only[hk12q1,ne_eq,not_false_eq_true]
     try have hf_12q1:h k12q1=none:=by first|assumption|(simp only[AHeap.set_none]at hk12q1;simp only[hk12q1])
     refine Xu (es:=1) (zs:=(l.take i).map fun t=>strT (qan t)) (xs:=[strT ([61,61])]) (hZ:=h) (b:=b) (by rfl) (by rfl) Tryz.underlying30 Tryz.underlying30 (fun k e=>by cases e) sz9 by9 ze9 (by rfl) (by decide) (by rfl) g2 g3 (fun y hy=>by obtain⟨d,_,rfl⟩:=List.mem_map.1 hy;rfl) ((Sub.set hk4q2).trans (Sub.set hk12q1)) (by rfl) (IsL.own (AHeap.set_same _ _ _) (by simp[strT]) (by rfl) (by rfl) (.exact 1) (Nat.le_refl _)) (by rfl) (by simp;omega) (by simp;omega) fun b' h5 o1 o2 o3=>?_;have hbl':=QV 1 b';simp+decide only[qa,ev,putD,Slots.put,Slots.get,Slots.keep,if_true,if_false,true_and,↓qd,qb];change Awp _ _ _ _ _ _ _;refine XA [3,6,7,8] (by rfl) ?_;simp+decide only[qa,ev,qH,qF,putD,Slots.put,Slots.get,Slots.keep,if_true,if_false,true_and,↓qA,ql,qB,cond_false,qo,QY,↓qh,qc];try simp(disch:=omega)only[wrap_i64]
     try simp only[Qg]
     exact⟨(i+1,b'),rfl,o3,⟨hi,o1,by simp only;rw[o2,htk,List.map_append,List.map_cons,List.map_nil,htx]⟩,by simp only;omega⟩
    ·try simp only[decide_eq_false_iff_not]at hb4
     have hk7:¬t.kind=7:=fun q=>hb4 ((Zi _ 7).mpr q);have htx:qan t=t.text:=by unfold qan;rw[if_neg hk3,if_neg hk6,if_neg hk7]
     refine XA [3,6,7,8] (by rfl) ?_;simp+decide only[ev,putD,Slots.put,Slots.get,if_true,if_false,true_and,↓qh,qc,↓qC,qm,UI,↓qG,qY,qy ag9,QP,List.getD_cons_zero,List.getD_cons_succ,Nat.zero_add,qE];refine Qm (cs:=[.str (t.text)]) (by kernel_rfl) fun k6q3 hk6q3=>?_;have ne_6q3_4q2:k6q3≠k4q2:=by simp only[AHeap.set_none]at hk6q3;simp only[hk6q3,ne_eq,not_false_eq_true]
     try have hf_6q3:h k6q3=none:=by first|assumption|(simp only[AHeap.set_none]at hk6q3;simp only[hk6q3])
     refine Xu (es:=1) (zs:=(l.take i).map fun t=>strT (qan t)) (xs:=[strT (t.text)]) (hZ:=h) (b:=b) (by rfl) (by rfl) Tryz.underlying30 Tryz.underlying30 (fun k e=>by cases e) sz9 by9 ze9 (by rfl) (by decide) (by rfl) g2 g3 (fun y hy=>by obtain⟨d,_,rfl⟩:=List.mem_map.1 hy;rfl) ((Sub.set hk4q2).trans (Sub.set hk6q3)) (by rfl) (IsL.own (AHeap.set_same _ _ _) (by simp[strT]) (by rfl) (by rfl) (.exact 1) (Nat.le_refl _)) (by rfl) (by simp;omega) (by simp;omega) fun b' h5 o1 o2 o3=>?_;have hbl':=QV 1 b';simp+decide only[qa,ev,putD,Slots.put,Slots.get,Slots.keep,if_true,if_false,true_and,↓qd,qb];change Awp _ _ _ _ _ _ _;refine XA [3,6,7,8] (by rfl) ?_;simp+decide only[qa,ev,qH,qF,putD,Slots.put,Slots.get,Slots.keep,if_true,if_false,true_and,↓qA,ql,qB,cond_false,qo,QY,↓qh,qc];try simp(disch:=omega)only[wrap_i64]
     try simp only[Qg]
     exact⟨(i+1,b'),rfl,o3,⟨hi,o1,by simp only;rw[o2,htk,List.map_append,List.map_cons,List.map_nil,htx]⟩,by simp only;omega⟩
 ·try simp only[decide_eq_false_iff_not]at hb1
  refine Xy ?_;change Awp _ _ _ _ _ _ _;have hie:i=l.length:=by omega
  rw[hie,List.take_length]at g3;have hst:IsStrs wz (QG h b) (QA 1 b) (l.map qan):=by
   have:=IsL.buf (wz:=wz) g2 (by decide) g3 (by simp[strT]) (h:=QG h b) (Sub.refl _);unfold IsStrs;rw[List.map_map];exact this
  have hjl:(Lib.join (l.map qan) [32]).length<=140737488355328:=by
   refine Nat.le_trans (join_lenT (m:=200000002) fun y hy=>?_) ?_
   ·obtain⟨d,hd,rfl⟩:=List.mem_map.1 hy
    have h1:=textT_len d;have h2:=hb d hd;omega
   ·rw[List.length_map]
    exact Nat.le_trans (Nat.mul_le_mul_right _ hl) (by decide)
  refine awp_rseq [2] (by rfl) fun K hK=>?_;simp+decide only[ev,putD,Slots.put,Slots.get,if_true,if_false,true_and,↓qh,qc];refine qN (V:= .str (textE l)) (by rfl) (by rfl) (c_join wz _ _ _ _ hst (by simp;omega) hjl) ?_;simp+decide only[qa,ev,putD,Slots.put,Slots.get,Slots.keep,if_true,if_false,true_and,↓qd,qb];apply hK;clear hK K;refine qO ?_;refine Qa h hbs (qZ (Qd)) ?_;simp+decide only[Slots.get,if_true,and_true,Qr];all_goals first|rfl|exact⟨rfl,rfl⟩|(simp+decide only[if_true,if_false, *];done)|(trace_state;fail)
end Go.Proofs.YtlhhaagmakhilaaGreatDoor
namespace Go.Proofs.YtlhhaagmakhilaaGreatDoor
open Go.AM
open Go.Proofs
open Go.Col (Str FaultC okF sp)
open Go.Tok
open Go.Cop
open Go.RowKit (Below)
set_option maxRecDepth 100000
theorem qeV(tb:Option Buf):(Yt (QA 5 tb)).live=true:=by cases tb<;>rfl
theorem capV_Sc(tb:Option Buf):Sc (Yt (QA 5 tb))=True:=by cases tb<;>exact eq_true trivial
theorem c_scanL(wz:World)(hm:MaxL wz)(h:AHeap)(s:Str)(hl:s.length<=1000000):ACall Tryz.prog wz 20 [.str s] h (fun r h'=>OutR h (qbC s) r h'):=by
 have hsp:(sp 11++s).length<=9223372036854775807:=by simp[sp];omega
 have hcl:=qeV none;refine qU (n:=12) (rs:=[.tmp 2]) Tryz.func20 rfl rfl rfl rfl (Nat.le_of_ble_eq_true rfl) ?_;simp only[Qe];refine awp_rseq [0] (by rfl) fun K hK=>?_;simp+decide only[qa,ev,qH,qF,putD,Slots.put,Slots.keep,if_true,if_false,true_and,↓qd,qb];apply hK;clear hK K;refine awp_rseq [3] (by rfl) fun K hK=>?_;simp+decide only[ev,qH,qF,putD,Slots.put,Slots.get,if_true,if_false,true_and,↓qh,qc,↓qA,ql,qR,cond_false,XZ,qdj];repeat (with_reducible refine And.intro ?_ ?_;· first|trivial|omega|(intro hg;simp only[Bool.and_eq_true,Bool.or_eq_true,Bool.not_eq_true',Bool.and_eq_false_iff,Bool.or_eq_false_iff,Bool.not_eq_false',decide_eq_true_eq,decide_eq_false_iff_not,XV]at hg;omega)|(simp only[List.length_cons,List.length_nil];omega))
 refine QN (by rfl) (by rfl) (c_Source wz hm _ (sp 11++s) false hsp) fun x1q2 h1q2 hx1q2=>?_;obtain⟨tb,rfl,o1,o2,hh1⟩:=hx1q2;have hs1:Sub h h1q2:=by rw[hh1];exact Sub.buf o1
 have hcl:=qeV tb;have hs_h1q2:Sub h h1q2:=Sub.trans zqC hs1;have hr_h1q2:=hs_h1q2;simp+decide only[ev,putD,Slots.put,Slots.get,if_true,if_false,true_and,↓qh,qc,↓QW,QH,QS,List.length_cons,List.length_nil,List.getD_cons_zero,List.getD_cons_succ,List.getD_cons_zero,List.getD_cons_succ,Nat.zero_add,Nat.reduceAdd,Qz];refine Qj qbc (cs:=[.int .i64 0, .int .i64 0, .int .i64 0]) (by rfl) fun k1q6 hk1q6=>?_;have hn_1q6:h1q2 k1q6=none:=by first|assumption|(simp only[AHeap.set_none]at hk1q6;simp only[hk1q6])
 have hf_1q6:h k1q6=none:=Sub.none hs_h1q2 hn_1q6;simp+decide only[ev,putD,Slots.put,Slots.get,if_true,if_false,true_and,↓qd,qb];refine qp (by rfl) (by rfl) zqA QI (by rfl) (by rfl) zqD (Nat.zero_le _) (by rfl) ?_;simp only[AHeap.set_set,AVal.cells];simp+decide only[qa,ev,putD,Slots.get,Slots.keep,if_true,if_false,setAt,List.set_cons_zero,List.set_cons_succ,Nat.zero_add,Nat.reduceAdd];apply hK;clear hK K;refine awp_rseq [2] (by rfl) fun K hK=>?_;simp+decide only[qa,ev,putD,Slots.put,Slots.get,Slots.keep,if_true,if_false,true_and,↓qh,qc,↓qd,qb];apply hK;clear hK K;refine qO ?_;refine QR (qZ (Qd)) ?_;simp+decide only[Slots.get,if_true,Qr];exact⟨QG h tb,by rw[<-hh1];exact Sub.set hn_1q6,tb,rfl,o1,o2,rfl⟩
theorem c_membersL(wz:World)(hm:MaxL wz)(h:AHeap):ACall Tryz.prog wz 24 [] h (fun r h'=>IsMems wz h' r qcM/\Sub h h'):=by
 refine qU (n:=6) (rs:=[.tmp 0]) Tryz.func24 rfl rfl rfl rfl (Nat.le_of_ble_eq_true rfl) ?_;simp only[Qe];refine awp_rseq [] (by rfl) fun K hK=>?_;simp+decide only[qa,ev,qH,qF,putD,Slots.put,Slots.keep,if_false,true_and,↓qd,qb];apply hK;clear hK K;refine awp_rseq [0] (by rfl) fun K hK=>?_;refine QN (by rfl) (by rfl) (c_scanL wz hm _ _ (by decide)) fun x1q0 h1q0 hx1q0=>?_;have ht1:=hx1q0.toks (wz:=wz);obtain⟨tb1,hv1,a1,a2,a3⟩:=hx1q0;have hcl1:=qeV tb1;have hcS1:=capV_Sc tb1;subst hv1;have hs_h1q0:Sub h h1q0:=Sub.trans zqC ht1.2.2;have hr_h1q0:=hs_h1q0;simp+decide only[ev,qH,qF,putD,Slots.put,Slots.get,if_true,if_false,true_and,↓Qp,↓qW,bld57_0_1,evP,List.map_cons,List.map_nil,hcS1];refine QN (by rfl) (by rfl) (c_scanL wz hm _ _ (by decide)) fun x1q2 h1q2 hx1q2=>?_;have ht2:=hx1q2.toks (wz:=wz);obtain⟨tb2,hv2,b1,b2,b3⟩:=hx1q2;have hcl2:=qeV tb2;have hcS2:=capV_Sc tb2;subst hv2;have hs_h1q2:Sub h h1q2:=Sub.trans zqC ht2.2.2;have hr_h1q2:Sub h1q0 h1q2:=Sub.trans zqC ht2.2.2;simp+decide only[ev,qH,qF,putD,Slots.put,Slots.get,if_true,if_false,true_and,↓Qp,↓qW,bld57_0_1,evP,List.map_cons,List.map_nil,hcS2];refine Qm (cs:=[.str [65],Yt (QA 5 tb1), .str [66],Yt (QA 5 tb2)]) (by cases tb1<;>cases tb2<;>rfl) fun k1q4 hk1q4=>?_;have hn_1q4:h1q2 k1q4=none:=by first|assumption|(simp only[AHeap.set_none]at hk1q4;simp only[hk1q4])
 have hf_1q4:h k1q4=none:=Sub.none hs_h1q2 hn_1q4;simp+decide only[qa,ev,putD,Slots.put,Slots.get,Slots.keep,if_true,if_false,true_and,↓qd,qb];apply hK;clear hK K;refine qO ?_;refine QR (qZ (Qd)) ?_;simp+decide only[Slots.get,if_true,Qr];have hs4:Sub h1q2 (h1q2.set k1q4 ⟨[.str [65],Yt (QA 5 tb1), .str [66],Yt (QA 5 tb2)],0⟩):=Sub.set hn_1q4;refine⟨_,Sub.refl _,⟨[(⟨[65],qbC [48,53,32,88,32,80,73,67,32,57,40,51,41,46]⟩,Yt (QA 5 tb1)),(⟨[66],qbC [48,49,32,82,46,32,67,79,80,89,32,65,32,82,69,80,76,65,67,73,78,71,32,88,32,66,89,32,89,46]⟩,Yt (QA 5 tb2))],rfl,?_,?_⟩,zqB⟩
 ·exact IsL.own (wz:=wz) (es:=2) (xs:=[[.str [65],Yt (QA 5 tb1)],[.str [66],Yt (QA 5 tb2)]]) (AHeap.set_same _ _ _) (by simp) rfl (by simp[allLive,qE,hcl1,hcl2]) (.exact 2) (Nat.le_refl _)
 ·intro q hq
  simp only[List.mem_cons,List.not_mem_nil,or_false]at hq;rcases hq with rfl|rfl
  ·exact(ht1.1.mono ht2.2.2).mono hs4
  ·exact ht2.1.mono hs4
theorem qdb(s:Str):(qbC s).length<=65536:=(source_small (sp 11++s) false).1
theorem qeo:∀m∈qcM,m.toks.length<=100000:=by
 intro m hm;simp only[qcM,List.mem_cons,List.not_mem_nil,or_false]at hm;rcases hm with rfl|rfl<;>(have:=qdb;exact Nat.le_trans (this _) (by decide))
def giveOk(s want:Str):Bool:=match UR true (qbC s) qcM with
 | .ok out _=>decide (0<out.length) && (decide (out.length<=65536) && (out.all (fun t=>decide (t.text.length<=100000000)) && decide (textE out=want)))
 | .bad _=>false
def failOk(s:Str)(e col:Int):Bool:=match UR true (qbC s) qcM with
 | .ok _ _=>false
 | .bad f=>decide (f=⟨e,1,col⟩)
theorem c_gives(wz:World)(hm:MaxL wz)(h:AHeap)(s want:Str)(hs:s.length<=1000000)(hg:giveOk s want=true):ACall Tryz.prog wz 25 [.str s, .str want] h (fun r h'=>r= .bool true/\h'=h):=by
 have hovl:(AVal.bool true).live=true:=rfl;have hnvl:(AVal.bool true).live=true:=rfl;refine qU (n:=30) (rs:=[.tmp 4]) Tryz.func25 rfl rfl rfl rfl (Nat.le_of_ble_eq_true rfl) ?_;simp only[Qe];refine awp_rseq [0,1] (by rfl) fun K hK=>?_;simp+decide only[qa,ev,qH,qF,putD,Slots.put,Slots.keep,if_true,if_false,true_and,↓qd,qb,Nat.zero_add];apply hK;clear hK K;refine awp_rseq [1,5,7] (by rfl) fun K hK=>?_;simp+decide only[ev,putD,Slots.put,Slots.get,if_true,if_false,true_and,↓qh,qc];refine QN (by rfl) (by rfl) (c_scanL wz hm _ s hs) fun x1q1 h1q1 hx1q1=>?_;have ht1:=hx1q1.toks (wz:=wz);have hs1:=ht1.2.2;have hs_h1q1:Sub h h1q1:=Sub.trans zqC hs1;have hr_h1q1:=hs_h1q1;refine QN (by rfl) (by rfl) (c_membersL wz hm _) fun x1q2 h1q2 hx1q2=>?_;obtain⟨hms,hs2⟩:=hx1q2;have hs_h1q2:Sub h h1q2:=Sub.trans zqC hs2;have hr_h1q2:Sub h1q1 h1q2:=Sub.trans zqC hs2;refine QN (by rfl) (by rfl) (qes wz _ x1q1 x1q2 (qbC s) qcM (ht1.1.mono hs2) hms (by have:=qdb s;omega) (by decide) qeo) fun x1q3 h1q3 hx1q3=>?_;obtain⟨ov,nv,f,rfl,hs3,hc1,hc2,hcase⟩:=hx1q3;obtain⟨rfl,out,st,hX,hov,hnv,hl1,hl2⟩:f=okF/\∃out st,UR true (qbC s) qcM= .ok out st/\IsL wz h1q3 5 ov (out.map QK)/\IsL wz h1q3 1 nv (st.names.map namC)/\out.length<=200000/\st.names.length<=4096:=by
  rcases hcase with⟨-,z,-⟩|z
  ·unfold giveOk at hg
   rw[z]at hg;cases hg
  ·exact z
 unfold giveOk at hg;rw[hX]at hg;simp only[Bool.and_eq_true,decide_eq_true_eq,List.all_eq_true]at hg;obtain⟨g1,g2,g3,g4⟩:=hg;have hovl:=hov.live;have hnvl:=hnv.live;have nov:=Zp hov;have hpos:(0:Int)<out.length:=by omega
 have hs_h1q3:Sub h h1q3:=Sub.trans zqC hs3;have hr_h1q3:Sub h1q2 h1q3:=Sub.trans zqC hs3;simp+decide only[ev,putD,Slots.put,Slots.get,if_true,if_false,true_and,↓qh,qc,↓QW,QH,QS,List.length_cons,List.length_nil,List.getD_cons_zero,List.getD_cons_succ,List.getD_cons_zero,List.getD_cons_succ,Nat.zero_add,Nat.reduceAdd,Qz];refine Qj qbc (cs:=[.int .i64 0, .int .i64 0, .int .i64 0]) (by rfl) fun k1q8 hk1q8=>?_;have hn_1q8:h1q3 k1q8=none:=by first|assumption|(simp only[AHeap.set_none]at hk1q8;simp only[hk1q8])
 have hf_1q8:h k1q8=none:=Sub.none hs_h1q3 hn_1q8;simp+decide only[ev,putD,Slots.put,Slots.get,if_true,if_false,true_and,↓qd,qb];refine qp (by rfl) (by rfl) zqA QI (by rfl) (by rfl) zqD (Nat.zero_le _) (by rfl) ?_;simp only[AHeap.set_set,AVal.cells];simp+decide only[qa,ev,putD,Slots.get,Slots.keep,if_true,if_false,setAt,List.set_cons_zero,List.set_cons_succ,Nat.zero_add,Nat.reduceAdd];apply hK;clear hK K;refine awp_rseq [4] (by rfl) fun K hK=>?_;simp+decide only[ev,qH,qF,putD,Slots.put,Slots.get,if_true,if_false,true_and,↓qG,qY,qg Xt QI,↓Qp,↓qW,ZJ,evP,List.map_nil,↓qA,ql,qR,cond_false,Yc,eq35,↓qh,qc,↓Xf,agP,Qs,qL,qI,qz,implies_true,decide_true,Qv,Bool.and_true,↓qbZ,QD,↓Xb,qB,qo,UV,↓QT,Qu,Qh,decide_true,Qv,Bool.and_true,YI,cond_true,cond_false,QP,qf,List.getD_cons_zero,List.getD_cons_succ,Nat.zero_add,Nat.reduceAdd,qi,allLive,Bool.and_true,nov,hpos];refine Yv (by rfl) ?_;refine qN (V:= .str want) (by rfl) (by rfl) (by rw[<-g4];exact c_Text wz hm _ ov out (hov.mono zqB) g2 (fun t ht=>g3 t ht)) ?_;simp+decide only[qa,ev,qH,qF,putD,Slots.put,Slots.get,Slots.keep,if_true,if_false,true_and,↓Xf,qc,agP,Qs,qL,qI,qz,implies_true,decide_true,Qv,↓Xb,ql,qR,cond_false,XZ,qfA,↓QT,Qu,Qh,↓qd,qb,decide_true,Qv,YI,cond_true,cond_false];apply hK;clear hK K;refine qO ?_;refine Qa h zqC (qZ (Qd)) ?_;simp+decide only[Slots.get,if_true,and_true,Qr];all_goals first|rfl|exact⟨rfl,rfl⟩|(simp+decide only[if_true,if_false, *];done)|(trace_state;fail)
theorem c_fails(wz:World)(hm:MaxL wz)(h:AHeap)(s:Str)(e col:Int)(hs:s.length<=1000000)(hg:failOk s e col=true):ACall Tryz.prog wz 26 [.str s, .int .i64 e, .int .i64 col] h (fun r h'=>r= .bool true/\h'=h):=by
 refine qU (n:=32) (rs:=[.tmp 6]) Tryz.func26 rfl rfl rfl rfl (Nat.le_of_ble_eq_true rfl) ?_;simp only[Qe];refine awp_rseq [0,1,2] (by rfl) fun K hK=>?_;simp+decide only[qa,ev,qH,qF,putD,Slots.put,Slots.keep,if_true,if_false,true_and,↓qd,qb,Nat.zero_add,Nat.reduceAdd];apply hK;clear hK K;refine awp_rseq [1,2,7,8,9] (by rfl) fun K hK=>?_;simp+decide only[ev,putD,Slots.put,Slots.get,if_true,if_false,true_and,↓qh,qc];refine QN (by rfl) (by rfl) (c_scanL wz hm _ s hs) fun x1q1 h1q1 hx1q1=>?_;have ht1:=hx1q1.toks (wz:=wz);have hs1:=ht1.2.2;have hs_h1q1:Sub h h1q1:=Sub.trans zqC hs1;have hr_h1q1:=hs_h1q1;refine QN (by rfl) (by rfl) (c_membersL wz hm _) fun x1q2 h1q2 hx1q2=>?_;obtain⟨hms,hs2⟩:=hx1q2;have hs_h1q2:Sub h h1q2:=Sub.trans zqC hs2;have hr_h1q2:Sub h1q1 h1q2:=Sub.trans zqC hs2;refine QN (by rfl) (by rfl) (qes wz _ x1q1 x1q2 (qbC s) qcM (ht1.1.mono hs2) hms (by have:=qdb s;omega) (by decide) qeo) fun x1q3 h1q3 hx1q3=>?_;obtain⟨ov,nv,f,rfl,hs3,hc1,hc2,hcase⟩:=hx1q3;obtain⟨hX,rfl,rfl⟩:UR true (qbC s) qcM= .bad f/\ov= .nilSlice/\nv= .nilSlice:=by
  rcases hcase with⟨-,z⟩|⟨-,out,st,z,-⟩
  ·exact z
  ·unfold failOk at hg
   rw[z]at hg;cases hg
 unfold failOk at hg;rw[hX]at hg;simp only[decide_eq_true_eq]at hg;subst hg;have hs_h1q3:Sub h h1q3:=Sub.trans zqC hs3;have hr_h1q3:Sub h1q2 h1q3:=Sub.trans zqC hs3;simp+decide only[ev,putD,Slots.put,Slots.get,if_true,if_false,true_and,↓qh,qc,↓QW,QH,QS,List.length_cons,List.length_nil,List.getD_cons_zero,List.getD_cons_succ,List.getD_cons_zero,List.getD_cons_succ,Nat.zero_add,Nat.reduceAdd,Qz];refine Qj qbc (cs:=[.int .i64 0, .int .i64 0, .int .i64 0]) (by rfl) fun k1q8 hk1q8=>?_;have hn_1q8:h1q3 k1q8=none:=by first|assumption|(simp only[AHeap.set_none]at hk1q8;simp only[hk1q8])
 have hf_1q8:h k1q8=none:=Sub.none hs_h1q3 hn_1q8;simp+decide only[ev,putD,Slots.put,Slots.get,if_true,if_false,true_and,↓qd,qb];refine qp (by rfl) (by rfl) zqA QI (by rfl) (by rfl) zqD (Nat.zero_le _) (by rfl) ?_;simp only[AHeap.set_set,AVal.cells];simp+decide only[qa,ev,putD,Slots.get,Slots.keep,if_true,if_false,setAt,List.set_cons_zero,List.set_cons_succ,Nat.zero_add,Nat.reduceAdd];apply hK;clear hK K;refine awp_rseq [6] (by rfl) fun K hK=>?_;simp+decide only[qa,ev,qH,qF,putD,Slots.put,Slots.get,Slots.keep,if_true,if_false,true_and,↓qh,qc,↓Xo,QD,qdY Tryz.underlying26,qdY Tryz.underlying30,↓qA,ql,qR,cond_false,qo,QY,qB,XR,↓Zr,Za,WS,agP,Qs,qL,qI,qz,implies_true,decide_true,Qv,Bool.and_true,qg Xt QI,↓Xf,↓ag_build,↓qW,qcS,evP,List.map_cons,List.map_nil,UE,↓Xb,Yc,eq35,↓QT,Qu,Qh,↓qd,qb,decide_true,Qv,Bool.and_true,YI,cond_true,cond_false,QP,qf,List.getD_cons_zero,List.getD_cons_succ,Nat.zero_add,Nat.reduceAdd,qi,allLive,Bool.and_true];apply hK;clear hK K;refine qO ?_;refine Qa h zqC (qZ (Qd)) ?_;simp+decide only[Slots.get,if_true,and_true,Qr];all_goals first|rfl|exact⟨rfl,rfl⟩|(simp+decide only[if_true,if_false, *];done)|(trace_state;fail)
end Go.Proofs.YtlhhaagmakhilaaGreatDoor
namespace Go.Proofs.YtlhhaagmakhilaaGreatDoor
open Go.AM
open Go.Proofs
open Go.Col (Str FaultC okF sp)
open Go.Tok
open Go.Cop
open Go.RowKit (Below)
set_option maxRecDepth 100000
def liveB:Bool:=match UR true (qbC [67,79,80,89,32,34,66,34,46,32,77,79,86,69]) qcM with
 | .ok _ st=>decide (st.names=[[66],[65]])
 | .bad _=>false
theorem lv_names:liveB=true:=by decide+kernel
theorem lv_g1:giveOk [67,79,80,89,32,65,46] [48,53,32,88,32,80,73,67,32,57,40,51,41,32,46]=true:=by decide+kernel
theorem lv_f1:failOk [67,79,80,89,32,67,46] 7 17=true:=by decide+kernel
theorem lv_f2:failOk [67,79,80,89,32,65] 4 12=true:=by decide+kernel
theorem lv_f3:failOk [67,79,80,89,32,65,32,82,69,80,76,65,67,73,78,71,32,88,46] 4 30=true:=by decide+kernel
set_option maxHeartbeats 2000000 in
theorem qeY(wz:World)(hm:MaxL wz)(h:AHeap):ACall Tryz.prog wz 9 [] h (fun r h'=>r= .bool true/\h'=h):=by
 have hovl:(AVal.bool true).live=true:=rfl;have hnvl:(AVal.bool true).live=true:=rfl;refine qU (n:=44) (rs:=[.tmp 0]) Tryz.func9 rfl rfl rfl rfl (Nat.le_of_ble_eq_true rfl) ?_;simp only[Qe];refine awp_rseq [] (by rfl) fun K hK=>?_;simp+decide only[qa,ev,qH,qF,putD,Slots.put,Slots.keep,if_false,true_and,↓qd,qb];apply hK;clear hK K;refine awp_rseq [2] (by rfl) fun K hK=>?_;refine QN (by rfl) (by rfl) (c_scanL wz hm _ _ (by decide)) fun x1q0 h1q0 hx1q0=>?_;have ht1:=hx1q0.toks (wz:=wz);have hs1:=ht1.2.2;have hs_h1q0:Sub h h1q0:=Sub.trans zqC hs1;have hr_h1q0:=hs_h1q0;refine QN (by rfl) (by rfl) (c_membersL wz hm _) fun x1q1 h1q1 hx1q1=>?_;obtain⟨hms,hs2⟩:=hx1q1;have hs_h1q1:Sub h h1q1:=Sub.trans zqC hs2;have hr_h1q1:Sub h1q0 h1q1:=Sub.trans zqC hs2;refine QN (by rfl) (by rfl) (qes wz _ x1q0 x1q1 _ qcM (ht1.1.mono hs2) hms (by have:=qdb [67,79,80,89,32,34,66,34,46,32,77,79,86,69];exact Nat.le_trans this (by decide)) (by decide) qeo) fun x1q2 h1q2 hx1q2=>?_;obtain⟨ov,nv,f,rfl,hs3,hc1,hc2,hcase⟩:=hx1q2;have hlb:=lv_names;unfold liveB at hlb;obtain⟨rfl,out,st,hX,hov,hnv,hl1,hl2⟩:f=okF/\∃out st,UR true (qbC [67,79,80,89,32,34,66,34,46,32,77,79,86,69]) qcM= .ok out st/\IsL wz h1q2 5 ov (out.map QK)/\IsL wz h1q2 1 nv (st.names.map namC)/\out.length<=200000/\st.names.length<=4096:=by
  rcases hcase with⟨-,z,-⟩|z
  ·rw[show UR true (qbC [67,79,80,89,32,34,66,34,46,32,77,79,86,69]) qcM= .bad f from z]at hlb
   cases hlb
  ·exact z
 rw[hX]at hlb;simp only[decide_eq_true_eq]at hlb;rw[hlb]at hnv;have hovl:=hov.live;have hnvl:=hnv.live;have nnv:=nam_len hnv;have hs_h1q2:Sub h h1q2:=Sub.trans zqC hs3;have hr_h1q2:Sub h1q1 h1q2:=Sub.trans zqC hs3;simp+decide only[ev,putD,Slots.put,Slots.get,if_true,if_false,true_and,↓qh,qc,↓QW,QH,QS,List.length_cons,List.length_nil,List.getD_cons_zero,List.getD_cons_succ,List.getD_cons_zero,List.getD_cons_succ,Nat.zero_add,Nat.reduceAdd,Qz];refine Qj qbc (cs:=[.int .i64 0, .int .i64 0, .int .i64 0]) (by rfl) fun k1q7 hk1q7=>?_;have hn_1q7:h1q2 k1q7=none:=by first|assumption|(simp only[AHeap.set_none]at hk1q7;simp only[hk1q7])
 have hf_1q7:h k1q7=none:=Sub.none hs_h1q2 hn_1q7;simp+decide only[ev,putD,Slots.put,Slots.get,if_true,if_false,true_and,↓qd,qb];refine qp (by rfl) (by rfl) zqA QI (by rfl) (by rfl) zqD (Nat.zero_le _) (by rfl) ?_;simp only[AHeap.set_set,AVal.cells];simp+decide only[qa,ev,putD,Slots.get,Slots.keep,if_true,if_false,setAt,List.set_cons_zero,List.set_cons_succ,Nat.zero_add,Nat.reduceAdd];apply hK;clear hK K;refine Awp.forget (h':=h1q2) (Sub.set hn_1q7) ?_;obtain⟨lc,o,c,hnve⟩:=hnv.open (by simp);have hnv2:=hnv;rw[hnve]at hnv2;have e0:rd wz h1q2 lc (o+0)= .str [66]:=hnv2.at0 (i:=0) (by simp) (by decide);have e1:rd wz h1q2 lc (o+1)= .str [65]:=hnv2.at0 (i:=1) (by simp) (by decide);rw[Nat.add_zero]at e0;have hlen2:((([[66],[65]]:List Str).map namC).length:Int)=2:=by decide
 have i0:Int.toNat 0=0:=rfl;have i1:Int.toNat 1=1:=rfl;subst hnve;refine awp_rseq [0] (by kernel_rfl) fun K hK=>?_;refine qN (V:= .bool true) (by rfl) (by rfl) (c_gives wz hm _ _ _ (by decide) lv_g1) ?_;simp+decide only[ev,putD,Slots.put,Slots.get,if_true,if_false,true_and,↓qh,qc];refine Yv (by rfl) ?_;refine qN (V:= .bool true) (by rfl) (by rfl) (c_gives wz hm _ _ _ (by decide) (by decide+kernel)) ?_;simp+decide only[ev,qH,qF,putD,Slots.put,Slots.get,if_true,if_false,true_and,↓QT,Qu,Qh,↓qh,qc,YI,cond_true];refine Yv (by rfl) ?_;refine qN (V:= .bool true) (by rfl) (by rfl) (c_gives wz hm _ _ _ (by decide) (by decide+kernel)) ?_;simp+decide only[ev,qH,qF,putD,Slots.put,Slots.get,if_true,if_false,true_and,↓QT,Qu,Qh,↓qh,qc,YI,cond_true];refine Yv (by rfl) ?_;refine qN (V:= .bool true) (by rfl) (by rfl) (c_fails wz hm _ _ _ _ (by decide) lv_f1) ?_;simp+decide only[ev,qH,qF,putD,Slots.put,Slots.get,if_true,if_false,true_and,↓QT,Qu,Qh,↓qh,qc,YI,cond_true];refine Yv (by rfl) ?_;refine qN (V:= .bool true) (by rfl) (by rfl) (c_fails wz hm _ _ _ _ (by decide) lv_f2) ?_;simp+decide only[ev,qH,qF,putD,Slots.put,Slots.get,if_true,if_false,true_and,↓QT,Qu,Qh,↓qh,qc,YI,cond_true];refine Yv (by rfl) ?_;refine qN (V:= .bool true) (by rfl) (by rfl) (c_fails wz hm _ _ _ _ (by decide) lv_f3) ?_;simp+decide only[qa,ev,qH,qF,putD,Slots.put,Slots.get,Slots.keep,if_true,if_false,true_and,↓QT,Qu,Qh,↓qh,qc,↓Xf,agP,Qs,qL,qI,qz,implies_true,decide_true,Qv,↓qbZ,QD,ZI Tryz.underlying30,↓Xb,ql,qB,cond_false,qo,XR,↓Yg,Za,WS,Qb Tryz.underlying30 sz9,↓Zr,qy ag9,Ym,XZ,qfA,↓qd,qb,decide_true,Qv,YI,cond_true,cond_false,qE,i0,i1,e0,e1,Nat.mul_one,Nat.add_zero];apply hK;clear hK K;refine qO ?_;refine Qa h zqC (qZ (Qd)) ?_;simp+decide only[Slots.get,if_true,and_true,Qr];all_goals first|rfl|exact⟨rfl,rfl⟩|(simp+decide only[if_true,if_false, *];done)|(trace_state;fail)
end Go.Proofs.YtlhhaagmakhilaaGreatDoor
namespace Go.AM
section
variable {P:Program} {wz:World} {ops:List Oper} {K:Slots->AHeap->Prop}
end
end Go.AM
namespace Go.Proofs.YtlhhaagmakhilaaGreatDoor
open Go.AM
open Go.Proofs
open Go.Col (Str FaultC okF sp)
open Go.Tok
open Go.Cop
open Go.RowKit (Below)
set_option maxRecDepth 100000
theorem bufSwap3{H:AHeap}{ea eb:Nat}{a b:Option Buf}(ha:bufOk H ea a)(hb:bufOk (QG H a) eb b):QG (QG H a) b=QG (QG H b) a/\bufOk H eb b/\bufOk (QG H b) ea a:=by
 cases a with
 |none=>exact⟨rfl,hb,trivial⟩
 |some a=>
  cases b with
  |none=>exact⟨rfl,trivial,ha⟩
  |some b=>
   have hne:b.blk≠a.blk:=fun e=>by
    have:=hb.1;rw[e,show QG H (some a)=H.set a.blk ⟨a.cells,0⟩from rfl,AHeap.set_same]at this;cases this
   have hb1:H b.blk=none:=by
    have:=hb.1
    rwa [show QG H (some a)=H.set a.blk ⟨a.cells,0⟩from rfl,AHeap.set_ne _ _ hne]at this
   exact⟨AHeap.set_comm _ _ _ hne,⟨hb1,hb.2⟩,⟨(AHeap.set_ne _ _ hne.symm).trans ha.1,ha.2⟩⟩
theorem qej{α:Type}(l:List α)(d e:α){i:Nat}(hi:i<l.length):l.getD i d=l.getD i e:=by
 rw[List.getD,List.getD,List.getElem?_eq_getElem hi];rfl
end Go.Proofs.YtlhhaagmakhilaaGreatDoor
namespace Go.Proofs.YtlhhaagmakhilaaGreatDoor
open Go.AM
open Go.Proofs
open Go.Col (Str FaultC okF sp)
open Go.Tok
open Go.Cop
open Go.RowKit (Below)
set_option maxRecDepth 100000
theorem c_equal04(wz:World)(h:AHeap)(a b:AVal)(l:List TokC)(ha:IsL wz h 5 a (l.map QK))(hb:IsL wz h 5 b (l.map QK))(hl:l.length<=1099511627776):ACall Tryz.prog wz 14 [a,b] h (fun v h'=>v= .int .i64 0/\h'=h):=by
 have hla:=ha.live;have hlb:=hb.live;have na:=Zp ha;have nb:=Zp hb;refine qU (n:=26) (rs:=[.tmp 4]) Tryz.func14 rfl rfl rfl rfl (Nat.le_of_ble_eq_true rfl) ?_;simp only[Qe];refine awp_rseq [0,1] (by rfl) fun K hK=>?_;simp+decide only[qa,ev,qH,qF,putD,Slots.put,Slots.keep,if_true,if_false,true_and,↓qd,qb];apply hK;clear hK K;refine qK ?_;refine awp_rseq [0,1,10] (by rfl) fun K hK=>?_;simp+decide only[qa,ev,putD,Slots.put,Slots.get,Slots.keep,if_true,if_false,true_and,↓qh,qc,↓Xo,QD,↓qA,ql,qR,cond_false,qo,qag,na,nb];apply hK;clear hK K;refine qJ (b:=_) rfl (fun hb1=>?_) (fun hb1=>?_)
 ·exact absurd hb1 (by simp)
 ·try simp only[decide_eq_true_eq,Bool.not_eq_false']at hb1
  refine qP ?_;change Awp _ _ _ _ _ _ _;refine qK ?_;refine awp_rseq [0,1,5] (by rfl) fun K hK=>?_;simp+decide only[qa,ev,qH,qF,putD,Slots.put,Slots.keep,if_true,if_false,true_and,↓qd,qb];apply hK;clear hK K;refine Ql ?_;refine Xv [0,1,5] (fun i:Nat=>[(0,a),(1,b),(5, .int .i64 i)]) (fun i:Nat=>h) (fun i:Nat=>i<=l.length) (fun i:Nat=>l.length-i) 0 (by rfl) (Sub.refl _) (Nat.zero_le _) ?_;intro i hi;refine qK ?_;refine awp_rseq [0,1,5,14] (by rfl) fun K hK=>?_;simp+decide only[qa,ev,putD,Slots.put,Slots.get,Slots.keep,if_true,if_false,true_and,↓qh,qc,↓Xo,QD,↓qA,ql,qR,cond_false,qo,XP,na];apply hK;clear hK K;refine qJ (b:=_) rfl (fun hb2=>?_) (fun hb2=>?_)
  ·try simp only[decide_eq_true_eq]at hb2
   have hi':i<l.length:=by omega
   obtain⟨lc,o,c,rfl⟩:=Ui ha (by omega);obtain⟨lc',o',c',rfl⟩:=Ui hb (by omega);have he:=ha.elem (i:=i) (by rw[List.length_map];exact hi');have hd:=hb.elem (i:=i) (by rw[List.length_map];exact hi');rw[getD_map Zy hi',QK]at he hd;have hal:AM.allLive (QK (l.getD i Zy))=true:=rfl;rw[QK]at hal;have hbe:((l.getD i Zy).left==(l.getD i Zy).left)=true:=beq_self_eq_true _;refine qP ?_;change Awp _ _ _ _ _ _ _;refine qK ?_;refine Ql ?_;refine Zn [0,1,5,25] mixed (by kernel_rfl) (by rfl) (by rfl) fun K hK=>?_;simp+decide only[qa,ev,putD,Slots.put,Slots.get,Slots.keep,if_true,if_false,true_and,↓qh,qc,↓QB,qY,Qb Tryz.underlying26 Xa,↓qG,qg Zf Xa,↓qA,ql,qR,cond_false,Yc,ne54,he,hd,hal,hbe,Int.toNat_natCast];repeat (with_reducible refine And.intro ?_ ?_;· first|trivial|omega|(intro hg;simp only[Bool.and_eq_true,Bool.or_eq_true,Bool.not_eq_true',Bool.and_eq_false_iff,Bool.or_eq_false_iff,Bool.not_eq_false',decide_eq_true_eq,decide_eq_false_iff_not,XV]at hg;omega))
   apply hK;clear hK K;refine qJ (b:=_) rfl (fun hb3=>?_) (fun hb3=>?_)
   ·exact absurd hb3 (by simp)
   ·try simp only[decide_eq_true_eq,Bool.not_eq_false',Bool.and_eq_true]at hb3
    refine qP ?_;change Awp _ _ _ _ _ _ _;refine XA [0,1,5] (by rfl) ?_;simp+decide only[qa,ev,qH,qF,putD,Slots.put,Slots.get,Slots.keep,if_true,if_false,true_and,↓qh,qc,↓qA,ql,qB,cond_false,qo,QY,↓qd,qb];try simp(disch:=omega)only[wrap_i64]
    try simp only[Qg]
    exact⟨i+1,rfl,Sub.refl _,hi',by omega⟩
  ·try simp only[decide_eq_false_iff_not]at hb2
   refine Xy ?_;change Awp _ _ _ _ _ _ _;refine awp_rseq [4] (by rfl) fun K hK=>?_;simp+decide only[qa,ev,qH,qF,putD,Slots.put,Slots.keep,if_true,if_false,true_and,↓qd,qb];apply hK;clear hK K;refine qO ?_;refine Qa _ (Sub.refl _) (qZ (Qd)) ?_;simp+decide only[Slots.get,if_true,and_true,Qr];all_goals first|rfl|exact⟨rfl,rfl⟩|(simp+decide only[if_true,if_false, *];done)|(trace_state;fail)
end Go.Proofs.YtlhhaagmakhilaaGreatDoor
namespace Go.Proofs.YtlhhaagmakhilaaGreatDoor
open Go.AM
open Go.Proofs
open Go.Col (Str FaultC okF sp)
open Go.Tok
open Go.Cop
open Go.RowKit (Below)
set_option maxRecDepth 100000
theorem XO(wz:World)(h:AHeap)(s:Str):ACall Tryz.prog wz 27 [.str s] h (fun r h'=>r= .agg [.int .u8 1, .str s, .int .i64 0, .int .i64 0, .bool false]/\h'=h):=by
 refine qU (n:=5) (rs:=[.cell 2 54]) Tryz.func27 rfl rfl rfl rfl (Nat.le_of_ble_eq_true rfl) ?_;simp only[Qe];refine awp_rseq [0,2] (by rfl) fun K hK=>?_;refine Qj qam (cs:=[.int .u8 0, .str [], .int .i64 0, .int .i64 0, .bool false]) (by rfl) fun k0q0 hk0q0=>?_;try have hf_0q0:h k0q0=none:=by first|assumption|(simp only[AHeap.set_none]at hk0q0;simp only[hk0q0])
 simp+decide only[qa,putD,Slots.put,Slots.keep,if_true,if_false];apply hK;clear hK K;refine awp_rseq [2] (by rfl) fun K hK=>?_;simp+decide only[ev,qH,qF,putD,Slots.put,Slots.get,if_true,if_false,true_and,↓qh,qc,↓Qp,↓qW,UD,evP,List.map_cons,List.map_nil];refine qp (by rfl) (by rfl) zqA Xa (by rfl) (by rfl) zqD (Nat.zero_le _) (by rfl) ?_;simp only[AHeap.set_set,AVal.cells];simp+decide only[qa,ev,putD,Slots.get,Slots.keep,if_true,if_false,setAt,List.set_cons_zero,List.set_cons_succ,Nat.zero_add,Nat.reduceAdd];apply hK;clear hK K;refine qO ?_;refine Qa h zqC (?_) ?_
 ·simp+decide only[QE,qj,Slots.get,if_true,and_true,qj,qg Zf Xa,Qc,qf,List.getD_cons_zero,List.getD_cons_succ,Nat.zero_add,Nat.reduceAdd,qD,qi,qE,allLive,Bool.and_true,qf,List.getD_cons_zero,List.getD_cons_succ,Nat.zero_add,Nat.reduceAdd,qD,qi,qE,allLive,Bool.and_true]
 simp+decide only[Slots.get,if_true,and_true,YH,qj,qg Zf Xa,Qc,qf,List.getD_cons_zero,List.getD_cons_succ,Nat.zero_add,Nat.reduceAdd,qD,qi,qE,allLive,Bool.and_true,qf,List.getD_cons_zero,List.getD_cons_succ,Nat.zero_add,Nat.reduceAdd,qD,qi,qE,allLive,Bool.and_true];all_goals first|rfl|exact⟨rfl,rfl⟩|(simp+decide only[if_true,if_false, *];done)|(trace_state;fail)
def plN(i:Nat)(l:List TokC):List TokC:=(qaA l).take i++l.drop i
theorem plN_zero(l:List TokC):plN 0 l=l:=rfl
theorem qeK(i:Nat)(l:List TokC):(plN i l).length=l.length:=by
 unfold plN qaA;simp;omega
theorem plN_all(l:List TokC):plN l.length l=qaA l:=by
 unfold plN;rw[List.drop_length,List.append_nil,List.take_of_length_le (by unfold qaA;simp)]
theorem plN_step{i:Nat}{l:List TokC}(hi:i<l.length):(plN i l).set i (atT i ((plN i l).getD i Zy))=plN (i+1) l:=by
 have hp:(qaA l).length=l.length:=by unfold qaA;simp
 have hg:(plN i l).getD i Zy=l.getD i Zy:=by
  unfold plN;rw[List.getD,List.getElem?_append_right (by simp[hp];omega),List.length_take,hp,Nat.min_eq_left (by omega),Nat.sub_self,List.getElem?_drop,Nat.add_zero];rfl
 rw[hg];apply List.ext_getElem?;intro j;rw[List.getElem?_set];by_cases e:i=j
 ·subst e
  rw[if_pos rfl,if_pos (by rw[qeK];exact hi)];unfold plN;rw[List.getElem?_append_left (by simp[hp];omega),List.getElem?_take,if_pos (by omega)];unfold qaA;rw[List.getElem?_mapIdx,List.getElem?_eq_getElem hi];simp[List.getD,hi]
 ·rw[if_neg e]
  unfold plN;by_cases h:j<i
  ·rw[List.getElem?_append_left (by simp[hp];omega),List.getElem?_append_left (by simp[hp];omega),List.getElem?_take,List.getElem?_take,if_pos h,if_pos (by omega)]
  ·rw[List.getElem?_append_right (by simp[hp];omega),List.getElem?_append_right (by simp[hp];omega)]
   simp only[List.length_take,hp,List.getElem?_drop];rw[Nat.min_eq_left (by omega),Nat.min_eq_left (by omega),show i+(j-i)=j by omega,show i+1+(j-(i+1))=j by omega]
theorem WK(l:List TokC):AM.allLive ((l.map QK).flatten)=true:=ZW.2 fun x hx=>by obtain⟨y,_,rfl⟩:=List.mem_map.1 hx;rfl
theorem tokC_scalL(l:List TokC):QC ((l.map QK).flatten)=true:=Yo.2 fun x hx=>by obtain⟨y,_,rfl⟩:=List.mem_map.1 hx;rfl
theorem flat_set5:∀(l:List TokC) (i:Nat) (a b:AVal) (t:TokC),i<l.length->QK t=(QK (l.getD i Zy)).take 2++[a,b]++(QK (l.getD i Zy)).drop 4->setAt ((l.map QK).flatten) (i*5+2) [a,b]=((l.set i t).map QK).flatten
 |[],i,_,_,_,h,_=>by simp at h
 |x::l,0,a,b,t,_,e=>by
  simp only[List.getD_cons_zero]at e;simp only[List.map_cons,List.flatten_cons,List.set_cons_zero,e];rfl
 |x::l,i+1,a,b,t,h,e=>by
  simp only[List.getD_cons_succ]at e;have ih:=flat_set5 l i a b t (by simpa using h) e;simp only[List.map_cons,List.flatten_cons,List.set_cons_succ];rw[<-ih,show(i+1)*5+2=5+(i*5+2) by omega,qbs (m:=5) rfl]
theorem aOps_storeAt{P:Program}{wz:World}{ops rest:List Oper}{s:Slots}{H:AHeap}{K:Slots->AHeap->Prop}{dst:Option Tmp}{ty:TypeId}{pos:String}{af:Array Edge}{t:TypeId}{x y:Operand}{k i:Nat}{l:List TokC}
 (hx:ev s x= .ptr (.own k) (i*5+2)) (hv:ev s y= .agg [.int .i64 (1+(i / 8:Nat)), .int .i64 (8+(i%8:Nat))]) (hb:H k=some ⟨(l.map QK).flatten,0⟩) (hi:i<l.length) (hn:ZZ P t=some 2)
 (hk:QJ P wz ops rest (putD s dst (.tuple [])) (H.set k ⟨((l.set i ⟨(l.getD i Zy).kind,(l.getD i Zy).text,1+(i / 8:Nat),8+(i%8:Nat),(l.getD i Zy).left⟩).map QK).flatten,0⟩) K):
 QJ P wz ops (⟨dst, .store t x y,ty,pos,af,none⟩::rest) s H K:=by
 refine qp hx hv hb hn rfl rfl ?_ (Nat.zero_le _) rfl ?_
 ·simp only
  rw[Xz (es:=5) Xc,List.length_map];omega
 ·simp only[AVal.cells]
  rw[flat_set5 l i _ _ ⟨(l.getD i Zy).kind,(l.getD i Zy).text,1+(i / 8:Nat),8+(i%8:Nat),(l.getD i Zy).left⟩ hi rfl];exact hk
structure Of2(h:AHeap)(l:List TokC)(g:Nat×Option Buf):Prop where
 i:g.1<=l.length
 ok:bufOk h 5 g.2
 eq:Yu g.2=((plN g.1 l).map QK).flatten
theorem pl_left{l:List TokC}(hl:∀t∈l,t.left=false){i:Nat}(hi:i<l.length):(⟨((plN i l).getD i Zy).kind,((plN i l).getD i Zy).text,1+(i / 8:Nat),8+(i%8:Nat),((plN i l).getD i Zy).left⟩:TokC)=atT i ((plN i l).getD i Zy):=by
 have:((plN i l).getD i Zy).left=false:=by
  have hp:(qaA l).length=l.length:=by unfold qaA;simp
  unfold plN;rw[List.getD,List.getElem?_append_right (by simp[hp];omega),List.length_take,hp,Nat.min_eq_left (by omega),Nat.sub_self,List.getElem?_drop,Nat.add_zero,List.getElem?_eq_getElem hi];exact hl _ (List.getElem_mem hi)
 unfold atT;rw[this]
theorem raw_left:∀{ns:List Nat},(∀n∈ns,n<256)->∀t∈qaz ns,t.left=false:=by
 intro ns hn t ht;have h:=(qcD hn).1;rw[<-h]at ht;obtain⟨y,-,rfl⟩:=List.mem_map.1 ht;rfl
set_option maxHeartbeats 1000000 in
theorem of_rest2(wz:World)(h:AHeap)(l:List TokC)(hlf:∀t∈l,t.left=false)(hl:l.length<=1000000)(tb:Option Buf)(hok:bufOk h 5 tb)(heq:Yu tb=(l.map QK).flatten):
 Awp Tryz.prog wz 178 (WP 8 (qcu Tryz.f10)) (qcB Tryz.prog wz [.tmp 2] (fun r h'=>∃tb,r=QA 5 tb/\bufOk h 5 tb/\Yu tb=((qaA l).map QK).flatten/\h'=QG h tb)) [(8,QA 5 tb)] (QG h tb):=by
 have hlv:=QV 5 tb;change Awp _ _ _ (Code.seq _ _) _ _ _;refine qK ?_;refine awp_rseq [8,12] (by rfl) fun K hK=>?_;simp+decide only[qa,ev,qH,qF,putD,Slots.put,Slots.keep,if_true,if_false,true_and,↓qd,qb];apply hK;clear hK K;refine Ql ?_;refine Xv [8,12] (fun g:Nat×Option Buf=>[(8,QA 5 g.2),(12, .int .i64 g.1)]) (fun g:Nat×Option Buf=>QG h g.2) (fun g:Nat×Option Buf=>Of2 h l g) (fun g:Nat×Option Buf=>l.length-g.1) (0,tb) (by rfl) (Sub.refl _) ⟨Nat.zero_le _,hok,by rw[plN_zero];exact heq⟩ ?_;rintro⟨i,tb⟩ ⟨g1,g2,g3⟩;simp only at g1 g2 g3|-
 have hbl:=QV 5 tb;have hV:IsL wz (QG h tb) 5 (QA 5 tb) ((plN i l).map QK):=IsL.buf g2 (by decide) g3 Xc (Sub.refl _);have hlen:=Zp hV;rw[qeK]at hlen;refine qK ?_;refine awp_rseq [8,12,163] (by rfl) fun K hK=>?_;simp+decide only[qa,ev,putD,Slots.put,Slots.get,Slots.keep,if_true,if_false,true_and,↓qh,qc,↓Xo,QD,↓qA,ql,qR,cond_false,qo,XP,hlen];apply hK;clear hK K;refine qJ (b:=_) rfl (fun hb1=>?_) (fun hb1=>?_)
 ·try simp only[decide_eq_true_eq]at hb1
  have hi:i<l.length:=by omega
  obtain⟨b,rfl⟩:∃b,tb=some b:=by
   cases tb with
   |some b=>exact⟨b,rfl⟩
   |none=>
    have e:=congrArg List.length g3;rw[Xz (es:=5) Xc,List.length_map,qeK]at e;simp[Yu]at e;omega
  have hbc:b.cells=((plN i l).map QK).flatten:=g3;have hbv:QA 5 (some b)= .slice (.own b.blk) 0 l.length (.grow 5):=by
   show AVal.slice (.own b.blk) 0 (b.cells.length / 5) (.grow 5)=_
   rw[hbc,Xz (es:=5) Xc,List.length_map,qeK,Nat.mul_div_cancel _ (by decide)]
  have hq:Int.tdiv (i:Int) 8=((i / 8:Nat):Int):=by rw[Int.tdiv_eq_ediv_of_nonneg (by omega)];omega
  have hr:Int.tmod (i:Int) 8=((i%8:Nat):Int):=by rw[Int.tmod_eq_emod_of_nonneg (by omega)];omega
  refine qP ?_;change Awp _ _ _ _ _ _ _;refine qK ?_;refine Ql ?_;refine XA [8,12] (by rfl) ?_;simp+decide only[ev,qH,qF,putD,Slots.put,Slots.get,if_true,if_false,true_and,↓qh,qc,↓qA,ql,qB,cond_false,qo,pI_quo,qR,QY,qdZ,↓Qp,↓qW,qcS,evP,List.map_cons,List.map_nil,hbv,hq,hr];try simp(disch:=omega)only[wrap_i64]
  try simp+decide only[ev,putD,Slots.put,Slots.get,if_true,if_false,true_and,↓QB,qY,Qb Tryz.underlying26 Xa,↓qC,qm,fa54_2,Nat.zero_add,Int.toNat_natCast,Nat.zero_add]
  repeat (with_reducible refine And.intro ?_ ?_;· first|trivial|omega|(intro hg;simp only[Bool.and_eq_true,Bool.or_eq_true,Bool.not_eq_true',Bool.and_eq_false_iff,Bool.or_eq_false_iff,Bool.not_eq_false',decide_eq_true_eq,decide_eq_false_iff_not,XV]at hg;omega))
  refine aOps_storeAt (k:=b.blk) (i:=i) (l:=plN i l) (by rfl) (by rfl) (by rw[<-hbc];exact AHeap.set_same _ _ _) (by rw[qeK];exact hi) qbf ?_;rw[pl_left hlf hi,plN_step hi];simp+decide only[qa,putD,Slots.keep,if_true,if_false];change Awp _ _ _ _ _ _ _;refine XA [8,12] (by rfl) ?_;simp+decide only[qa,ev,qH,qF,putD,Slots.put,Slots.get,Slots.keep,if_true,if_false,true_and,↓qh,qc,↓qA,ql,qB,cond_false,qo,QY,↓qd,qb];try simp(disch:=omega)only[wrap_i64]
  try simp only[Qg]
  refine⟨(i+1,some ⟨b.blk,((plN (i+1) l).map QK).flatten⟩),?_,?_,⟨hi,?_,rfl⟩,by simp only;omega⟩
  ·have hbv2:QA 5 (some ⟨b.blk,((plN (i+1) l).map QK).flatten⟩)= .slice (.own b.blk) 0 l.length (.grow 5):=by
    show AVal.slice (.own b.blk) 0 (((plN (i+1) l).map QK).flatten.length / 5) (.grow 5)=_
    rw[Xz (es:=5) Xc,List.length_map,qeK,Nat.mul_div_cancel _ (by decide)]
   simp only;rw[hbv2];rfl
  ·show Sub ((h.set b.blk ⟨((plN (i+1) l).map QK).flatten,0⟩)) ((h.set b.blk ⟨b.cells,0⟩).set b.blk ⟨((plN (i+1) l).map QK).flatten,0⟩)
   rw[AHeap.set_set];exact Sub.refl _
  ·refine⟨g2.1,?_,?_⟩
   ·simp only
    rw[Xz (es:=5) Xc,Nat.mul_mod_left]
   ·exact WK _
 ·try simp only[decide_eq_false_iff_not]at hb1
  have hil:i=l.length:=by omega
  rw[hil,plN_all]at g3;refine Xy ?_;change Awp _ _ _ _ _ _ _;refine awp_rseq [2] (by rfl) fun K hK=>?_;simp+decide only[qa,ev,putD,Slots.put,Slots.get,Slots.keep,if_true,if_false,true_and,↓qh,qc,↓qd,qb];apply hK;clear hK K;refine qO ?_;refine QR (qZ (Qd)) ?_;simp+decide only[Slots.get,if_true,Qr];exact⟨QG h tb,Sub.refl _,tb,rfl,g2,g3,rfl⟩
end Go.Proofs.YtlhhaagmakhilaaGreatDoor
namespace Go.AM
open Go.RowKit (Below)
section
variable {P:Program} {wz:World} {n:FrameK} {g₀:AHeap}
def qaE(P:Program)(wz:World)(l:List Oper)(g₀:AHeap):List Oper->Nat->List Nat->Slots->AHeap->(Slots->AHeap->Prop)->Prop
 |[],_,_,s,h,K=>K s h
 |o::r,0,_,s,h,K=>QJ P wz l [o] s h fun s' h'=>Sub g₀ h'/\qaE P wz l g₀ r 0 [] s' h' K
 |o::r,m+1,1::bs,s,h,K=>∃V,(∀g,Sub h g->QJ P wz l [o] s g fun s' h'=>s'=putD s o.dst V/\h'=g)/\qaE P wz l g₀ r m bs (putD s o.dst V) h K
 |o::r,m+1,2::bs,s,h,K=>QJ P wz l [o] s g₀ fun s' _=>qaE P wz l g₀ r m bs s' h K
 |o::r,m+1,bs,s,h,K=>QJ P wz l [o] s h fun s' h'=>Sub h h'/\qaE P wz l g₀ r m (bs.drop 1) s' h' K
theorem lOps_nil{l:List Oper}{m:Nat}{bs:List Nat}{s:Slots}{h:AHeap}{K:Slots->AHeap->Prop}:qaE P wz l g₀ [] m bs s h K=K s h:=by cases m<;>rfl
theorem lOps_cons{l:List Oper}{m:Nat}{bs:List Nat}{o:Oper}{r:List Oper}{s:Slots}{h:AHeap}{K:Slots->AHeap->Prop}:qaE P wz l g₀ (o::r) (m+1) (0::bs) s h K=QJ P wz l [o] s h fun s' h'=>Sub h h'/\qaE P wz l g₀ r m bs s' h' K:=rfl
theorem lOps_zero{l:List Oper}{bs:List Nat}{o:Oper}{r:List Oper}{s:Slots}{h:AHeap}{K:Slots->AHeap->Prop}:qaE P wz l g₀ (o::r) 0 bs s h K=QJ P wz l [o] s h fun s' h'=>Sub g₀ h'/\qaE P wz l g₀ r 0 [] s' h' K:=rfl
theorem lOps_free{l:List Oper}{m:Nat}{bs:List Nat}{o:Oper}{r:List Oper}{s:Slots}{h:AHeap}{K:Slots->AHeap->Prop}{V:AVal}(hc:∀g,Sub h g->QJ P wz l [o] s g fun s' h'=>s'=putD s o.dst V/\h'=g)(hk:qaE P wz l g₀ r m bs (putD s o.dst V) h K):qaE P wz l g₀ (o::r) (m+1) (1::bs) s h K:=⟨V,hc,hk⟩
theorem lOps_late{l:List Oper}{m:Nat}{bs:List Nat}{o:Oper}{r:List Oper}{s:Slots}{h:AHeap}{K:Slots->AHeap->Prop}:qaE P wz l g₀ (o::r) (m+1) (2::bs) s h K=QJ P wz l [o] s g₀ fun s' _=>qaE P wz l g₀ r m bs s' h K:=rfl
theorem lOps_step{l:List Oper}{m:Nat}{bs:List Nat}(h1:bs.getD 0 0≠1)(h2:bs.getD 0 0≠2){o:Oper}{r:List Oper}{s:Slots}{h:AHeap}{K:Slots->AHeap->Prop}(hj:qaE P wz l g₀ (o::r) (m+1) bs s h K):QJ P wz l [o] s h fun s' h'=>Sub h h'/\qaE P wz l g₀ r m (bs.drop 1) s' h' K:=by
 match bs,h1,h2,hj with
 |[],_,_,hj=>exact hj
 |0::bs,_,_,hj=>exact hj
 |1::bs,h1,_,_=>exact absurd rfl h1
 |2::bs,_,h2,_=>exact absurd rfl h2
 |(k+3)::bs,_,_,hj=>exact hj
theorem lOps_take1{l:List Oper}{m:Nat}{bs:List Nat}(hb:bs.getD 0 0=1){o:Oper}{r:List Oper}{s:Slots}{h:AHeap}{K:Slots->AHeap->Prop}(hj:qaE P wz l g₀ (o::r) (m+1) bs s h K):∃V,(∀g,Sub h g->QJ P wz l [o] s g fun s' h'=>s'=putD s o.dst V/\h'=g)/\qaE P wz l g₀ r m (bs.drop 1) (putD s o.dst V) h K:=by
 match bs,hb,hj with
 |[],hb,_=>simp at hb
 |1::bs,_,hj=>exact hj
 |0::bs,hb,_=>simp at hb
 |(k+2)::bs,hb,_=>simp at hb
theorem lOps_take2{l:List Oper}{m:Nat}{bs:List Nat}(hb:bs.getD 0 0=2){o:Oper}{r:List Oper}{s:Slots}{h:AHeap}{K:Slots->AHeap->Prop}(hj:qaE P wz l g₀ (o::r) (m+1) bs s h K):QJ P wz l [o] s g₀ fun s' _=>qaE P wz l g₀ r m (bs.drop 1) s' h K:=by
 match bs,hb,hj with
 |[],hb,_=>simp at hb
 |2::bs,_,hj=>exact hj
 |0::bs,hb,_=>simp at hb
 |1::bs,hb,_=>simp at hb
 |(k+3)::bs,hb,_=>simp at hb
theorem lOps_zero'{l:List Oper}{bs bs':List Nat}{r:List Oper}{s:Slots}{h:AHeap}{K:Slots->AHeap->Prop}:qaE P wz l g₀ r 0 bs s h K=qaE P wz l g₀ r 0 bs' s h K:=by cases r<;>rfl
def isL(P:Program)(l:List Oper)(π:List Nat)(fl:List Nat)(m q:Nat):Bool:=decide (q<m) && (fl.getD q 0==1||isF P l (π.getD q 0))
def floatL(P:Program)(l:List Oper)(π:List Nat)(fl:List Nat)(ws:List (Option Nat))(m:Nat):Bool:=
 Uk l && ((List.range m).all fun q=> !(fl.getD q 0==2)||isF P l (π.getD q 0)) && (π.all fun i=>decide (i<l.length)) && ((List.range l.length).all fun i=>π.contains i) &&
 ((List.range π.length).all fun q=>(List.range π.length).all fun r=>decide (q=r)|| !(π.getD q 0==π.getD r 0)) &&
 ((List.range π.length).all fun q=>match ws.getD q none with
   |none=>(List.range q).all fun c=>isL P l π fl m c
   |some r=>decide (r<q) && Region.waitsFor .any l.toArray (π.getD q 0) (π.getD r 0) && (List.range q).all fun c=>decide (c<=r)||isL P l π fl m c) &&
 ((List.range π.length).all fun q=>match l[π.getD q 0]? with
   |none=>true
   |some o=>(List.range π.length).all fun r=>match l[π.getD r 0]? with
    |none=>true
    |some oj=>(match oj.dst with
     |none=>true
     |some t=> !(QM l o).contains t||(decide (q<r) && decide (m<=r) && !(fl.getD q 0==2))||(decide (r<q) && Region.waitsFor .any l.toArray (π.getD q 0) (π.getD r 0)))) &&
 decide (m<=π.length) && ((List.range π.length).all fun q=>decide (q<m)|| !isL P l π fl m q) &&
 (decide (m=π.length)||(List.range m).all fun q=>(fl.getD q 0==2)||(List.range (m+1)).any fun r=>decide (q<r) && (decide (r=m)|| !(fl.getD r 0==2)) && Region.waitsFor .any l.toArray (π.getD r 0) (π.getD q 0))
structure FloatL(P:Program)(l:List Oper)(π:List Nat)(fl:List Nat)(m:Nat):Prop where
 order:Uk l=true
 lateF:∀q,q<m->fl.getD q 0=2->isF P l (π.getD q 0)=true
 inr:∀q,q<π.length->π.getD q 0<l.length
 onto:∀i,i<l.length->∃q,q<π.length/\π.getD q 0=i
 inj:∀q r,q<π.length->r<π.length->π.getD q 0=π.getD r 0->q=r
 wait:∀q c,q<π.length->c<q->isL P l π fl m c=false->∃r,c<=r/\r<q/\Region.waitsFor .any l.toArray (π.getD q 0) (π.getD r 0)=true
 data:∀q r o oj t,q<π.length->r<π.length->l[π.getD q 0]?=some o->l[π.getD r 0]?=some oj->oj.dst=some t->t∈QM l o->(q<r/\m<=r/\fl.getD q 0≠2)\/(r<q/\Region.waitsFor .any l.toArray (π.getD q 0) (π.getD r 0)=true)
 mle:m<=π.length
 tail:∀q,m<=q->q<π.length->isL P l π fl m q=false
 sink:m<π.length->∀q,q<m->fl.getD q 0≠2->∃r,q<r/\r<=m/\(r=m\/fl.getD r 0≠2)/\Region.waitsFor .any l.toArray (π.getD r 0) (π.getD q 0)=true
theorem floatL_spec{l:List Oper}{π:List Nat}{fl:List Nat}{ws:List (Option Nat)}{m:Nat}(h:floatL P l π fl ws m=true):FloatL P l π fl m:=by
 unfold floatL at h;simp only[Bool.and_eq_true]at h;obtain⟨⟨⟨⟨⟨⟨⟨⟨⟨h1,hL⟩,h2⟩,h3⟩,h4⟩,h5⟩,h6⟩,h7⟩,h8⟩,h9⟩:=h;simp only[List.all_eq_true,List.mem_range]at hL h2 h3 h4 h5 h6 h8;refine⟨h1,fun q hq e=>by
  have z:=hL q hq;rw[Bool.or_eq_true]at z;rcases z with z|z
  ·rw[e]at z;simp at z
  ·exact z,fun q hq=>?_,fun i hi=>?_,fun q r hq hr e=>?_,fun q c hq hc hf=>?_,fun q r o oj t hq hr ho hoj hd ht=>?_,by simpa using h7,fun q hm hq=>?_,fun hm q hq hq2=>?_⟩
 ·have:=h2 (π.getD q 0) (by rw[List.getD,List.getElem?_eq_getElem hq];exact List.getElem_mem hq)
  simpa using this
 ·have:=h3 i hi
  rw[List.contains_iff_mem]at this;obtain⟨q,hq,e⟩:=List.getElem_of_mem this;exact⟨q,hq,by rw[List.getD,List.getElem?_eq_getElem hq];exact e⟩
 ·have:=h4 q hq r hr
  rw[Bool.or_eq_true,decide_eq_true_eq]at this;rcases this with e'|e'
  ·exact e'
  ·rw[e]at e';simp at e'
 ·have:=h5 q hq
  split at this
  ·rw[List.all_eq_true]at this
   rw[this c (List.mem_range.2 hc)]at hf;cases hf
  ·rename_i r _
   simp only[Bool.and_eq_true,decide_eq_true_eq,List.all_eq_true,List.mem_range,Bool.or_eq_true]at this;obtain⟨⟨t1,t2⟩,t3⟩:=this;rcases t3 c hc with e|e
   ·exact⟨r,e,t1,t2⟩
   ·rw[e]at hf;cases hf
 ·have:=h6 q hq
  rw[ho]at this;simp only[List.all_eq_true,List.mem_range]at this;have:=this r hr;rw[hoj]at this;simp only[hd,Bool.or_eq_true,Bool.and_eq_true,decide_eq_true_eq,Bool.not_eq_true']at this;rcases this with(e|e)|e
  ·have hm:(QM l o).contains t=true:=by simpa using ht
   rw[hm]at e;cases e
  ·exact .inl ⟨e.1.1,e.1.2,by simpa using e.2⟩
  ·exact .inr e
 ·have:=h8 q hq
  simp only[Bool.or_eq_true,decide_eq_true_eq,Bool.not_eq_true']at this;rcases this with e|e
  ·omega
  ·exact e
 ·rw[Bool.or_eq_true,decide_eq_true_eq]at h9
  rcases h9 with e|e
  ·omega
  ·rw[List.all_eq_true]at e
   have:=e q (List.mem_range.2 hq);rw[Bool.or_eq_true]at this;rcases this with this|this
   ·exact absurd (by simpa using this) hq2
   rw[List.any_eq_true]at this;obtain⟨r,hr,hw⟩:=this;rw[List.mem_range]at hr;simp only[Bool.and_eq_true,Bool.or_eq_true,decide_eq_true_eq]at hw;exact⟨r,hw.1.1,by omega,hw.1.2.imp id (fun z=>by simpa using z),hw.2⟩
theorem advanceL{l:List Oper}(hall:Xm n l=true){π:List Nat}{fl:List Nat}{m:Nat}(F:FloatL P l π fl m){K:Slots->AHeap->Prop}{g:AHeap}(hg₀:Sub g₀ g):∀(d p:Nat) (S:Slots),π.length-p=d->p<=π.length->qaE P wz l g₀ ((Yb l π).drop p) (m-p) (fl.drop p) S g K->
 ∃p' S',p<=p'/\p'<=π.length/\(p'<π.length->isL P l π fl m p'=false)/\(∀q,p<=q->q<p'->isL P l π fl m q=true)/\qaE P wz l g₀ ((Yb l π).drop p') (m-p') (fl.drop p') S' g K/\
  (∀q o,p<=q->q<p'->l[π.getD q 0]?=some o->∃V,(∀t,o.dst=some t->S'.get t=V)/\FactC P wz n l g S' o V/\(fl.getD q 0=2->FactC P wz n l g₀ S' o V))/\
  (∀t,(∀q o,p<=q->q<p'->l[π.getD q 0]?=some o->o.dst≠some t)->S'.get t=S.get t):=by
 intro d;induction d with
 |zero=>
  intro p S hd hp ha;exact⟨p,S,Nat.le_refl _,hp,fun h=>by omega,fun q h1 h2=>by omega,ha,fun q o h1 h2=>by omega,fun t _=>rfl⟩
 |succ d ih=>
  intro p S hd hp ha;have hpl:p<π.length:=by omega
  cases hf:isL P l π fl m p with
  |false=>exact⟨p,S,Nat.le_refl _,hp,fun _=>hf,fun q h1 h2=>by omega,ha,fun q o h1 h2=>by omega,fun t _=>rfl⟩
  |true=>
   have hpm:p<m:=by
    refine Nat.lt_of_not_le fun h=>?_;rw[F.tail p h hpl]at hf;cases hf
   obtain⟨o,ho⟩:∃o,l[π.getD p 0]?=some o:=⟨_,List.getElem?_eq_getElem (F.inr p hpl)⟩
   rw[qaB F.inr hpl ho,show m-p=(m-(p+1))+1 by omega]at ha;have hfl:(fl.drop p).getD 0 0=fl.getD p 0:=by simp[List.getD,List.getElem?_drop]
   have hfd:(fl.drop p).drop 1=fl.drop (p+1):=by rw[List.drop_drop]
   obtain⟨V,hv,hfact,hfact₀⟩:∃V,qaE P wz l g₀ ((Yb l π).drop (p+1)) (m-(p+1)) (fl.drop (p+1)) (putD S o.dst V) g K/\FactC P wz n l g S o V/\(fl.getD p 0=2->FactC P wz n l g₀ S o V):=by
    by_cases hb2:fl.getD p 0=2
    ·have ha:=lOps_take2 (by rw[hfl,hb2]) ha
     rw[hfd]at ha;have hk2:YE P o.op=2:=by
      have:=F.lateF p hpm hb2;unfold isF at this;rw[ho]at this;simpa using this
     obtain⟨V,hv,hfact⟩:=fact_of hall hk2 ha;exact⟨V,hv,hfact.toC.sub hg₀,fun _=>hfact.toC⟩
    ·by_cases hb1:fl.getD p 0=1
     ·obtain⟨V,h1,h2⟩:=lOps_take1 (by rw[hfl,hb1]) ha
      rw[hfd]at h2;exact⟨V,h2,fact_free hall h1,fun e=>absurd e hb2⟩
     ·have hk2:YE P o.op=2:=by
       unfold isL isF at hf;rw[ho]at hf;simp only[Bool.and_eq_true,Bool.or_eq_true,beq_iff_eq,hb1,false_or]at hf;simpa using hf.2
      have ha:=lOps_step (by rw[hfl];exact hb1) (by rw[hfl];exact hb2) ha;rw[hfd]at ha;obtain⟨V,⟨_,hv⟩,hfact⟩:=fact_of hall hk2 ha;exact⟨V,hv,hfact.toC,fun e=>absurd e hb2⟩
   obtain⟨p',S',a1,a2,a3,a4,a5,a6,a7⟩:=ih (p+1) (putD S o.dst V) (by omega) (by omega) hv;have notlook:∀q oq t,p<=q->q<p'->l[π.getD q 0]?=some oq->oq.dst=some t->t∉QM l o:=fun q oq t h1 h2 h3 h4 ht=>by
    rcases F.data p q o oq t hpl (by omega) ho h3 h4 ht with⟨c1,c2,_⟩|⟨c1,_⟩
    ·have:=a4 q (by omega) h2
     rw[F.tail q c2 (by omega)]at this;cases this
    ·omega
   have uniq:∀q oq t,p<q->q<π.length->l[π.getD q 0]?=some oq->oq.dst=some t->o.dst≠some t:=fun q oq t h1 h2 h3 h4 e=>by
    have:=((XN F.order ho).2 _ oq t h3 h4).1 e;have:=F.inj p q hpl h2 this;omega
   refine⟨p',S',by omega,a2,a3,fun q h1 h2=>?_,a5,fun q oq h1 h2 hq=>?_,fun t ht=>?_⟩
   ·rcases Nat.eq_or_lt_of_le h1 with e|e
    ·rw[<-e];exact hf
    ·exact a4 q e h2
   ·rcases Nat.eq_or_lt_of_le h1 with e|e
    ·subst e
     rw[ho]at hq;obtain rfl:=Option.some.inj hq;have hsl:∀t∈QM l o,S'.get t=S.get t:=fun t ht=>by
      rw[a7 t fun q oq h3 h4 h5 h6=>notlook q oq t (by omega) (by omega) h5 h6 ht,ZF,if_neg fun e=>notlook p o t (Nat.le_refl _) (by omega) ho e ht]
     refine⟨V,fun t ht=>?_,hfact.slots hsl,fun e=>(hfact₀ e).slots hsl⟩;rw[a7 t fun q oq h3 h4 h5 h6=>uniq q oq t h3 (by omega) h5 h6 ht,ZF,if_pos ht]
    ·exact a6 q oq e h2 hq
   ·rw[a7 t fun q oq h3 h4 h5=>ht q oq (by omega) h4 h5,ZF,if_neg (ht p o (Nat.le_refl _) (by omega) ho)]
def PhaseL(P:Program)(wz:World)(n:FrameK)(g₀:AHeap)(l:List Oper)(π:List Nat)(fl:List Nat)(m:Nat)(K:Slots->AHeap->Prop)(listed:Array Bool)(Ps:PMap)(a:Act)(w:World):Prop:=
 listed.size=l.length/\(∀j oj,l[j]?=some oj->listed.getD j false=true->∀e∈oj.after,Region.binds .any e=true->listed.getD e.on false=true)/\a.tmps.size=n/\a.defers=n.dfr/\
 ∃p S g,p<=π.length/\(p<π.length->isL P l π fl m p=false)/\(∀q,p<=q->q<π.length->listed.getD (π.getD q 0) false=false)/\(∀q,q<p->isL P l π fl m q=false->listed.getD (π.getD q 0) false=true)/\
  (m<p->∀q,q<p->fl.getD q 0≠2->listed.getD (π.getD q 0) false=true)/\Sub g₀ g/\HRel wz Ps g w/\qaE P wz l g₀ ((Yb l π).drop p) (m-p) (fl.drop p) S g K/\
  (∀q o,q<p->l[π.getD q 0]?=some o->listed.getD (π.getD q 0) false=false->∃V,(∀t,o.dst=some t->S.get t=V)/\FactC P wz n l g S o V/\(fl.getD q 0=2->FactC P wz n l g₀ S o V))/\
  ∀t,(∃q o,q<p/\l[π.getD q 0]?=some o/\o.dst=some t/\listed.getD (π.getD q 0) false=false)\/VR Ps (S.get t) (a.tmps.getD t undef)
theorem any_okL{l:List Oper}(hall:Xm n l=true){π:List Nat}{fl:List Nat}{m:Nat}(F:FloatL P l π fl m){K:Slots->AHeap->Prop}{fi:PMap}{Q:Exit->Act->World->Prop}
 (hq:∀Ps S g a w,fi.le Ps->HRel wz Ps g w->SRel Ps n S a->K S g->Q .normal a w):∀(fuel:Nat) (listed:Array Bool) (a:Act) (w:World) (Ps:PMap),fi.le Ps->PhaseL P wz n g₀ l π fl m K listed Ps a w->
 (listed.toList.filter (!·)).length<=fuel->wpAny P .any l.toArray Q fuel listed a w:=by
 have hB:=F.order;have fin:∀(listed:Array Bool) (a:Act) (w:World) (Ps:PMap),fi.le Ps->PhaseL P wz n g₀ l π fl m K listed Ps a w->Region.ready .any l.toArray listed=[]->Q .normal a w:=by
  rintro listed a w Ps hle ⟨i1,i2,i3,i4,p,S,g,p1,p2,p3,p4,p5,pg,p6,p7,p8,p9⟩ hrd;have hal:=qbW hB i1 hrd;have hp:p=π.length:=by
   rcases Nat.eq_or_lt_of_le p1 with e|e
   ·exact e
   ·have:=p3 p (Nat.le_refl _) e
    rw[hal _ (F.inr p e)]at this;cases this
  subst hp;rw[show(Yb l π).drop π.length=[] by rw[<-qbh F.inr];simp,lOps_nil]at p7;refine hq Ps S g a w hle p6 ⟨i3,i4,fun t=>?_⟩ p7;rcases p9 t with⟨q,o,c1,c2,c3,c4⟩|c
  ·rw[hal _ (F.inr q c1)]at c4;cases c4
  ·exact c
 intro fuel;induction fuel with
 |zero=>
  intro listed a w Ps hle inv hc;have hrd:Region.ready .any l.toArray listed=[]:=by
   cases hrd:Region.ready .any l.toArray listed with
   |nil=>rfl
   |cons i r=>
    exfalso;have hm:i∈Region.ready .any l.toArray listed:=by rw[hrd];exact List.mem_cons_self
    obtain⟨h1,o,ho,_⟩:=mem_ready.1 hm;have hi:i<listed.size:=by
     have:l[i]?=some o:=by simpa using ho
     rw[inv.1];exact(List.getElem?_eq_some_iff.1 this).1
    have h2:listed.toList[i]?=some false:=by
     simp[Array.getD,hi]at h1;simp[hi,h1]
    have:=List.mem_of_getElem? h2;have hmem:false∈listed.toList.filter (!·):=by simp[List.mem_filter,this]
    have:=List.length_pos_of_mem hmem;omega
  exact⟨hrd,fin listed a w Ps hle inv hrd⟩
 |succ fuel ih=>
  intro listed a w Ps hle inv hc;refine⟨fun hrd=>fin listed a w Ps hle inv hrd,fun i hi=>?_⟩;obtain⟨i1,i2,i3,i4,p,S,g,p1,p2,p3,p4,p5,pg,p6,p7,p8,p9⟩:=inv;obtain⟨h1,o,ho,hedges⟩:=mem_ready.1 hi;have hol:l[i]?=some o:=by simpa using ho
  have hilt:i<l.length:=(List.getElem?_eq_some_iff.1 hol).1;have hisz:i<listed.size:=by rw[i1];exact hilt
  have hif:listed.getD i false=false:=by simp[Array.getD,hisz]at h1|-;exact h1
  have hcount:((listed.setIfInBounds i true).toList.filter (!·)).length<=fuel:=by
   have h2:listed.toList[i]?=some false:=by
    simp[Array.getD,hisz]at h1;simp[hisz,h1]
   have:=qby listed.toList i h2;have e:(listed.setIfInBounds i true).toList=listed.toList.set i true:=by simp
   rw[e];omega
  have hdn:∀d,o.dst=some d->d<n:=fun d hd=>qcr l i d hall (by rw[Yk,hol];exact hd);obtain⟨q,hql,hqi⟩:=F.onto i hilt;have hoq:l[π.getD q 0]?=some o:=by rw[hqi];exact hol
  have looks:LookOk Ps n l o S a:=⟨i3,i4,fun t ht=>by
   rcases p9 t with⟨r,oj,c1,c2,c3,c4⟩|c
   ·exfalso
    rcases F.data q r o oj t hql (by omega) hoq c2 c3 ht with⟨d1,d2,d3⟩|⟨_,this⟩
    ·have:=p5 (by omega) q (by omega) d3
     rw[hqi,hif]at this;cases this
    ·rw[hqi]at this
     rw[YB hol hedges this]at c4;cases c4
   ·exact c⟩
  have closed':∀j oj,l[j]?=some oj->(listed.setIfInBounds i true).getD j false=true->∀e∈oj.after,Region.binds .any e=true->(listed.setIfInBounds i true).getD e.on false=true:=fun j oj hj hl e he hb=>by
   by_cases e1:e.on=i
   ·rw[e1];exact set_self hisz
   ·rw[XI e1]
    by_cases e2:j=i
    ·subst e2
     rw[hol]at hj;obtain rfl:=Option.some.inj hj;exact hedges e he hb
    ·rw[XI e2]at hl
     exact i2 j oj hj hl e he hb
  have other:∀r,r<π.length->r≠q->(listed.setIfInBounds i true).getD (π.getD r 0) false=listed.getD (π.getD r 0) false:=fun r hr hne=>XI fun e=>hne (F.inj r q hr hql (by rw[e,hqi]));have nobehind:p<q->False:=fun hpq=>by
   obtain⟨r,r1,r2,r3⟩:=F.wait q p hql hpq (p2 (by omega));rw[hqi]at r3;have:=YB hol hedges r3;rw[p3 r r1 (by omega)]at this;cases this
  have goal:(if Region.wanted o (yielded l.toArray a.tmps)=true then o.wp P a w (wpAny P .any l.toArray Q fuel (listed.setIfInBounds i true)) Q else wpAny P .any l.toArray Q fuel (listed.setIfInBounds i true) (a.put o.dst undef) w):=by
   rcases Nat.lt_or_ge q p with hqp|hqp
   ·
    obtain⟨V,v1,v2,-⟩:=p8 q o hqp hoq (by rw[hqi];exact hif);refine v2 Ps w a g _ Q (Sub.refl g) p6 looks fun ψ₂ v wx hle₂ hr₂ hv=>?_;refine ih _ _ _ ψ₂ (PMap.le_trans hle hle₂) ⟨by simp[i1],closed',by rw[qbH];exact i3,by rw[put_defers];exact i4,p,S,g,p1,p2,fun r r1 r2=>?_,fun r r1 r2=>?_,fun hm r r1 r2=>?_,pg,hr₂,p7,fun r oj r1 r2 r3=>?_,fun t=>?_⟩ hcount
    ·rw[other r r2 (by omega)];exact p3 r r1 r2
    ·by_cases e:r=q
     ·rw[e,hqi];exact set_self hisz
     ·rw[other r (by omega) e];exact p4 r r1 r2
    ·by_cases e:r=q
     ·rw[e,hqi];exact set_self hisz
     ·rw[other r (by omega) e];exact p5 hm r r1 r2
    ·by_cases e:r=q
     ·rw[e,hqi,set_self hisz]at r3;cases r3
     ·rw[other r (by omega) e]at r3
      exact p8 r oj r1 r2 r3
    ·by_cases hod:o.dst=some t
     ·right
      rw[v1 t hod,WM a hod (by rw[i3];exact hdn t hod)];exact hv t hod
     ·rcases p9 t with⟨r,oj,c1,c2,c3,c4⟩|c
      ·refine .inl ⟨r,oj,c1,c2,c3,?_⟩
       rw[other r (by omega) fun e=>by subst e;rw[hoq]at c2;obtain rfl:=Option.some.inj c2;exact hod c3];exact c4
      ·right
       rw[Wi a hod];exact We hle₂ _ _ c
   ·have hqe:q=p:=by
     rcases Nat.eq_or_lt_of_le hqp with e|e
     ·exact e.symm
     ·exact(nobehind e).elim
    subst hqe;have all_m:m<=q->∀r,r<q->fl.getD r 0≠2->listed.getD (π.getD r 0) false=true:=fun hm r hr hr2=>by
     rcases Nat.eq_or_lt_of_le hm with e|e
     ·subst e
      have key:∀d r,r+d=m->r<m->fl.getD r 0≠2->listed.getD (π.getD r 0) false=true:=by
       intro d;induction d using Nat.strongRecOn with
       |ind d ihd=>
        intro r hd hr hr2;obtain⟨r',s1,s2,s4,s3⟩:=F.sink hql r hr hr2;rcases Nat.eq_or_lt_of_le s2 with e|e
        ·subst e
         rw[hqi]at s3;exact YB hol hedges s3
        ·have hl:=ihd (m-r') (by omega) r' (by omega) e (s4.resolve_left (by omega))
         obtain⟨oj,hoj⟩:∃oj,l[π.getD r' 0]?=some oj:=⟨_,List.getElem?_eq_getElem (F.inr r' (by omega))⟩
         exact YB hoj (i2 _ oj hoj hl) s3
      exact key (m-r) r (by omega) hr hr2
     ·exact p5 e r hr hr2
    obtain⟨K',ha,hnext⟩:∃K':Slots->AHeap->Prop,QJ P wz l [o] S g K'/\∀s' h',K' s' h'->(q<m->Sub g h')/\Sub g₀ h'/\qaE P wz l g₀ ((Yb l π).drop (q+1)) (m-(q+1)) (fl.drop (q+1)) s' h' K:=by
     rw[qaB F.inr hql hoq]at p7;have hfl:(fl.drop q).getD 0 0=fl.getD q 0:=by simp[List.getD,List.getElem?_drop]
     have hfd:(fl.drop q).drop 1=fl.drop (q+1):=by rw[List.drop_drop]
     by_cases c:q<m
     ·have hfb:fl.getD q 0≠1/\fl.getD q 0≠2:=by
       have:=p2 hql;unfold isL at this;rw[decide_eq_true c,Bool.true_and,Bool.or_eq_false_iff]at this;refine⟨by simpa using this.1,fun e=>?_⟩;rw[F.lateF q c e]at this;cases this.2
      rw[show m-q=(m-(q+1))+1 by omega]at p7;have p7:=lOps_step (by rw[hfl];exact hfb.1) (by rw[hfl];exact hfb.2) p7;rw[hfd]at p7;exact⟨_,p7,fun s' h' hx=>⟨fun _=>hx.1,pg.trans hx.1,hx.2⟩⟩
     ·rw[show m-q=0 by omega,lOps_zero]at p7
      refine⟨_,p7,fun s' h' hx=>⟨fun hc=>absurd hc c,hx.1,?_⟩⟩;rw[show m-(q+1)=0 by omega,lOps_zero' (bs':=[])];exact hx.2
    refine one_ok hall ha p6 looks fun ψ' x h' v w' e1 e2 e3 hk=>?_;obtain⟨k1,kg,k2⟩:=hnext _ _ hk;obtain⟨p',S',a1,a2,a3,a4,a5,a6,a7⟩:=advanceL hall F kg (π.length-(q+1)) (q+1) (putD S o.dst x) rfl (by omega) k2;have keep:∀r or t,r<q->l[π.getD r 0]?=some or->listed.getD (π.getD r 0) false=false->(or.dst=some t\/t∈QM l or)->S'.get t=S.get t:=fun r or t hr hor hun ht=>by
     have nd:∀u ou,q<=u->u<max p' (q+1)->u<π.length->l[π.getD u 0]?=some ou->ou.dst≠some t:=fun u ou h1 hup h2 h3 h4=>by
      rcases ht with ht|ht
      ·have:=((XN hB hor).2 _ ou t h3 h4).1 ht
       have:=F.inj r u (by omega) h2 this;omega
      ·rcases F.data r u or ou t (by omega) h2 hor h3 h4 ht with⟨c1,c2,c3⟩|⟨c1,_⟩
       ·rcases Nat.eq_or_lt_of_le h1 with e|e
        ·subst e
         rw[all_m c2 r hr c3]at hun;cases hun
        ·have:=a4 u e (by omega)
         rw[F.tail u c2 h2]at this;cases this
       ·omega
     rw[a7 t fun u ou h1 h2 h3=>nd u ou (by omega) (by omega) (by omega) h3,ZF,if_neg (nd q o (Nat.le_refl _) (by omega) hql hoq)]
    refine ih _ _ _ ψ' (PMap.le_trans hle e1) ⟨by simp[i1],closed',by rw[qbH];exact i3,by rw[put_defers];exact i4,p',S',h',a2,a3,fun r r1 r2=>?_,fun r r1 r2=>?_,fun hm r r1 rl=>?_,kg,e2,a5,fun r oj r1 r2 r3=>?_,fun t=>?_⟩ hcount
    ·rw[other r r2 (by omega)];exact p3 r (by omega) r2
    ·by_cases e:r=q
     ·rw[e,hqi];exact set_self hisz
     ·rw[other r (by omega) e]
      rcases Nat.lt_or_ge r q with c|c
      ·exact p4 r c r2
      ·rw[a4 r (by omega) r1]at r2;cases r2
    ·have hmq:m<=q:=by
      refine Nat.le_of_not_lt fun hc=>?_;have hmp:m<π.length:=by omega
      have:=a4 m (by omega) hm;rw[F.tail m (Nat.le_refl _) hmp]at this;cases this
     by_cases e:r=q
     ·rw[e,hqi];exact set_self hisz
     ·rw[other r (by omega) e]
      rcases Nat.lt_or_ge r q with c|c
      ·exact all_m hmq r c rl
      ·have:=a4 r (by omega) r1
       rw[F.tail r (by omega) (by omega)]at this;cases this
    ·by_cases e:r=q
     ·rw[e,hqi,set_self hisz]at r3;cases r3
     ·rw[other r (by omega) e]at r3
      rcases Nat.lt_or_ge r q with c|c
      ·obtain⟨V,v1,v2,v3⟩:=p8 r oj c r2 r3
       have hsl:∀t∈QM l oj,S'.get t=S.get t:=fun t ht=>keep r oj t c r2 r3 (.inr ht);refine⟨V,fun t ht=>(keep r oj t c r2 r3 (.inl ht)).trans (v1 t ht),?_,fun e=>(v3 e).slots hsl⟩;by_cases e2:fl.getD r 0=2
       ·exact((v3 e2).sub kg).slots hsl
       ·have hqm:q<m:=by
         refine Nat.lt_of_not_le fun hm=>?_;rw[all_m hm r c e2]at r3;cases r3
        exact(v2.sub (k1 hqm)).slots hsl
      ·exact a6 r oj (by omega) r1 r2
    ·by_cases hod:o.dst=some t
     ·right
      rw[a7 t fun u ou h1 h2 h3 h4=>by
       have:=((XN hB hoq).2 _ ou t h3 h4).1 hod;have:=F.inj q u hql (by omega) this;omega,ZF,if_pos hod,WM a hod (by rw[i3];exact hdn t hod)]
      exact e3
     ·by_cases hw:∃r or,q+1<=r/\r<p'/\l[π.getD r 0]?=some or/\or.dst=some t
      ·obtain⟨r,or,w1,w2,w3,w4⟩:=hw
       exact .inl ⟨r,or,w2,w3,w4,by rw[other r (by omega) (by omega)];exact p3 r (by omega) (by omega)⟩
      ·have hS:S'.get t=S.get t:=by
        rw[a7 t fun u ou h1 h2 h3 h4=>hw ⟨u,ou,h1,h2,h3,h4⟩,ZF,if_neg hod]
       rcases p9 t with⟨r,oj,c1,c2,c3,c4⟩|c
       ·exact .inl ⟨r,oj,by omega,c2,c3,by rw[other r (by omega) (by omega)];exact c4⟩
       ·right
        rw[hS,Wi a hod];exact We e1 _ _ c
  simp only[wpOp,ho];split
  ·rename_i hw
   rw[if_pos hw]at goal;exact .inl goal
  ·rename_i hw
   rw[if_neg hw]at goal;exact goal
theorem awp_draw_L{Q:Exit->Slots->AHeap->Prop}{s:Slots}{h:AHeap}{id:Nat}{l:List Oper}(π:List Nat)(fl:List Nat)(ws:List (Option Nat))(m:Nat)(g₀:AHeap)(hm:P.follows .mixedOrders=true)(hB:floatL P l π fl ws m=true)(hd:Xm n l=true)(hg₀:Sub g₀ h)
 (hc:qaE P wz l g₀ (Yb l π) m fl s h fun s' h'=>Q .normal s' h'):Awp P wz n (.region id l.toArray true) Q s h:=by
 refine Awp.of0 ?_;intro fi a w hr hs;have F:=floatL_spec hB;refine wp_region_any hm ?_;have hf:∀j,(Array.replicate l.toArray.size false).getD j false=false:=fun j=>by simp[Array.getD]
 obtain⟨p',S',a1,a2,a3,a4,a5,a6,a7⟩:=advanceL hd F hg₀ π.length 0 s rfl (Nat.zero_le _) (by rw[Nat.sub_zero,List.drop_zero];exact hc);refine any_okL (fi:=fi) hd F (K:=fun s' h'=>Q .normal s' h') (fun Ps S g a' w' hle h1 h2 h3=>⟨Ps,S,g,hle,h1,h2,h3⟩) _ _ _ _ fi fi.le_refl
  ⟨by simp,fun j oj _ hl=>(by rw[hf]at hl;cases hl),hs.size,hs.defers,p',S',h,a2,a3,fun r _ _=>hf _,fun r r1 r2=>?_,fun hm' r r1 _=>?_,hg₀,hr.drew,a5,fun r oj r1 r2 _=>a6 r oj (Nat.zero_le _) r1 r2,fun t=>?_⟩ ?_
 ·rw[a4 r (Nat.zero_le _) r1]at r2;cases r2
 ·have:=a4 m (Nat.zero_le _) hm'
  rw[F.tail m (Nat.le_refl _) (by omega)]at this;cases this
 ·by_cases hw:∃r or,r<p'/\l[π.getD r 0]?=some or/\or.dst=some t
  ·obtain⟨r,or,w2,w3,w4⟩:=hw
   exact .inl ⟨r,or,w2,w3,w4,hf _⟩
  ·right
   rw[a7 t fun u ou _ h2 h3 h4=>hw ⟨u,ou,h2,h3,h4⟩];exact hs.val t
 ·have:=List.length_filter_le (!·) (Array.replicate l.toArray.size false).toList
  simpa using this
end
end Go.AM
namespace Go.Proofs.YtlhhaagmakhilaaGreatDoor
open Go.AM
open Go.Proofs
open Go.Col (Str FaultC okF sp)
open Go.Tok
open Go.Cop
open Go.RowKit (Below)
set_option maxRecDepth 100000
structure OfB(wz:World)(B:AHeap)(kp ka kr:Nat)(rs:List AVal):Prop where
 per:B kp=some ⟨QK perC,0⟩
 pla:B ka=some ⟨(plainC.map QK).flatten,0⟩
 row:B kr=some ⟨rs,0⟩
 prs:∀i,i<6->IsL wz B 5 (rs.getD i .dead) ((pairsC.getD i []).map QK)
structure Of1(B:AHeap)(x:List UInt8)(g:Nat×Option Buf):Prop where
 i:g.1<=x.length
 i2:g.1<=60
 ok:bufOk B 5 g.2
 eq:Yu g.2=((qaz ((x.take g.1).map UInt8.toNat)).map QK).flatten
theorem raw_step{x:List UInt8}{i:Nat}(hi:i<x.length):qaz ((x.take (i+1)).map UInt8.toNat)=qaz ((x.take i).map UInt8.toNat)++Yz (x.getD i 0).toNat:=by
 rw[List.take_add_one,List.getElem?_eq_getElem hi,List.map_append,rawC_app];simp[List.getD,hi,qaz]
theorem raw_end{x:List UInt8}{i:Nat}(hi:i<=60)(h:i=60\/x.length<=i):qaz ((x.take i).map UInt8.toNat)=qaz (qdl x):=by
 unfold qdl;rcases h with h|h
 ·rw[h]
 ·rw[List.take_of_length_le h,List.take_of_length_le (Nat.le_trans h hi)]
theorem raw_few(x:List UInt8){i:Nat}(hi:i<=60):(qaz ((x.take i).map UInt8.toNat)).length<=840:=by
 have h:=(qcD (ns:=(x.take i).map UInt8.toNat) (fun n hn=>by obtain⟨b,-,rfl⟩:=List.mem_map.1 hn;exact b.toNat_lt)).2;rw[List.length_map,List.length_take]at h;omega
theorem digits_cut:∀i:Fin 8,(([48,49,50,51,52,53,54,55]:Str).drop i.val).take (i.val+1-i.val)=[UInt8.ofNat (48+i.val)]:=by decide
theorem chunk_one{n:Nat}(h:n<160):Yz n=[plainC.getD (n%8) Zy]:=by
 unfold Yz;rw[if_pos h,qej plainC noT Zy (by show n%8<8;omega)]
theorem pairs_len:∀i:Fin 6,(pairsC.getD i.val []).length<=10:=by decide
set_option maxHeartbeats 8000000 in
theorem of_rest1(wz:World)(h B:AHeap)(hBs:Sub h B)(v:AVal)(x:List UInt8)(hv:IsL wz h 1 v (x.map Uf))(hl:x.length<=9223372036854775807)(kp ka kr:Nat)(rs:List AVal)(hB:OfB wz B kp ka kr rs):
 Awp Tryz.prog wz 178 (WP 6 (qcu Tryz.f10)) (qcB Tryz.prog wz [.tmp 2] (fun r h'=>∃tb,r=QA 5 tb/\bufOk h 5 tb/\Yu tb=((lOf x).map QK).flatten/\h'=QG h tb)) [(0,v),(3, .func 27 []),(4, .ptr (.own kp) 0),(6, .slice (.own ka) 0 8 (.exact 8)),(7, .slice (.own kr) 0 6 (.exact 6))] (B):=by
 have hlv:=hv.live;have hlen:=hv.len Tryz.underlying23;rw[List.length_map]at hlen;obtain⟨b1,b2,b3,b4⟩:=hB;change Awp _ _ _ (Code.seq _ _) _ _ _;refine awp_rseq [0,3,4,6,7,8] (by rfl) fun K hK=>?_;simp+decide only[qa,ev,qH,qF,putD,Slots.put,Slots.keep,if_true,if_false,true_and,↓qd,qb];apply hK;clear hK K;refine qK ?_;refine awp_rseq [0,3,4,6,7,8,9] (by rfl) fun K hK=>?_;simp+decide only[qa,ev,qH,qF,putD,Slots.put,Slots.keep,if_true,if_false,true_and,↓qd,qb];apply hK;clear hK K;refine Ql ?_;refine Xv [0,3,4,6,7,8,9] (fun g:Nat×Option Buf=>[(0,v),(3, .func 27 []),(4, .ptr (.own kp) 0),(6, .slice (.own ka) 0 8 (.exact 8)),(7, .slice (.own kr) 0 6 (.exact 6)),(8,QA 5 g.2),(9, .int .i64 g.1)]) (fun g:Nat×Option Buf=>QG B g.2) (fun g:Nat×Option Buf=>Of1 B x g) (fun g:Nat×Option Buf=>60-g.1) (0,none) (by rfl) (Sub.refl _) ⟨Nat.zero_le _,Nat.zero_le _,trivial,rfl⟩ ?_;rintro⟨i,tb⟩ ⟨g1,g4,g2,g3⟩;simp only at g1 g2 g3 g4|-
 have hbl:=QV 5 tb;have hSb:Sub h (QG B tb):=hBs.trans (Sub.buf g2);refine qK ?_;refine awp_rseq [0,3,4,6,7,8,9,106] (by rfl) fun K hK=>?_;simp+decide only[qa,ev,qH,qF,putD,Slots.put,Slots.get,Slots.keep,if_true,if_false,true_and,↓qh,qc,↓Xo,QD,↓qA,ql,qR,cond_false,qo,XP,↓Xf,agP,Qs,qL,qI,qz,implies_true,↓Xb,qB,Zc,Zd,↓QT,Qu,Qh,Xg,Xp,hlen];apply hK;clear hK K;refine qJ (b:=_) rfl (fun hb1=>?_) (fun hb1=>?_)
 ·try simp only[decide_eq_true_eq,Bool.and_eq_true]at hb1
  have hi:i<x.length:=by omega
  have hi2:i<60:=by omega
  obtain⟨lc,o,cp,e⟩:=hv.open (fun e=>by rw[List.map_eq_nil_iff]at e;subst e;simp at hi);rw[List.length_map]at e;subst e;have he:=(hv.mono hSb).elem (i:=i) (by rw[List.length_map];exact hi);rw[getD_map 0 hi,Nat.mul_one]at he;simp only[qf,Uf,List.cons.injEq,and_true]at he;obtain⟨n,hn⟩:∃n,n=(x.getD i 0).toNat:=⟨_,rfl⟩
  have hn8:n<256:=by rw[hn];exact UInt8.toNat_lt _
  have hst:=raw_step hi;obtain⟨l,hl0⟩:∃l,l=qaz ((x.take i).map UInt8.toNat):=⟨_,rfl⟩
  have hll:l.length<=840:=by rw[hl0];exact raw_few x (by omega)
  rw[<-hl0,<-hn]at hst;rw[<-hl0]at g3;rw[<-hn]at he;have m8:Int.tmod (n:Int) 8=((n%8:Nat):Int):=by rw[Int.tmod_eq_emod_of_nonneg (by omega)];omega
  have m6:Int.tmod (n:Int) 6=((n%6:Nat):Int):=by rw[Int.tmod_eq_emod_of_nonneg (by omega)];omega
  have hP:IsL wz (QG B tb) 5 (.slice (.own ka) 0 plainC.length (.exact 8)) (plainC.map QK):=IsL.own (ZR g2 b2) Xc rfl rfl (.exact 8) (Nat.le_refl _);obtain⟨t,ht⟩:∃t,t=plainC.getD (n%8) Zy:=⟨_,rfl⟩
  obtain⟨p0,p1,p2,p3,p4⟩:=qaw hP (i:=n%8) (by show n%8<8;omega);rw[<-ht]at p0 p1 p2 p3 p4;rw[Nat.zero_add]at p0 p1 p2 p3 p4;have p2':rd wz (QG B tb) (.own ka) (n%8*5+1+1)= .int .i64 t.line:=p2;have p3':rd wz (QG B tb) (.own ka) (n%8*5+1+1+1)= .int .i64 t.col:=p3;have p4':rd wz (QG B tb) (.own ka) (n%8*5+1+1+1+1)= .bool t.left:=p4;have hcut:=digits_cut ⟨n%8,by omega⟩;simp only at hcut;have hcut1:List.take ((((n%8:Nat):Int)+1).toNat-n%8) (List.drop (n%8) ([48,49,50,51,52,53,54,55]:Str))=[UInt8.ofNat (48+n%8)]:=by
   rw[show(((n%8:Nat):Int)+1).toNat=n%8+1 by omega];exact hcut
  obtain⟨nm,hnm⟩:∃nm,nm=nameC n:=⟨_,rfl⟩
  refine qP ?_;change Awp _ _ _ _ _ _ _;refine qK ?_;refine Ql ?_;refine awp_rseq [0,3,4,6,7,8,9,10] (by rfl) fun K hK=>?_;simp+decide only[qa,ev,putD,Slots.put,Slots.get,Slots.keep,if_true,if_false,true_and,↓qh,qc,↓QB,qY,Qb Tryz.underlying23 sz5,↓qG,qy ag5,↓ap_convert _ _ _ (es_int Tryz.underlying5 Tryz.underlying3),qcg,pConv_int Tryz.underlying5 Tryz.underlying3,↓qd,qb,qi,he,Int.toNat_natCast,Nat.mul_one];try simp(disch:=omega)only[wrap_i64]
  repeat (with_reducible refine And.intro ?_ ?_;· first|trivial|omega|(intro hg;simp only[Bool.and_eq_true,Bool.or_eq_true,Bool.not_eq_true',Bool.and_eq_false_iff,Bool.or_eq_false_iff,Bool.not_eq_false',decide_eq_true_eq,decide_eq_false_iff_not,XV]at hg;omega)|(simp only[List.length_append,List.length_map,List.length_range,List.length_replicate,List.length_take,List.length_drop,List.length_cons,List.length_nil,List.length_set,List.length_reverse];omega))
  apply hK;clear hK K;refine qK ?_;refine awp_rseq [0,3,4,6,7,8,9,10,115] (by rfl) fun K hK=>?_;simp+decide only[qa,ev,qH,qF,putD,Slots.put,Slots.get,Slots.keep,if_true,if_false,true_and,↓qh,qc,↓qA,ql,qB,cond_false,qo,XP];apply hK;clear hK K;refine qJ (b:=_) rfl (fun hb2=>?_) (fun hb2=>?_)
  ·try simp only[decide_eq_true_eq]at hb2
   refine awp_rseq [0,3,4,6,7,8,9] (by rfl) fun K hK=>?_;simp+decide only[ev,qH,qF,putD,Slots.put,Slots.get,if_true,if_false,true_and,↓qh,qc,↓qA,ql,qB,cond_false,qo,qdZ,↓QB,qY,Qb Tryz.underlying26 Xa,↓qG,qg Zf Xa,qf,Nat.zero_add,qD,qi,qE,allLive,Bool.and_true,Int.toNat_natCast,Nat.zero_add,p0,p1,p2',p3',p4',Nat.zero_add,m8,Int.toNat_natCast];repeat (with_reducible refine And.intro ?_ ?_;· first|trivial|omega|(intro hg;simp only[Bool.and_eq_true,Bool.or_eq_true,Bool.not_eq_true',Bool.and_eq_false_iff,Bool.or_eq_false_iff,Bool.not_eq_false',decide_eq_true_eq,decide_eq_false_iff_not,XV]at hg;omega)|(simp only[List.length_append,List.length_map,List.length_range,List.length_replicate,List.length_take,List.length_drop,List.length_cons,List.length_nil,List.length_set,List.length_reverse];omega))
   refine Qm (cs:=QK (t)) (by kernel_rfl) fun k12q6 hk12q6=>?_;try have hf_12q6:h k12q6=none:=by first|assumption|(simp only[AHeap.set_none]at hk12q6;simp only[hk12q6])
   refine Xu (es:=5) (zs:=(l).map QK) (xs:=[t].map QK) (hZ:=B) (b:=tb) (by rfl) (by rfl) Tryz.underlying26 Tryz.underlying26 (fun k e=>by cases e) Xa by54 qam (by rfl) (by decide) (by rfl) g2 g3 Xc (Sub.set (by assumption)) (by rfl) (IsL.own (AHeap.set_same _ _ _) (by simp[QK]) (by rfl) (by rfl) (.exact 1) (Nat.le_refl _)) (by rfl) (by simp;omega) (by simp;omega) fun tb2 htb2 o1tb2 o2tb2 o3tb2=>?_;simp+decide only[qa,ev,putD,Slots.put,Slots.get,Slots.keep,if_true,if_false,true_and,↓qd,qb];apply hK;clear hK K;refine Xy ?_;change Awp _ _ _ _ _ _ _;refine XA [0,3,4,6,7,8,9] (by rfl) ?_;simp+decide only[qa,ev,qH,qF,putD,Slots.put,Slots.get,Slots.keep,if_true,if_false,true_and,↓qh,qc,↓qA,ql,qB,cond_false,qo,QY,↓qd,qb];try simp(disch:=omega)only[wrap_i64]
   try simp only[Qg]
   first
   |exact⟨(i+1,tb2),rfl,o3tb2,⟨hi,hi2,o1tb2,by simp only;rw[o2tb2,hst,chunk_one (by omega),ht];simp⟩,by simp only;omega⟩
   |exact⟨(i+1,tb6),rfl,o3tb6,⟨hi,hi2,o1tb6,by simp only;rw[o2tb6,hst,hck (by omega),if_neg (by omega)];simp⟩,by simp only;omega⟩
   |exact⟨(i+1,tj),rfl,Sub.refl _,⟨hi,hi2,z1,by simp only;rw[hst,hck (by omega),if_pos (by omega),List.append_nil];exact z2⟩,by simp only;omega⟩
  ·try simp only[decide_eq_false_iff_not]at hb2
   refine qP ?_;change Awp _ _ _ _ _ _ _;refine awp_rseq [0,3,4,6,7,8,9,10,11] (by rfl) fun K hK=>?_;simp+decide only[ev,qH,qF,putD,Slots.put,Slots.get,if_true,if_false,true_and,↓qh,qc,↓qA,ql,qB,cond_false,qo,qdZ,QY,m8];try simp(disch:=omega)only[wrap_i64]
   try simp+decide only[qa,ev,qH,qF,putD,Slots.put,Slots.get,Slots.keep,if_true,if_false,true_and,↓Ua,Zu,evO,qbL Tryz.underlying9,UN,WZ,↓qA,ql,qR,cond_false,XZ,qdj,↓qd,qb,Int.toNat_natCast,hcut1]
   repeat (with_reducible refine And.intro ?_ ?_;· first|trivial|omega|(intro hg;simp only[Bool.and_eq_true,Bool.or_eq_true,Bool.not_eq_true',Bool.and_eq_false_iff,Bool.or_eq_false_iff,Bool.not_eq_false',decide_eq_true_eq,decide_eq_false_iff_not,XV]at hg;omega)|(simp only[List.length_cons,List.length_nil];omega))
   apply hK;clear hK K;refine qK ?_;refine awp_rseq [0,3,4,6,7,8,9,10,11,132] (by rfl) fun K hK=>?_;simp+decide only[qa,ev,qH,qF,putD,Slots.put,Slots.get,Slots.keep,if_true,if_false,true_and,↓qh,qc,↓qA,ql,qB,cond_false,qo,XR];apply hK;clear hK K;refine Ue [0,3,4,6,7,8,9,10,11] (fun z:Unit=>[(0, .slice lc o x.length cp),(3, .func 27 []),(4, .ptr (.own kp) 0),(6, .slice (.own ka) 0 8 (.exact 8)),(7, .slice (.own kr) 0 6 (.exact 6)),(8,QA 5 tb),(9, .int .i64 i),(10, .int .i64 n),(11, .str nm)]) (fun z:Unit=>QG B tb) (fun z:Unit=>True) ?_ ?_
   ·refine qJ (b:=_) rfl (fun hb3=>?_) (fun hb3=>?_)
    ·try simp only[decide_eq_true_eq]at hb3
     have hN:nm=[77,57]:=by rw[hnm];unfold nameC;rw[if_pos (by omega)]
     refine XA [0,3,4,6,7,8,9,10,11] (by rfl) ?_;simp+decide only[qa,ev,qH,qF,putD,Slots.put,Slots.keep,if_true,if_false,true_and,and_true,↓qd,qb];try simp only[Qg]
     first
     |exact⟨(),by rw[hN]<;>rfl,Sub.refl _⟩
     |exact⟨(),by rw[hN,<-hcut1]<;>rfl,Sub.refl _,trivial⟩
    ·try simp only[decide_eq_false_iff_not]at hb3
     have hN:nm=[77]++[UInt8.ofNat (48+n%8)]:=by rw[hnm];unfold nameC;rw[if_neg (by omega)];rfl
     refine qP ?_;try simp only[Qg]
     first
     |exact⟨(),by rw[hN]<;>rfl,Sub.refl _⟩
     |exact⟨(),by rw[hN,<-hcut1]<;>rfl,Sub.refl _,trivial⟩
   ·rintro z-
    refine awp_rseq [0,3,4,6,7,8,9,10] (by rfl) fun K hK=>?_;simp+decide only[ev,putD,Slots.put,Slots.get,if_true,if_false,true_and,↓qh,qc];refine qN (V:= .agg [.int .u8 1, .str [67,79,80,89], .int .i64 0, .int .i64 0, .bool false]) (by rfl) (by rfl) (XO wz _ _) ?_;simp+decide only[ev,putD,Slots.put,Slots.get,if_true,if_false,true_and,↓qh,qc];refine qN (V:= .agg [.int .u8 1, .str nm, .int .i64 0, .int .i64 0, .bool false]) (by rfl) (by rfl) (XO wz _ _) ?_;refine Qm (cs:=QK (wd COPY)++QK (wd nm)) (by kernel_rfl) fun k16q6 hk16q6=>?_;try have hf_16q6:h k16q6=none:=by first|assumption|(simp only[AHeap.set_none]at hk16q6;simp only[hk16q6])
    refine Xu (es:=5) (zs:=(l).map QK) (xs:=[wd COPY,wd nm].map QK) (hZ:=B) (b:=tb) (by rfl) (by rfl) Tryz.underlying26 Tryz.underlying26 (fun k e=>by cases e) Xa by54 qam (by rfl) (by decide) (by rfl) g2 g3 Xc (Sub.set (by assumption)) (by rfl) (IsL.own (AHeap.set_same _ _ _) (by simp[QK]) (by rfl) (by rfl) (.exact 2) (Nat.le_refl _)) (by rfl) (by simp;omega) (by simp;omega) fun tb3 htb3 o1tb3 o2tb3 o3tb3=>?_;simp+decide only[qa,ev,putD,Slots.put,Slots.get,Slots.keep,if_true,if_false,true_and,↓qd,qb];apply hK;clear hK K;refine qK ?_;refine Awp.forget (h':=QG B tb3) o3tb3 ?_;refine awp_rseq [0,3,4,6,7,8,9,10,142] (by rfl) fun K hK=>?_;simp+decide only[qa,ev,qH,qF,putD,Slots.put,Slots.get,Slots.keep,if_true,if_false,true_and,↓qh,qc,↓qA,ql,qB,cond_false,qo,qaC];apply hK;clear hK K;refine Ue [0,3,4,6,7,8,9,10] (fun z:Option Buf=>[(0, .slice lc o x.length cp),(3, .func 27 []),(4, .ptr (.own kp) 0),(6, .slice (.own ka) 0 8 (.exact 8)),(7, .slice (.own kr) 0 6 (.exact 6)),(8,QA 5 z),(9, .int .i64 i),(10, .int .i64 n)]) (fun z:Option Buf=>QG B z) (fun z:Option Buf=>bufOk B 5 z/\Yu z=((l++(wd COPY::wd nm::if 200<=n then wd Yd::pairsC.getD (n%6) []else[])).map QK).flatten) ?_ ?_
    ·refine qJ (b:=_) rfl (fun hb4=>?_) (fun hb4=>?_)
     ·try simp only[decide_eq_true_eq]at hb4
      obtain⟨sl,hsl⟩:∃sl,sl=rs.getD (n%6) .dead:=⟨_,rfl⟩
      have hsI:=b4 (n%6) (by omega);rw[<-hsl]at hsI;have hsv:=hsI.live;have r6:rd wz B (.own kr) (n%6)=sl:=by rw[hsl];exact Qy wz b3 _
      refine awp_draw_L [0,1,2,5,6,7,8,9,3,4,10,11] [0,0,1,2,2,2,2,2,0,0,0,0] [none,none,none,none,none,none,none,none,none,some 8,some 9,some 10] 9 (B) mixed (by kernel_rfl) (by rfl) (Sub.buf o1tb3) ?_;simp only[Yb,List.filterMap_cons,List.filterMap_nil,List.getElem?_cons_zero,List.getElem?_cons_succ];simp+decide only[qa,ev,putD,Slots.put,Slots.get,if_true,if_false,true_and,lOps_cons,Uc,↓qh,qc];refine lOps_free (V:= .agg [.int .u8 1, .str [82,69,80,76,65,67,73,78,71], .int .i64 0, .int .i64 0, .bool false]) (fun g hg=>?_) ?_
      ·exact qN (V:= .agg [.int .u8 1, .str [82,69,80,76,65,67,73,78,71], .int .i64 0, .int .i64 0, .bool false]) (by rfl) (by rfl) (XO wz _ _) ⟨rfl,rfl⟩
      simp+decide only[qa,ev,qH,qF,putD,Slots.put,Slots.get,if_true,if_false,true_and,lOps_cons,lOps_late,lOps_zero,lOps_nil,↓qh,qc,↓qA,ql,qB,cond_false,qo,qdZ,↓QB,qY,Qb Tryz.underlying67 sz26,↓qG,qy UJ,Nat.zero_add,Int.toNat_natCast,Nat.mul_one,Nat.zero_add,r6,hsv,m6,Int.toNat_natCast,Nat.mul_one,Nat.zero_add];repeat (with_reducible refine And.intro ?_ ?_;· first|trivial|omega|(intro hg;simp only[Bool.and_eq_true,Bool.or_eq_true,Bool.not_eq_true',Bool.and_eq_false_iff,Bool.or_eq_false_iff,Bool.not_eq_false',decide_eq_true_eq,decide_eq_false_iff_not,XV]at hg;omega)|(simp only[List.length_append,List.length_map,List.length_range,List.length_replicate,List.length_take,List.length_drop,List.length_cons,List.length_nil,List.length_set,List.length_reverse];omega))
      refine Qm (cs:=QK (wd Yd)) (by kernel_rfl) fun k18q3 hk18q3=>?_;try have hf_18q3:h k18q3=none:=by first|assumption|(simp only[AHeap.set_none]at hk18q3;simp only[hk18q3])
      rw[qa];refine And.intro (by first|exact Sub.refl _|assumption|exact Sub.set (by assumption)) ?_;simp+decide only[putD,Slots.put,if_true,if_false];refine Xu (es:=5) (zs:=(l++[wd COPY,wd nm]).map QK) (xs:=[wd Yd].map QK) (hZ:=B) (b:=tb3) (by rfl) (by rfl) Tryz.underlying26 Tryz.underlying26 (fun k e=>by cases e) Xa by54 qam (by rfl) (by decide) (by rfl) o1tb3 (by rw[o2tb3];simp) Xc (Sub.set (by assumption)) (by rfl) (IsL.own (AHeap.set_same _ _ _) (by simp[QK]) (by rfl) (by rfl) (.exact 1) (Nat.le_refl _)) (by rfl) (by simp;omega) (by simp;omega) fun tb4 htb4 o1tb4 o2tb4 o3tb4=>?_;have hSg4:Sub B htb4:=Sub.trans (Sub.buf o1tb4) o3tb4;rw[qa];refine And.intro (by first|exact Sub.refl _|assumption|exact Sub.set (by assumption)) ?_;simp+decide only[putD,Slots.put,if_true,if_false];refine Xu (es:=5) (zs:=(l++[wd COPY,wd nm]++[wd Yd]).map QK) (xs:=(pairsC.getD (n%6) []).map QK) (hZ:=B) (b:=tb4) (by rfl) (by rfl) Tryz.underlying26 Tryz.underlying26 (fun k e=>by cases e) Xa by54 qam (by rfl) (by decide) (by rfl) o1tb4 (by rw[o2tb4];simp) Xc o3tb4 (by rfl) (hsI.mono (Sub.trans (Sub.buf o1tb4) o3tb4)) (tokC_scalL _) (by have:=pairs_len ⟨n%6,by omega⟩;simp only[List.length_map,List.length_append,List.length_cons,List.length_nil]at this|-;omega) (by have:=pairs_len ⟨n%6,by omega⟩;simp only[List.length_map,List.length_append,List.length_cons,List.length_nil]at this|-;omega) fun tb5 htb5 o1tb5 o2tb5 o3tb5=>?_;have hSg5:Sub B htb5:=Sub.trans (Sub.buf o1tb5) o3tb5;rw[qa];refine And.intro (by first|exact Sub.refl _|assumption|exact Sub.set (by assumption)) ?_;simp+decide only[qa,ev,putD,Slots.put,Slots.get,if_true,if_false,true_and,↓qd,qb,hSg5];try simp only[Qg]
      first
      |exact⟨tb5,rfl,o3tb5,o1tb5,by rw[o2tb5,if_pos (by omega)];simp⟩
      |exact⟨tb3,rfl,Sub.refl _,o1tb3,by rw[o2tb3,if_neg (by omega)];simp⟩
     ·try simp only[decide_eq_false_iff_not]at hb4
      refine qP ?_;try simp only[Qg]
      first
      |exact⟨tb5,rfl,o3tb5,o1tb5,by rw[o2tb5,if_pos (by omega)];simp⟩
      |exact⟨tb3,rfl,Sub.refl _,o1tb3,by rw[o2tb3,if_neg (by omega)];simp⟩
    ·rintro tj ⟨z1,z2⟩
     have hbj:=QV 5 tj;obtain⟨q0,q1,q2,q3,q4⟩:rd wz (QG B tj) (.own kp) 0= .int .u8 6/\rd wz (QG B tj) (.own kp) 1= .str [46]/\rd wz (QG B tj) (.own kp) 2= .int .i64 0/\rd wz (QG B tj) (.own kp) 3= .int .i64 0/\rd wz (QG B tj) (.own kp) 4= .bool false:=⟨qfk wz z1 b1 0,qfk wz z1 b1 1,qfk wz z1 b1 2,qfk wz z1 b1 3,qfk wz z1 b1 4⟩
     obtain⟨lz,hlz⟩:∃lz,lz=l++(wd COPY::wd nm::if 200<=n then wd Yd::pairsC.getD (n%6) []else[]):=⟨_,rfl⟩
     have hlzl:lz.length<=900:=by
      have:=pairs_len ⟨n%6,by omega⟩;rw[hlz];split<;>simp only[List.length_append,List.length_cons,List.length_nil]at this|- <;>omega
     rw[<-hlz]at z2;have hck:¬n<160->l++Yz n=lz++(if n=254 then[]else[perC]):=by
      intro h160;unfold Yz;rw[if_neg h160,hlz,hnm];simp
     refine awp_rseq [0,3,4,6,7,8,9,155] (by rfl) fun K hK=>?_;simp+decide only[qa,ev,qH,qF,putD,Slots.put,Slots.get,Slots.keep,if_true,if_false,true_and,↓qh,qc,↓qA,ql,qB,cond_false,qo,qag];apply hK;clear hK K;refine qJ (b:=_) rfl (fun hb5=>?_) (fun hb5=>?_)
     ·try simp only[decide_eq_false_iff_not,Bool.not_eq_true']at hb5
      refine XA [0,3,4,6,7,8,9] (by rfl) ?_;simp+decide only[ev,putD,Slots.put,Slots.get,if_true,if_false,true_and,↓qh,qc,↓qG,qY,qg Zf Xa,qf,Nat.zero_add,Nat.reduceAdd,qD,qi,qE,allLive,Bool.and_true,q0,q1,q2,q3,q4];refine Qm (cs:=QK (perC)) (by kernel_rfl) fun k20q2 hk20q2=>?_;try have hf_20q2:h k20q2=none:=by first|assumption|(simp only[AHeap.set_none]at hk20q2;simp only[hk20q2])
      refine Xu (es:=5) (zs:=(lz).map QK) (xs:=[perC].map QK) (hZ:=B) (b:=tj) (by rfl) (by rfl) Tryz.underlying26 Tryz.underlying26 (fun k e=>by cases e) Xa by54 qam (by rfl) (by decide) (by rfl) z1 z2 Xc (Sub.set (by assumption)) (by rfl) (IsL.own (AHeap.set_same _ _ _) (by simp[QK]) (by rfl) (by rfl) (.exact 1) (Nat.le_refl _)) (by rfl) (by simp;omega) (by simp;omega) fun tb6 htb6 o1tb6 o2tb6 o3tb6=>?_;simp+decide only[qa,ev,putD,Slots.put,Slots.get,Slots.keep,if_true,if_false,true_and,↓qd,qb];change Awp _ _ _ _ _ _ _;refine XA [0,3,4,6,7,8,9] (by rfl) ?_;simp+decide only[qa,ev,qH,qF,putD,Slots.put,Slots.get,Slots.keep,if_true,if_false,true_and,↓qh,qc,↓qA,ql,qB,cond_false,qo,QY,↓qd,qb];try simp(disch:=omega)only[wrap_i64]
      try simp only[Qg]
      first
      |exact⟨(i+1,tb2),rfl,o3tb2,⟨hi,hi2,o1tb2,by simp only;rw[o2tb2,hst,chunk_one (by omega),ht];simp⟩,by simp only;omega⟩
      |exact⟨(i+1,tb6),rfl,o3tb6,⟨hi,hi2,o1tb6,by simp only;rw[o2tb6,hst,hck (by omega),if_neg (by omega)];simp⟩,by simp only;omega⟩
      |exact⟨(i+1,tj),rfl,Sub.refl _,⟨hi,hi2,z1,by simp only;rw[hst,hck (by omega),if_pos (by omega),List.append_nil];exact z2⟩,by simp only;omega⟩
     ·try simp only[decide_eq_true_eq,Bool.not_eq_false']at hb5
      refine qP ?_;change Awp _ _ _ _ _ _ _;refine XA [0,3,4,6,7,8,9] (by rfl) ?_;simp+decide only[qa,ev,qH,qF,putD,Slots.put,Slots.get,Slots.keep,if_true,if_false,true_and,↓qh,qc,↓qA,ql,qB,cond_false,qo,QY,↓qd,qb];try simp(disch:=omega)only[wrap_i64]
      try simp only[Qg]
      first
      |exact⟨(i+1,tb2),rfl,o3tb2,⟨hi,hi2,o1tb2,by simp only;rw[o2tb2,hst,chunk_one (by omega),ht];simp⟩,by simp only;omega⟩
      |exact⟨(i+1,tb6),rfl,o3tb6,⟨hi,hi2,o1tb6,by simp only;rw[o2tb6,hst,hck (by omega),if_neg (by omega)];simp⟩,by simp only;omega⟩
      |exact⟨(i+1,tj),rfl,Sub.refl _,⟨hi,hi2,z1,by simp only;rw[hst,hck (by omega),if_pos (by omega),List.append_nil];exact z2⟩,by simp only;omega⟩
 ·try simp only[decide_eq_false_iff_not,Bool.and_eq_false_iff]at hb1
  refine Xy ?_;change Awp _ _ _ _ _ _ _;have hbl:=QV 5 tb;have he1:=raw_end (x:=x) (i:=i) g4 (by omega);rw[he1]at g3;refine Awp.forget (h':=QG h tb) (Sub.bufBoth hBs) ?_;refine Awp.keep [8] ?_;exact of_rest2 wz h (qaz (qdl x)) (raw_left (nats_lt x)) (Nat.le_trans (by rw[<-he1];exact raw_few x g4) (by decide)) tb (g2.sub hBs) g3
end Go.Proofs.YtlhhaagmakhilaaGreatDoor
namespace Go.Proofs.YtlhhaagmakhilaaGreatDoor
open Go.AM
open Go.Proofs
open Go.Col (Str FaultC okF sp)
open Go.Tok
open Go.Cop
open Go.RowKit (Below)
set_option maxRecDepth 100000
set_option maxHeartbeats 8000000 in
theorem c_Of04(wz:World)(h:AHeap)(v:AVal)(x:List UInt8)(hv:IsL wz h 1 v (x.map Uf))(hl:x.length<=9223372036854775807):
 ACall Tryz.prog wz 10 [v] h (fun r h'=>∃tb,r=QA 5 tb/\bufOk h 5 tb/\Yu tb=((lOf x).map QK).flatten/\h'=QG h tb):=by
 have hlv:=hv.live;have hlen:=hv.len Tryz.underlying23;rw[List.length_map]at hlen;refine qU (n:=178) (rs:=[.tmp 2]) Tryz.func10 rfl rfl rfl rfl (Nat.le_of_ble_eq_true rfl) ?_;simp only[Qe];refine awp_rseq [0] (by rfl) fun K hK=>?_;simp+decide only[qa,ev,qH,qF,putD,Slots.put,Slots.keep,if_true,if_false,true_and,↓qd,qb];apply hK;clear hK K;refine awp_rseq [0,3] (by rfl) fun K hK=>?_;simp+decide only[qa,ev,putD,Slots.put,Slots.keep,if_true,if_false,true_and,↓qd,qb];apply hK;clear hK K;refine awp_rseq [0,3,4] (by rfl) fun K hK=>?_;simp+decide only[ev,qH,qF,putD,Slots.put,Slots.get,if_false,true_and,↓Qp,↓qW,UD,evP,List.map_cons,List.map_nil];refine Qj qam (cs:=[.int .u8 0, .str [], .int .i64 0, .int .i64 0, .bool false]) (by rfl) fun k2q1 hk2q1=>?_;try have hf_2q1:h k2q1=none:=by first|assumption|(simp only[AHeap.set_none]at hk2q1;simp only[hk2q1])
 refine qp (by rfl) (by rfl) zqA Xa (by rfl) (by rfl) zqD (Nat.zero_le _) (by rfl) ?_;simp only[AHeap.set_set,AVal.cells];simp+decide only[qa,ev,putD,Slots.put,Slots.get,Slots.keep,if_true,if_false,setAt,List.set_cons_zero,List.set_cons_succ,Nat.zero_add,Nat.reduceAdd];apply hK;clear hK K;refine awp_rseq [0,3,4,5] (by rfl) fun K hK=>?_;simp+decide only[ev,qH,qF,putD,Slots.put,Slots.get,if_false,true_and,↓Qp,↓qW,UD,evP,List.map_cons,List.map_nil];refine Qj qam (cs:=[.int .u8 0, .str [], .int .i64 0, .int .i64 0, .bool false]) (by rfl) fun k3q1 hk3q1=>?_;have ne_3q1_2q1:k3q1≠k2q1:=by simp only[AHeap.set_none]at hk3q1;simp only[hk3q1,ne_eq,not_false_eq_true]
 try have hf_3q1:h k3q1=none:=by first|assumption|(simp only[AHeap.set_none]at hk3q1;simp only[hk3q1])
 refine qp (by rfl) (by rfl) zqA Xa (by rfl) (by rfl) zqD (Nat.zero_le _) (by rfl) ?_;simp only[AHeap.set_set,AVal.cells];simp+decide only[qa,ev,putD,Slots.put,Slots.get,Slots.keep,if_true,if_false,setAt,List.set_cons_zero,List.set_cons_succ,Nat.zero_add,Nat.reduceAdd];apply hK;clear hK K;refine YM 14 [] [0,3,4,5,6] mixed (by kernel_rfl) (by rfl) fun K hK=>?_;simp only[List.take_succ_cons,List.drop_succ_cons,List.take_nil,List.drop_nil];simp+decide only[qa,ev,putD,Slots.put,Slots.get,if_true,if_false,true_and,↓XK,qc];refine Xk (V:= .agg [.int .u8 1, .str [65], .int .i64 0, .int .i64 0, .bool false]) (by rfl) (by rfl) (by first|trivial|(simp+decide only[AVal.okIn,Xw,and_true,true_and,Qz,Wl,AHeap.set_same,Option.isSome_some];done)|(simp[AVal.okIn,Xw,AHeap.set];done)) (fun g hg=>XO wz _ _) ?_;simp+decide only[ev,putD,Slots.put,Slots.get,if_true,if_false,true_and,↓XK,qc];refine Xk (V:= .agg [.int .u8 1, .str [66], .int .i64 0, .int .i64 0, .bool false]) (by rfl) (by rfl) (by first|trivial|(simp+decide only[AVal.okIn,Xw,and_true,true_and,Qz,Wl,AHeap.set_same,Option.isSome_some];done)|(simp[AVal.okIn,Xw,AHeap.set];done)) (fun g hg=>XO wz _ _) ?_;simp+decide only[ev,putD,Slots.put,Slots.get,if_true,if_false,true_and,↓XK,qc];refine Xk (V:= .agg [.int .u8 1, .str [67], .int .i64 0, .int .i64 0, .bool false]) (by rfl) (by rfl) (by first|trivial|(simp+decide only[AVal.okIn,Xw,and_true,true_and,Qz,Wl,AHeap.set_same,Option.isSome_some];done)|(simp[AVal.okIn,Xw,AHeap.set];done)) (fun g hg=>XO wz _ _) ?_;simp+decide only[ev,putD,Slots.put,Slots.get,if_true,if_false,true_and,↓XK,qc];refine Xk (V:= .agg [.int .u8 1, .str [66,89], .int .i64 0, .int .i64 0, .bool false]) (by rfl) (by rfl) (by first|trivial|(simp+decide only[AVal.okIn,Xw,and_true,true_and,Qz,Wl,AHeap.set_same,Option.isSome_some];done)|(simp[AVal.okIn,Xw,AHeap.set];done)) (fun g hg=>XO wz _ _) ?_;simp+decide only[ev,qH,qF,putD,Slots.put,Slots.get,if_true,if_false,true_and,↓Us,↓qW,UD,evP,List.map_cons,List.map_nil,↓Zv,XF,qg Zf Xa,QO,ne_eq,not_false_eq_true,ne_3q1_2q1.symm,QP,qf,List.getD_cons_zero,List.getD_cons_succ,Nat.zero_add,Nat.reduceAdd,qD,qi,qE,allLive,Bool.and_true];refine WI (cs:=[.int .u8 1, .str [65], .int .i64 0, .int .i64 0, .bool false, .int .u8 1, .str [66], .int .i64 0, .int .i64 0, .bool false, .int .u8 1, .str [67], .int .i64 0, .int .i64 0, .bool false, .int .u8 1, .str [66,89], .int .i64 0, .int .i64 0, .bool false, .int .u8 2, .str [53], .int .i64 0, .int .i64 0, .bool false, .int .u8 3, .str [65], .int .i64 0, .int .i64 0, .bool false, .int .u8 6, .str [46], .int .i64 0, .int .i64 0, .bool false, .int .u8 5, .str [40], .int .i64 0, .int .i64 0, .bool false]) (by kernel_rfl) fun k4q12 hk4q12=>?_;have ne_4q12_2q1:k4q12≠k2q1:=by simp only[AHeap.set_none]at hk4q12;simp only[hk4q12,ne_eq,not_false_eq_true]
 have ne_4q12_3q1:k4q12≠k3q1:=by simp only[AHeap.set_none]at hk4q12;simp only[hk4q12,ne_eq,not_false_eq_true]
 try have hf_4q12:h k4q12=none:=by first|assumption|(simp only[AHeap.set_none]at hk4q12;simp only[hk4q12])
 simp+decide only[Yr,ev,putD,Slots.put,Slots.get,Slots.keep,if_true,if_false,true_and,↓qbw,qb];apply hK;clear hK K;refine YM 72 [] [0,3,4,6,7] mixed (by kernel_rfl) (by rfl) fun K hK=>?_;simp only[List.append_eq,List.cons_append,List.nil_append];simp only[List.take_succ_cons,List.drop_succ_cons,List.take_nil,List.drop_nil];simp+decide only[qa,ev,putD,Slots.put,Slots.get,if_true,if_false,true_and,↓XK,qc];refine Xk (V:= .agg [.int .u8 1, .str [65], .int .i64 0, .int .i64 0, .bool false]) (by rfl) (by rfl) (by first|trivial|(simp+decide only[AVal.okIn,Xw,and_true,true_and,Qz,Wl,AHeap.set_same,Option.isSome_some];done)|(simp[AVal.okIn,Xw,AHeap.set];done)) (fun g hg=>XO wz _ _) ?_;simp+decide only[ev,putD,Slots.put,Slots.get,if_true,if_false,true_and,↓XK,qc];refine Xk (V:= .agg [.int .u8 1, .str [66,89], .int .i64 0, .int .i64 0, .bool false]) (by rfl) (by rfl) (by first|trivial|(simp+decide only[AVal.okIn,Xw,and_true,true_and,Qz,Wl,AHeap.set_same,Option.isSome_some];done)|(simp[AVal.okIn,Xw,AHeap.set];done)) (fun g hg=>XO wz _ _) ?_;simp+decide only[ev,putD,Slots.put,Slots.get,if_true,if_false,true_and,↓XK,qc];refine Xk (V:= .agg [.int .u8 1, .str [66], .int .i64 0, .int .i64 0, .bool false]) (by rfl) (by rfl) (by first|trivial|(simp+decide only[AVal.okIn,Xw,and_true,true_and,Qz,Wl,AHeap.set_same,Option.isSome_some];done)|(simp[AVal.okIn,Xw,AHeap.set];done)) (fun g hg=>XO wz _ _) ?_;refine WI (cs:=[.int .u8 1, .str [65], .int .i64 0, .int .i64 0, .bool false, .int .u8 1, .str [66,89], .int .i64 0, .int .i64 0, .bool false, .int .u8 1, .str [66], .int .i64 0, .int .i64 0, .bool false]) (by kernel_rfl) fun k5q6 hk5q6=>?_;have ne_5q6_2q1:k5q6≠k2q1:=by simp only[AHeap.set_none]at hk5q6;simp only[hk5q6,ne_eq,not_false_eq_true]
 have ne_5q6_3q1:k5q6≠k3q1:=by simp only[AHeap.set_none]at hk5q6;simp only[hk5q6,ne_eq,not_false_eq_true]
 have ne_5q6_4q12:k5q6≠k4q12:=by simp only[AHeap.set_none]at hk5q6;simp only[hk5q6,ne_eq,not_false_eq_true]
 try have hf_5q6:h k5q6=none:=by first|assumption|(simp only[AHeap.set_none]at hk5q6;simp only[hk5q6])
 simp+decide only[ev,putD,Slots.put,Slots.get,if_true,if_false,true_and,↓XK,qc];refine Xk (V:= .agg [.int .u8 1, .str [66], .int .i64 0, .int .i64 0, .bool false]) (by rfl) (by rfl) (by first|trivial|(simp+decide only[AVal.okIn,Xw,and_true,true_and,Qz,Wl,AHeap.set_same,Option.isSome_some];done)|(simp[AVal.okIn,Xw,AHeap.set];done)) (fun g hg=>XO wz _ _) ?_;simp+decide only[ev,putD,Slots.put,Slots.get,if_true,if_false,true_and,↓XK,qc];refine Xk (V:= .agg [.int .u8 1, .str [66,89], .int .i64 0, .int .i64 0, .bool false]) (by rfl) (by rfl) (by first|trivial|(simp+decide only[AVal.okIn,Xw,and_true,true_and,Qz,Wl,AHeap.set_same,Option.isSome_some];done)|(simp[AVal.okIn,Xw,AHeap.set];done)) (fun g hg=>XO wz _ _) ?_;simp+decide only[ev,putD,Slots.put,Slots.get,if_true,if_false,true_and,↓XK,qc];refine Xk (V:= .agg [.int .u8 1, .str [65], .int .i64 0, .int .i64 0, .bool false]) (by rfl) (by rfl) (by first|trivial|(simp+decide only[AVal.okIn,Xw,and_true,true_and,Qz,Wl,AHeap.set_same,Option.isSome_some];done)|(simp[AVal.okIn,Xw,AHeap.set];done)) (fun g hg=>XO wz _ _) ?_;simp+decide only[ev,putD,Slots.put,Slots.get,if_true,if_false,true_and,↓XK,qc];refine Xk (V:= .agg [.int .u8 1, .str [65], .int .i64 0, .int .i64 0, .bool false]) (by rfl) (by rfl) (by first|trivial|(simp+decide only[AVal.okIn,Xw,and_true,true_and,Qz,Wl,AHeap.set_same,Option.isSome_some];done)|(simp[AVal.okIn,Xw,AHeap.set];done)) (fun g hg=>XO wz _ _) ?_;simp+decide only[ev,putD,Slots.put,Slots.get,if_true,if_false,true_and,↓XK,qc];refine Xk (V:= .agg [.int .u8 1, .str [66,89], .int .i64 0, .int .i64 0, .bool false]) (by rfl) (by rfl) (by first|trivial|(simp+decide only[AVal.okIn,Xw,and_true,true_and,Qz,Wl,AHeap.set_same,Option.isSome_some];done)|(simp[AVal.okIn,Xw,AHeap.set];done)) (fun g hg=>XO wz _ _) ?_;simp+decide only[ev,putD,Slots.put,Slots.get,if_true,if_false,true_and,↓XK,qc];refine Xk (V:= .agg [.int .u8 1, .str [67], .int .i64 0, .int .i64 0, .bool false]) (by rfl) (by rfl) (by first|trivial|(simp+decide only[AVal.okIn,Xw,and_true,true_and,Qz,Wl,AHeap.set_same,Option.isSome_some];done)|(simp[AVal.okIn,Xw,AHeap.set];done)) (fun g hg=>XO wz _ _) ?_;refine WI (cs:=[.int .u8 1, .str [66], .int .i64 0, .int .i64 0, .bool false, .int .u8 1, .str [66,89], .int .i64 0, .int .i64 0, .bool false, .int .u8 1, .str [65], .int .i64 0, .int .i64 0, .bool false, .int .u8 1, .str [65], .int .i64 0, .int .i64 0, .bool false, .int .u8 1, .str [66,89], .int .i64 0, .int .i64 0, .bool false, .int .u8 1, .str [67], .int .i64 0, .int .i64 0, .bool false]) (by kernel_rfl) fun k5q19 hk5q19=>?_;have ne_5q19_2q1:k5q19≠k2q1:=by simp only[AHeap.set_none]at hk5q19;simp only[hk5q19,ne_eq,not_false_eq_true]
 have ne_5q19_3q1:k5q19≠k3q1:=by simp only[AHeap.set_none]at hk5q19;simp only[hk5q19,ne_eq,not_false_eq_true]
 have ne_5q19_4q12:k5q19≠k4q12:=by simp only[AHeap.set_none]at hk5q19;simp only[hk5q19,ne_eq,not_false_eq_true]
 have ne_5q19_5q6:k5q19≠k5q6:=by simp only[AHeap.set_none]at hk5q19;simp only[hk5q19,ne_eq,not_false_eq_true]
 try have hf_5q19:h k5q19=none:=by first|assumption|(simp only[AHeap.set_none]at hk5q19;simp only[hk5q19])
 simp+decide only[ev,putD,Slots.put,Slots.get,if_true,if_false,true_and,↓Zv,XF,qg Zf Xa,↓XK,qc,QO,ne_eq,not_false_eq_true,ne_4q12_3q1.symm,ne_5q6_3q1.symm,ne_5q19_3q1.symm,QP,qf,List.getD_cons_zero,List.getD_cons_succ,Nat.zero_add,Nat.reduceAdd,qD,qi,qE,allLive,Bool.and_true];refine Xk (V:= .agg [.int .u8 1, .str [65], .int .i64 0, .int .i64 0, .bool false]) (by rfl) (by rfl) (by first|trivial|(simp+decide only[AVal.okIn,Xw,and_true,true_and,Qz,Wl,AHeap.set_same,Option.isSome_some];done)|(simp[AVal.okIn,Xw,AHeap.set];done)) (fun g hg=>XO wz _ _) ?_;simp+decide only[ev,putD,Slots.put,Slots.get,if_true,if_false,true_and,↓XK,qc];refine Xk (V:= .agg [.int .u8 1, .str [66], .int .i64 0, .int .i64 0, .bool false]) (by rfl) (by rfl) (by first|trivial|(simp+decide only[AVal.okIn,Xw,and_true,true_and,Qz,Wl,AHeap.set_same,Option.isSome_some];done)|(simp[AVal.okIn,Xw,AHeap.set];done)) (fun g hg=>XO wz _ _) ?_;simp+decide only[ev,putD,Slots.put,Slots.get,if_true,if_false,true_and,↓Zv,XF,qg Zf Xa,↓XK,qc,QO,ne_eq,not_false_eq_true,ne_4q12_3q1.symm,ne_5q6_3q1.symm,ne_5q19_3q1.symm,QP,qf,List.getD_cons_zero,List.getD_cons_succ,Nat.zero_add,Nat.reduceAdd,qD,qi,qE,allLive,Bool.and_true];refine Xk (V:= .agg [.int .u8 1, .str [66,89], .int .i64 0, .int .i64 0, .bool false]) (by rfl) (by rfl) (by first|trivial|(simp+decide only[AVal.okIn,Xw,and_true,true_and,Qz,Wl,AHeap.set_same,Option.isSome_some];done)|(simp[AVal.okIn,Xw,AHeap.set];done)) (fun g hg=>XO wz _ _) ?_;simp+decide only[ev,putD,Slots.put,Slots.get,if_true,if_false,true_and,↓Zv,XF,qg Zf Xa,QO,ne_eq,not_false_eq_true,ne_4q12_3q1.symm,ne_5q6_3q1.symm,ne_5q19_3q1.symm,QP,qf,List.getD_cons_zero,List.getD_cons_succ,Nat.zero_add,Nat.reduceAdd,qD,qi,qE,allLive,Bool.and_true];refine WI (cs:=[.int .u8 7, .str [61,61], .int .i64 0, .int .i64 0, .bool false, .int .u8 1, .str [65], .int .i64 0, .int .i64 0, .bool false, .int .u8 1, .str [66], .int .i64 0, .int .i64 0, .bool false, .int .u8 7, .str [61,61], .int .i64 0, .int .i64 0, .bool false, .int .u8 1, .str [66,89], .int .i64 0, .int .i64 0, .bool false, .int .u8 7, .str [61,61], .int .i64 0, .int .i64 0, .bool false, .int .u8 7, .str [61,61], .int .i64 0, .int .i64 0, .bool false]) (by kernel_rfl) fun k5q30 hk5q30=>?_;have ne_5q30_2q1:k5q30≠k2q1:=by simp only[AHeap.set_none]at hk5q30;simp only[hk5q30,ne_eq,not_false_eq_true]
 have ne_5q30_3q1:k5q30≠k3q1:=by simp only[AHeap.set_none]at hk5q30;simp only[hk5q30,ne_eq,not_false_eq_true]
 have ne_5q30_4q12:k5q30≠k4q12:=by simp only[AHeap.set_none]at hk5q30;simp only[hk5q30,ne_eq,not_false_eq_true]
 have ne_5q30_5q6:k5q30≠k5q6:=by simp only[AHeap.set_none]at hk5q30;simp only[hk5q30,ne_eq,not_false_eq_true]
 have ne_5q30_5q19:k5q30≠k5q19:=by simp only[AHeap.set_none]at hk5q30;simp only[hk5q30,ne_eq,not_false_eq_true]
 try have hf_5q30:h k5q30=none:=by first|assumption|(simp only[AHeap.set_none]at hk5q30;simp only[hk5q30])
 simp+decide only[ev,putD,Slots.put,Slots.get,if_true,if_false,true_and,↓Zv,XF,qg Zf Xa,↓XK,qc,QO,ne_eq,not_false_eq_true,ne_4q12_3q1.symm,ne_5q6_3q1.symm,ne_5q19_3q1.symm,ne_5q30_3q1.symm,QP,qf,List.getD_cons_zero,List.getD_cons_succ,Nat.zero_add,Nat.reduceAdd,qD,qi,qE,allLive,Bool.and_true];refine Xk (V:= .agg [.int .u8 1, .str [65], .int .i64 0, .int .i64 0, .bool false]) (by rfl) (by rfl) (by first|trivial|(simp+decide only[AVal.okIn,Xw,and_true,true_and,Qz,Wl,AHeap.set_same,Option.isSome_some];done)|(simp[AVal.okIn,Xw,AHeap.set];done)) (fun g hg=>XO wz _ _) ?_;simp+decide only[ev,putD,Slots.put,Slots.get,if_true,if_false,true_and,↓Zv,XF,qg Zf Xa,↓XK,qc,QO,ne_eq,not_false_eq_true,ne_4q12_3q1.symm,ne_5q6_3q1.symm,ne_5q19_3q1.symm,ne_5q30_3q1.symm,QP,qf,List.getD_cons_zero,List.getD_cons_succ,Nat.zero_add,Nat.reduceAdd,qD,qi,qE,allLive,Bool.and_true];refine Xk (V:= .agg [.int .u8 1, .str [66,89], .int .i64 0, .int .i64 0, .bool false]) (by rfl) (by rfl) (by first|trivial|(simp+decide only[AVal.okIn,Xw,and_true,true_and,Qz,Wl,AHeap.set_same,Option.isSome_some];done)|(simp[AVal.okIn,Xw,AHeap.set];done)) (fun g hg=>XO wz _ _) ?_;simp+decide only[ev,putD,Slots.put,Slots.get,if_true,if_false,true_and,↓Zv,XF,qg Zf Xa,↓XK,qc,QO,ne_eq,not_false_eq_true,ne_4q12_3q1.symm,ne_5q6_3q1.symm,ne_5q19_3q1.symm,ne_5q30_3q1.symm,QP,qf,List.getD_cons_zero,List.getD_cons_succ,Nat.zero_add,Nat.reduceAdd,qD,qi,qE,allLive,Bool.and_true];refine Xk (V:= .agg [.int .u8 1, .str [65], .int .i64 0, .int .i64 0, .bool false]) (by rfl) (by rfl) (by first|trivial|(simp+decide only[AVal.okIn,Xw,and_true,true_and,Qz,Wl,AHeap.set_same,Option.isSome_some];done)|(simp[AVal.okIn,Xw,AHeap.set];done)) (fun g hg=>XO wz _ _) ?_;simp+decide only[ev,putD,Slots.put,Slots.get,if_true,if_false,true_and,↓XK,qc];refine Xk (V:= .agg [.int .u8 1, .str [65], .int .i64 0, .int .i64 0, .bool false]) (by rfl) (by rfl) (by first|trivial|(simp+decide only[AVal.okIn,Xw,and_true,true_and,Qz,Wl,AHeap.set_same,Option.isSome_some];done)|(simp[AVal.okIn,Xw,AHeap.set];done)) (fun g hg=>XO wz _ _) ?_;simp+decide only[ev,putD,Slots.put,Slots.get,if_true,if_false,true_and,↓Zv,XF,qg Zf Xa,QO,ne_eq,not_false_eq_true,ne_4q12_3q1.symm,ne_5q6_3q1.symm,ne_5q19_3q1.symm,ne_5q30_3q1.symm,QP,qf,List.getD_cons_zero,List.getD_cons_succ,Nat.zero_add,Nat.reduceAdd,qD,qi,qE,allLive,Bool.and_true];refine WI (cs:=[.int .u8 7, .str [61,61], .int .i64 0, .int .i64 0, .bool false, .int .u8 1, .str [65], .int .i64 0, .int .i64 0, .bool false, .int .u8 7, .str [61,61], .int .i64 0, .int .i64 0, .bool false, .int .u8 1, .str [66,89], .int .i64 0, .int .i64 0, .bool false, .int .u8 7, .str [61,61], .int .i64 0, .int .i64 0, .bool false, .int .u8 1, .str [65], .int .i64 0, .int .i64 0, .bool false, .int .u8 1, .str [65], .int .i64 0, .int .i64 0, .bool false, .int .u8 7, .str [61,61], .int .i64 0, .int .i64 0, .bool false]) (by kernel_rfl) fun k5q43 hk5q43=>?_;have ne_5q43_2q1:k5q43≠k2q1:=by simp only[AHeap.set_none]at hk5q43;simp only[hk5q43,ne_eq,not_false_eq_true]
 have ne_5q43_3q1:k5q43≠k3q1:=by simp only[AHeap.set_none]at hk5q43;simp only[hk5q43,ne_eq,not_false_eq_true]
 have ne_5q43_4q12:k5q43≠k4q12:=by simp only[AHeap.set_none]at hk5q43;simp only[hk5q43,ne_eq,not_false_eq_true]
 have ne_5q43_5q6:k5q43≠k5q6:=by simp only[AHeap.set_none]at hk5q43;simp only[hk5q43,ne_eq,not_false_eq_true]
 have ne_5q43_5q19:k5q43≠k5q19:=by simp only[AHeap.set_none]at hk5q43;simp only[hk5q43,ne_eq,not_false_eq_true]
 have ne_5q43_5q30:k5q43≠k5q30:=by simp only[AHeap.set_none]at hk5q43;simp only[hk5q43,ne_eq,not_false_eq_true]
 try have hf_5q43:h k5q43=none:=by first|assumption|(simp only[AHeap.set_none]at hk5q43;simp only[hk5q43])
 simp+decide only[ev,qH,qF,putD,Slots.put,Slots.get,if_true,if_false,true_and,↓Us,↓qW,UD,evP,List.map_cons,List.map_nil,↓XK,qc];refine Xk (V:= .agg [.int .u8 1, .str [66,89], .int .i64 0, .int .i64 0, .bool false]) (by rfl) (by rfl) (by first|trivial|(simp+decide only[AVal.okIn,Xw,and_true,true_and,Qz,Wl,AHeap.set_same,Option.isSome_some];done)|(simp[AVal.okIn,Xw,AHeap.set];done)) (fun g hg=>XO wz _ _) ?_;simp+decide only[ev,putD,Slots.put,Slots.get,if_true,if_false,true_and,↓Zv,XF,qg Zf Xa,↓XK,qc,QO,ne_eq,not_false_eq_true,ne_4q12_3q1.symm,ne_5q6_3q1.symm,ne_5q19_3q1.symm,ne_5q30_3q1.symm,ne_5q43_3q1.symm,QP,qf,List.getD_cons_zero,List.getD_cons_succ,Nat.zero_add,Nat.reduceAdd,qD,qi,qE,allLive,Bool.and_true];refine Xk (V:= .agg [.int .u8 1, .str [67,79,80,89], .int .i64 0, .int .i64 0, .bool false]) (by rfl) (by rfl) (by first|trivial|(simp+decide only[AVal.okIn,Xw,and_true,true_and,Qz,Wl,AHeap.set_same,Option.isSome_some];done)|(simp[AVal.okIn,Xw,AHeap.set];done)) (fun g hg=>XO wz _ _) ?_;simp+decide only[ev,putD,Slots.put,Slots.get,if_true,if_false,true_and,↓XK,qc];refine Xk (V:= .agg [.int .u8 1, .str [77,49], .int .i64 0, .int .i64 0, .bool false]) (by rfl) (by rfl) (by first|trivial|(simp+decide only[AVal.okIn,Xw,and_true,true_and,Qz,Wl,AHeap.set_same,Option.isSome_some];done)|(simp[AVal.okIn,Xw,AHeap.set];done)) (fun g hg=>XO wz _ _) ?_;simp+decide only[ev,putD,Slots.put,Slots.get,if_true,if_false,true_and,↓Zv,XF,qg Zf Xa,QO,ne_eq,not_false_eq_true,ne_3q1_2q1.symm,ne_4q12_2q1.symm,ne_4q12_3q1.symm,ne_5q6_2q1.symm,ne_5q6_3q1.symm,ne_5q19_2q1.symm,ne_5q19_3q1.symm,ne_5q30_2q1.symm,ne_5q30_3q1.symm,ne_5q43_2q1.symm,ne_5q43_3q1.symm,QP,qf,List.getD_cons_zero,List.getD_cons_succ,Nat.zero_add,Nat.reduceAdd,qD,qi,qE,allLive,Bool.and_true];refine WI (cs:=[.int .u8 2, .str [53], .int .i64 0, .int .i64 0, .bool false, .int .u8 1, .str [66,89], .int .i64 0, .int .i64 0, .bool false, .int .u8 7, .str [61,61], .int .i64 0, .int .i64 0, .bool false, .int .u8 1, .str [67,79,80,89], .int .i64 0, .int .i64 0, .bool false, .int .u8 1, .str [77,49], .int .i64 0, .int .i64 0, .bool false, .int .u8 6, .str [46], .int .i64 0, .int .i64 0, .bool false, .int .u8 7, .str [61,61], .int .i64 0, .int .i64 0, .bool false]) (by kernel_rfl) fun k5q54 hk5q54=>?_;have ne_5q54_2q1:k5q54≠k2q1:=by simp only[AHeap.set_none]at hk5q54;simp only[hk5q54,ne_eq,not_false_eq_true]
 have ne_5q54_3q1:k5q54≠k3q1:=by simp only[AHeap.set_none]at hk5q54;simp only[hk5q54,ne_eq,not_false_eq_true]
 have ne_5q54_4q12:k5q54≠k4q12:=by simp only[AHeap.set_none]at hk5q54;simp only[hk5q54,ne_eq,not_false_eq_true]
 have ne_5q54_5q6:k5q54≠k5q6:=by simp only[AHeap.set_none]at hk5q54;simp only[hk5q54,ne_eq,not_false_eq_true]
 have ne_5q54_5q19:k5q54≠k5q19:=by simp only[AHeap.set_none]at hk5q54;simp only[hk5q54,ne_eq,not_false_eq_true]
 have ne_5q54_5q30:k5q54≠k5q30:=by simp only[AHeap.set_none]at hk5q54;simp only[hk5q54,ne_eq,not_false_eq_true]
 have ne_5q54_5q43:k5q54≠k5q43:=by simp only[AHeap.set_none]at hk5q54;simp only[hk5q54,ne_eq,not_false_eq_true]
 try have hf_5q54:h k5q54=none:=by first|assumption|(simp only[AHeap.set_none]at hk5q54;simp only[hk5q54])
 simp+decide only[ev,putD,Slots.put,Slots.get,if_true,if_false,true_and,↓Zv,XF,qg Zf Xa,↓XK,qc,QO,ne_eq,not_false_eq_true,ne_3q1_2q1.symm,ne_4q12_2q1.symm,ne_4q12_3q1.symm,ne_5q6_2q1.symm,ne_5q6_3q1.symm,ne_5q19_2q1.symm,ne_5q19_3q1.symm,ne_5q30_2q1.symm,ne_5q30_3q1.symm,ne_5q43_2q1.symm,ne_5q43_3q1.symm,ne_5q54_2q1.symm,ne_5q54_3q1.symm,QP,qf,List.getD_cons_zero,List.getD_cons_succ,Nat.zero_add,Nat.reduceAdd,qD,qi,qE,allLive,Bool.and_true];refine Xk (V:= .agg [.int .u8 1, .str [66,89], .int .i64 0, .int .i64 0, .bool false]) (by rfl) (by rfl) (by first|trivial|(simp+decide only[AVal.okIn,Xw,and_true,true_and,Qz,Wl,AHeap.set_same,Option.isSome_some];done)|(simp[AVal.okIn,Xw,AHeap.set];done)) (fun g hg=>XO wz _ _) ?_;simp+decide only[ev,qH,qF,putD,Slots.put,Slots.get,if_true,if_false,true_and,↓Us,↓qW,UD,evP,List.map_cons,List.map_nil,↓Zv,XF,qg Zf Xa,↓XK,qc,QO,ne_eq,not_false_eq_true,ne_4q12_3q1.symm,ne_5q6_3q1.symm,ne_5q19_3q1.symm,ne_5q30_3q1.symm,ne_5q43_3q1.symm,ne_5q54_3q1.symm,QP,qf,List.getD_cons_zero,List.getD_cons_succ,Nat.zero_add,Nat.reduceAdd,qD,qi,qE,allLive,Bool.and_true];refine Xk (V:= .agg [.int .u8 1, .str [67], .int .i64 0, .int .i64 0, .bool false]) (by rfl) (by rfl) (by first|trivial|(simp+decide only[AVal.okIn,Xw,and_true,true_and,Qz,Wl,AHeap.set_same,Option.isSome_some];done)|(simp[AVal.okIn,Xw,AHeap.set];done)) (fun g hg=>XO wz _ _) ?_;simp+decide only[ev,putD,Slots.put,Slots.get,if_true,if_false,true_and,↓Zv,XF,qg Zf Xa,↓XK,qc,QO,ne_eq,not_false_eq_true,ne_4q12_3q1.symm,ne_5q6_3q1.symm,ne_5q19_3q1.symm,ne_5q30_3q1.symm,ne_5q43_3q1.symm,ne_5q54_3q1.symm,QP,qf,List.getD_cons_zero,List.getD_cons_succ,Nat.zero_add,Nat.reduceAdd,qD,qi,qE,allLive,Bool.and_true];refine Xk (V:= .agg [.int .u8 1, .str [66,89], .int .i64 0, .int .i64 0, .bool false]) (by rfl) (by rfl) (by first|trivial|(simp+decide only[AVal.okIn,Xw,and_true,true_and,Qz,Wl,AHeap.set_same,Option.isSome_some];done)|(simp[AVal.okIn,Xw,AHeap.set];done)) (fun g hg=>XO wz _ _) ?_;simp+decide only[ev,putD,Slots.put,Slots.get,if_true,if_false,true_and,↓XK,qc];refine Xk (V:= .agg [.int .u8 1, .str [67], .int .i64 0, .int .i64 0, .bool false]) (by rfl) (by rfl) (by first|trivial|(simp+decide only[AVal.okIn,Xw,and_true,true_and,Qz,Wl,AHeap.set_same,Option.isSome_some];done)|(simp[AVal.okIn,Xw,AHeap.set];done)) (fun g hg=>XO wz _ _) ?_;refine WI (cs:=[.int .u8 7, .str [61,61], .int .i64 0, .int .i64 0, .bool false, .int .u8 6, .str [46], .int .i64 0, .int .i64 0, .bool false, .int .u8 7, .str [61,61], .int .i64 0, .int .i64 0, .bool false, .int .u8 1, .str [66,89], .int .i64 0, .int .i64 0, .bool false, .int .u8 3, .str [88], .int .i64 0, .int .i64 0, .bool false, .int .u8 7, .str [61,61], .int .i64 0, .int .i64 0, .bool false, .int .u8 1, .str [67], .int .i64 0, .int .i64 0, .bool false, .int .u8 7, .str [61,61], .int .i64 0, .int .i64 0, .bool false, .int .u8 1, .str [66,89], .int .i64 0, .int .i64 0, .bool false, .int .u8 1, .str [67], .int .i64 0, .int .i64 0, .bool false]) (by kernel_rfl) fun k5q69 hk5q69=>?_;have ne_5q69_2q1:k5q69≠k2q1:=by simp only[AHeap.set_none]at hk5q69;simp only[hk5q69,ne_eq,not_false_eq_true]
 have ne_5q69_3q1:k5q69≠k3q1:=by simp only[AHeap.set_none]at hk5q69;simp only[hk5q69,ne_eq,not_false_eq_true]
 have ne_5q69_4q12:k5q69≠k4q12:=by simp only[AHeap.set_none]at hk5q69;simp only[hk5q69,ne_eq,not_false_eq_true]
 have ne_5q69_5q6:k5q69≠k5q6:=by simp only[AHeap.set_none]at hk5q69;simp only[hk5q69,ne_eq,not_false_eq_true]
 have ne_5q69_5q19:k5q69≠k5q19:=by simp only[AHeap.set_none]at hk5q69;simp only[hk5q69,ne_eq,not_false_eq_true]
 have ne_5q69_5q30:k5q69≠k5q30:=by simp only[AHeap.set_none]at hk5q69;simp only[hk5q69,ne_eq,not_false_eq_true]
 have ne_5q69_5q43:k5q69≠k5q43:=by simp only[AHeap.set_none]at hk5q69;simp only[hk5q69,ne_eq,not_false_eq_true]
 have ne_5q69_5q54:k5q69≠k5q54:=by simp only[AHeap.set_none]at hk5q69;simp only[hk5q69,ne_eq,not_false_eq_true]
 try have hf_5q69:h k5q69=none:=by first|assumption|(simp only[AHeap.set_none]at hk5q69;simp only[hk5q69])
 refine WI (cs:=[.slice (.own k5q6) 0 3 (.exact 3), .slice (.own k5q19) 0 6 (.exact 6), .slice (.own k5q30) 0 7 (.exact 7), .slice (.own k5q43) 0 8 (.exact 8), .slice (.own k5q54) 0 7 (.exact 7), .slice (.own k5q69) 0 10 (.exact 10)]) (by kernel_rfl) fun k5q70 hk5q70=>?_;have ne_5q70_2q1:k5q70≠k2q1:=by simp only[AHeap.set_none]at hk5q70;simp only[hk5q70,ne_eq,not_false_eq_true]
 have ne_5q70_3q1:k5q70≠k3q1:=by simp only[AHeap.set_none]at hk5q70;simp only[hk5q70,ne_eq,not_false_eq_true]
 have ne_5q70_4q12:k5q70≠k4q12:=by simp only[AHeap.set_none]at hk5q70;simp only[hk5q70,ne_eq,not_false_eq_true]
 have ne_5q70_5q6:k5q70≠k5q6:=by simp only[AHeap.set_none]at hk5q70;simp only[hk5q70,ne_eq,not_false_eq_true]
 have ne_5q70_5q19:k5q70≠k5q19:=by simp only[AHeap.set_none]at hk5q70;simp only[hk5q70,ne_eq,not_false_eq_true]
 have ne_5q70_5q30:k5q70≠k5q30:=by simp only[AHeap.set_none]at hk5q70;simp only[hk5q70,ne_eq,not_false_eq_true]
 have ne_5q70_5q43:k5q70≠k5q43:=by simp only[AHeap.set_none]at hk5q70;simp only[hk5q70,ne_eq,not_false_eq_true]
 have ne_5q70_5q54:k5q70≠k5q54:=by simp only[AHeap.set_none]at hk5q70;simp only[hk5q70,ne_eq,not_false_eq_true]
 have ne_5q70_5q69:k5q70≠k5q69:=by simp only[AHeap.set_none]at hk5q70;simp only[hk5q70,ne_eq,not_false_eq_true]
 try have hf_5q70:h k5q70=none:=by first|assumption|(simp only[AHeap.set_none]at hk5q70;simp only[hk5q70])
 simp+decide only[Yr,ev,putD,Slots.put,Slots.get,Slots.keep,if_true,if_false,true_and,↓qbw,qb];apply hK;clear hK K;refine Awp.keep [0,3,4,6,7] ?_;refine of_rest1 wz h _ zqB v x hv hl k2q1 k4q12 k5q70 _ ⟨zqA,zqA,zqA,fun i hi=>?_⟩;have h0:IsL wz h 5 .nilSlice []:= .nil;rcases i with _|_|_|_|_|_|i
 ·exact IsL.own (xs:=(pairsC.getD 0 []).map QK) (b:=⟨((pairsC.getD 0 []).map QK).flatten,0⟩) zqA Xc rfl (WK _) (.exact 3) (Nat.le_refl _)
 ·exact IsL.own (xs:=(pairsC.getD 1 []).map QK) (b:=⟨((pairsC.getD 1 []).map QK).flatten,0⟩) zqA Xc rfl (WK _) (.exact 6) (Nat.le_refl _)
 ·exact IsL.own (xs:=(pairsC.getD 2 []).map QK) (b:=⟨((pairsC.getD 2 []).map QK).flatten,0⟩) zqA Xc rfl (WK _) (.exact 7) (Nat.le_refl _)
 ·exact IsL.own (xs:=(pairsC.getD 3 []).map QK) (b:=⟨((pairsC.getD 3 []).map QK).flatten,0⟩) zqA Xc rfl (WK _) (.exact 8) (Nat.le_refl _)
 ·exact IsL.own (xs:=(pairsC.getD 4 []).map QK) (b:=⟨((pairsC.getD 4 []).map QK).flatten,0⟩) zqA Xc rfl (WK _) (.exact 7) (Nat.le_refl _)
 ·exact IsL.own (xs:=(pairsC.getD 5 []).map QK) (b:=⟨((pairsC.getD 5 []).map QK).flatten,0⟩) zqA Xc rfl (WK _) (.exact 10) (Nat.le_refl _)
 ·omega
end Go.Proofs.YtlhhaagmakhilaaGreatDoor
namespace Go.Proofs.YtlhhaagmakhilaaGreatDoor
open Go.AM
open Go.Proofs
open Go.Col (Str FaultC okF sp)
open Go.Tok
open Go.Cop
open Go.RowKit (Below)
set_option maxRecDepth 100000
abbrev LisQ:=List UInt8×AVal
def lisQC(q:LisQ):List AVal:=[q.2]
def badL:LisQ:=([], .nilSlice)
def IsLs(wz:World)(h:AHeap)(v:AVal)(m:List (List UInt8)):Prop:=∃qs:List LisQ,m=qs.map (·.1)/\IsL wz h 1 v (qs.map lisQC)/\∀q∈qs,IsL wz h 1 q.2 (q.1.map Uf)
theorem IsLs.mono{wz:World}{h h':AHeap}{v:AVal}{m:List (List UInt8)}(hv:IsLs wz h v m)(hs:Sub h h'):IsLs wz h' v m:=by
 obtain⟨qs,h1,h2,h3⟩:=hv;exact⟨qs,h1,h2.mono hs,fun q hq=>(h3 q hq).mono hs⟩
section
variable {wz:World} {h:AHeap} {v:AVal}
theorem lis_len{qs:List LisQ}(hv:IsL wz h 1 v (qs.map lisQC)):∀H:AHeap,Ye Tryz.prog H 24 v=⟨True, .int .i64 qs.length⟩:=by
 have:=hv.len Tryz.underlying24
 rwa [List.length_map]at this
theorem lis_open{qs:List LisQ}(hv:IsL wz h 1 v (qs.map lisQC))(hn:0<qs.length):∃lc o c,v= .slice lc o qs.length c:=by
 obtain⟨lc,o,c,e⟩:=hv.open (fun e=>by rw[List.map_eq_nil_iff]at e;subst e;simp at hn);rw[List.length_map]at e;exact⟨lc,o,c,e⟩
theorem lis_at{qs:List LisQ}{lc:AM.Loc}{o:Nat}{c:Cap}(hv:IsL wz h 1 (.slice lc o qs.length c) (qs.map lisQC)){i:Nat}(hi:i<qs.length):rd wz h lc (o+i)=(qs.getD i badL).2:=by
 have he:=hv.elem (i:=i) (by rw[List.length_map];exact hi);rw[getD_map badL hi,Nat.mul_one]at he;simp only[qf,lisQC,List.cons.injEq,and_true]at he;exact he
end
abbrev MemB:=MemC×Option Buf
def qcI(q:MemB):List AVal:=[.str q.1.name,QA 5 q.2]
def apart(a b:Option Buf):Prop:=∀x y,a=some x->b=some y->x.blk≠y.blk
structure TkOk(h B:AHeap)(qs:List MemB):Prop where
 toks:∀q∈qs,Yu q.2=(q.1.toks.map QK).flatten
 has:∀q∈qs,hasB B q.2
 new:∀q∈qs,∀b,q.2=some b->h b.blk=none
 apart:qs.Pairwise fun a b=>apart a.2 b.2
theorem TkOk.push{h B:AHeap}{qs:List MemB}(ht:TkOk h B qs)(hs:Sub h B){tb:Option Buf}(hb:bufOk B 5 tb){m:MemC}(hc:Yu tb=(m.toks.map QK).flatten):TkOk h (QG B tb) (qs++[(m,tb)]):=by
 have hS:Sub B (QG B tb):=Sub.buf hb;refine⟨fun q hq=>?_,fun q hq=>?_,fun q hq b e=>?_,?_⟩
 ·rcases List.mem_append.1 hq with c|c
  ·exact ht.toks q c
  ·rw[List.mem_singleton.1 c];exact hc
 ·rcases List.mem_append.1 hq with c|c
  ·exact(ht.has q c).mono hS
  ·rw[List.mem_singleton.1 c];exact qeh B tb
 ·rcases List.mem_append.1 hq with c|c
  ·exact ht.new q c b e
  ·rw[List.mem_singleton.1 c]at e
   simp only at e;subst e;exact hs.none hb.1
 ·rw[List.pairwise_append]
  refine⟨ht.apart,List.pairwise_singleton _ _,fun q hq r hr x y ex ey e=>?_⟩;rw[List.mem_singleton.1 hr]at ey;simp only at ey;subst ey;have h1:=ht.has q hq x ex;have h2:=hb.1;rw[<-e,h1]at h2;cases h2
theorem qaD{l:List MemB}:∀x∈l.map qcI,x.length=2:=fun x hx=>by obtain⟨y,_,rfl⟩:=List.mem_map.1 hx;rfl
theorem memBC_scal(l:List MemB):QC ((l.map qcI).flatten)=true:=Yo.2 fun x hx=>by
 obtain⟨y,_,rfl⟩:=List.mem_map.1 hx;show(true && ((QA 5 y.2).scal && true))=true
 rw[YP];rfl
structure LbG where
 i:Nat
 B:AHeap
 mb:Option Buf
 qs:List MemB
structure LbOk(h:AHeap)(ms:List MemC)(s:LbG):Prop where
 sub:Sub h s.B
 ok:bufOk s.B 2 s.mb
 eq:Yu s.mb=(s.qs.map qcI).flatten
 ms:s.qs.map (·.1)=ms
 tk:TkOk h s.B s.qs
theorem libE_step{m:List (List UInt8)}{i:Nat}(hi:i<m.length)(h8:i<8):(qdm m).take (i+1)=(qdm m).take i++[⟨Yp i,lOf (m.getD i [])⟩]:=by
 have:(qdm m)[i]?=some ⟨Yp i,lOf (m.getD i [])⟩:=by
  unfold qdm;rw[List.getElem?_mapIdx,List.getElem?_take,if_pos h8,List.getElem?_eq_getElem hi];simp[List.getD,hi]
 rw[List.take_add_one,this];rfl
theorem libE_end{m:List (List UInt8)}{i:Nat}(h8:i<=8)(h:m.length<=i\/8<=i):(qdm m).take i=qdm m:=by
 refine List.take_of_length_le ?_;unfold qdm;simp;omega
theorem bufV_Sc(es:Nat)(b:Option Buf):Sc (QA es b)=True:=by cases b<;>exact eq_true trivial
theorem digitsM_cut:∀i:Fin 8,(([48,49,50,51,52,53,54,55]:Str).drop i.val).take (i.val+1-i.val)=[UInt8.ofNat (48+i.val)]:=by decide
set_option maxHeartbeats 2000000 in
theorem c_library04(wz:World)(h:AHeap)(v:AVal)(m:List (List UInt8))(hv:IsLs wz h v m)(hl:m.length<=1000000)(hl2:∀x∈m,x.length<=9223372036854775807):
 ACall Tryz.prog wz 11 [v] h (fun r h'=>∃s:LbG,r=QA 2 s.mb/\h'=QG s.B s.mb/\LbOk h (qdm m) s):=by
 obtain⟨qs,hm,hv1,hv2⟩:=hv;have hlv:=hv1.live;have hlen:=lis_len hv1;have hmq:m.length=qs.length:=by rw[hm,List.length_map]
 have hcS:Sc .nilSlice=True:=eq_true trivial;refine qU (n:=30) (rs:=[.tmp 2]) Tryz.func11 rfl rfl rfl rfl (Nat.le_of_ble_eq_true rfl) ?_;simp only[Qe];refine awp_rseq [0] (by rfl) fun K hK=>?_;simp+decide only[qa,ev,qH,qF,putD,Slots.put,Slots.keep,if_true,if_false,true_and,↓qd,qb];apply hK;clear hK K;refine awp_rseq [0,3] (by rfl) fun K hK=>?_;simp+decide only[qa,ev,qH,qF,putD,Slots.put,Slots.keep,if_true,if_false,true_and,↓qd,qb];apply hK;clear hK K;refine qK ?_;refine awp_rseq [0,3,4] (by rfl) fun K hK=>?_;simp+decide only[qa,ev,qH,qF,putD,Slots.put,Slots.keep,if_true,if_false,true_and,↓qd,qb];apply hK;clear hK K;refine Ql ?_;refine Xv [0,3,4] (fun s:LbG=>[(0,v),(3,QA 2 s.mb),(4, .int .i64 s.i)]) (fun s:LbG=>QG s.B s.mb) (fun s:LbG=>s.i<=qs.length/\s.i<=8/\LbOk h ((qdm m).take s.i) s) (fun s:LbG=>8-s.i) ⟨0,h,none,[]⟩ (by rfl) (Sub.refl _) ⟨Nat.zero_le _,Nat.zero_le _,Sub.refl _,trivial,rfl,rfl,⟨fun q hq=>(by cases hq),fun q hq=>(by cases hq),fun q hq=>(by cases hq),List.Pairwise.nil⟩⟩ ?_;rintro⟨i,B,mb,ms⟩ ⟨g1,g2,g3,g4,g5,g6,g7⟩;simp only at g1 g2 g3 g4 g5 g6 g7|-
 have hbl:=QV 2 mb;refine qK ?_;refine awp_rseq [0,3,4,12] (by rfl) fun K hK=>?_;simp+decide only[qa,ev,qH,qF,putD,Slots.put,Slots.get,Slots.keep,if_true,if_false,true_and,↓qh,qc,↓Xo,QD,↓qA,ql,qR,cond_false,qo,XP,↓Xf,agP,Qs,qL,qI,qz,implies_true,↓Xb,qB,Zc,Zd,↓QT,Qu,Qh,Xg,Xp,hlen];apply hK;clear hK K;refine qJ (b:=_) rfl (fun hb1=>?_) (fun hb1=>?_)
 ·try simp only[decide_eq_true_eq,Bool.and_eq_true]at hb1
  have hi:i<qs.length:=by omega
  have hi8:i<8:=by omega
  obtain⟨lc,o,c,rfl⟩:=lis_open hv1 (by omega);have hSb:Sub h (QG B mb):=g3.trans (Sub.buf g4);have he:=lis_at (hv1.mono hSb) hi;obtain⟨x,hx⟩:∃x,x=qs.getD i badL:=⟨_,rfl⟩
  rw[<-hx]at he;have hxm:x∈qs:=by rw[hx];exact qaO badL hi
  have hxv:=(hv2 x hxm).mono hSb;have hxl:=hxv.live;have hmx:m.getD i []=x.1:=by rw[hm,hx,List.getD,List.getElem?_map,List.getElem?_eq_getElem hi,List.getD,List.getElem?_eq_getElem hi];rfl
  have hx2:x.1.length<=9223372036854775807:=hl2 _ (by rw[hm];exact List.mem_map_of_mem hxm);have hcut:=digitsM_cut ⟨i,hi8⟩;simp only at hcut;have hcut1:List.take ((((i:Nat):Int)+1).toNat-i) (List.drop i ([48,49,50,51,52,53,54,55]:Str))=[UInt8.ofNat (48+i)]:=by
   rw[show((i:Int)+1).toNat=i+1 by omega];exact hcut
  have hml:ms.length=i:=by
   have:=congrArg List.length g6;rw[List.length_map,List.length_take]at this;unfold qdm at this;rw[List.length_mapIdx,List.length_take]at this;omega
  refine qP ?_;change Awp _ _ _ _ _ _ _;refine qK ?_;refine Ql ?_;refine awp_draw_J [0,1,2,3,4,5,6,7,8,9,10,11,12,13,14] [false,false,false,false,false,false,false,false,false,false,false,false,false,false,false] [none,none,none,none,none,none,none,none,none,none,none,some 10,some 11,some 12,some 13] 13 mixed (by kernel_rfl) (by rfl) ?_;simp only[Yb,List.filterMap_cons,List.filterMap_nil,List.getElem?_cons_zero,List.getElem?_cons_succ];simp+decide only[qa,ev,qH,qF,putD,Slots.put,Slots.get,if_true,if_false,true_and,jOps_cons,jOps_zero,Uc,↓qh,qc,↓qA,ql,qB,cond_false,qo,QY];try simp(disch:=omega)only[wrap_i64]
  try simp+decide only[qa,ev,qH,qF,putD,Slots.put,Slots.get,if_true,if_false,true_and,Uc,↓Ua,Zu,evO,qbL Tryz.underlying9,UN,WZ,qR,cond_false,XZ,qdj,↓QB,qY,Qb Tryz.underlying24 sz23,↓qG,qy ag23,he,hxl,hcut1,Int.toNat_natCast,Nat.mul_one]
  refine⟨⟨by omega,by omega,by(show(i:Int)+1<=8;omega)⟩,by(simp only[List.length_cons,List.length_nil];omega),⟨by omega,by omega⟩,?_⟩;refine QN (by rfl) (by rfl) (c_Of04 wz _ _ x.1 hxv hx2) fun x5q10 h5q10 hx5q10=>?_;obtain⟨tb,hxe,o1,o2,o3⟩:=hx5q10;subst hxe;obtain⟨sw1,sw2,sw3⟩:=bufSwap3 g4 o1;have hs5:Sub (QG B mb) h5q10:=by rw[o3];exact Sub.buf o1
  have hcl:=QV 5 tb;have hcS:=bufV_Sc 5 tb;have hcs:=YP 5 tb;rw[qa];refine And.intro (by first|exact Sub.refl _|assumption|exact Sub.set (by assumption)) ?_;simp+decide only[qa,ev,qH,qF,putD,Slots.put,Slots.get,if_true,if_false,true_and,Uc,↓Qp,↓qW,bld57_0_1,evP,List.map_cons,List.map_nil,hcS];refine Qm (cs:=[.str (Yp i),QA 5 tb]) (by rfl) fun k5q12 hk5q12=>?_;try have hf_5q12:h k5q12=none:=by first|assumption|(simp only[AHeap.set_none]at hk5q12;simp only[hk5q12])
  rw[qa];refine And.intro (by first|exact Sub.refl _|assumption|exact Sub.set (by assumption)) ?_;simp+decide only[putD,Slots.put,if_false];refine Xu (es:=2) (zs:=ms.map qcI) (xs:=[[.str (Yp i),QA 5 tb]]) (hZ:=QG B tb) (b:=mb) (by rfl) (by rfl) Tryz.underlying28 Tryz.underlying28 (fun k e=>by cases e) sz57 by57 ze57 (by rfl) (by decide) (by rfl) sw3 g5 qaD (by rw[<-sw1,<-o3];exact Sub.set (by assumption)) (by rfl) (IsL.own (AHeap.set_same _ _ _) (by simp) (by rfl) (by simp[AM.allLive,qE,hcl]) (.exact 1) (Nat.le_refl _)) (by simp[QC,Ze,hcs]) (by simp;omega) (by simp;omega) fun mb2 h5 p1 p2 p3=>?_;simp+decide only[qa,ev,putD,Slots.put,Slots.get,if_true,if_false,true_and,↓qd,qb];change Awp _ _ _ _ _ _ _;refine XA [0,3,4] (by rfl) ?_;simp+decide only[qa,ev,qH,qF,putD,Slots.put,Slots.get,Slots.keep,if_true,if_false,true_and,↓qh,qc,↓qA,ql,qB,cond_false,qo,QY,↓qd,qb];try simp(disch:=omega)only[wrap_i64]
  try simp only[Qg]
  exact⟨⟨i+1,QG B tb,mb2,ms++[(⟨Yp i,lOf x.1⟩,tb)]⟩,rfl,p3,⟨hi,hi8,g3.trans (Sub.buf sw2),p1,by rw[p2,List.map_append];rfl,by rw[List.map_append,g6,libE_step (by omega) hi8,hmx];rfl,g7.push g3 sw2 o2⟩,by simp only;omega⟩
 ·try simp only[decide_eq_false_iff_not,Bool.and_eq_false_iff]at hb1
  have he:=libE_end (m:=m) g2 (by omega);refine Xy ?_;change Awp _ _ _ _ _ _ _;refine awp_rseq [2] (by rfl) fun K hK=>?_;simp+decide only[qa,ev,putD,Slots.put,Slots.get,Slots.keep,if_true,if_false,true_and,↓qh,qc,↓qd,qb];apply hK;clear hK K;refine qO ?_;refine QR (qZ (Qd)) ?_;simp+decide only[Slots.get,if_true,Qr];exact⟨QG B mb,Sub.refl _,⟨i,B,mb,ms⟩,rfl,rfl,g3,g4,g5,by rw[g6,he],g7⟩
end Go.Proofs.YtlhhaagmakhilaaGreatDoor
namespace Go.Proofs.YtlhhaagmakhilaaGreatDoor
open Go.AM
open Go.Proofs
open Go.Col (Str FaultC okF sp)
open Go.Tok
open Go.Cop
open Go.RowKit (Below)
set_option maxRecDepth 100000
theorem IsL.has{wz:World}{H:AHeap}{es:Nat}{ob:Option Buf}{xs:List (List AVal)}(hb:hasB H ob)(hes:0<es)(hc:Yu ob=xs.flatten)(hw:∀x∈xs,x.length=es)(hl:AM.allLive xs.flatten=true):IsL wz H es (QA es ob) xs:=by
 cases ob with
 |none=>
  have e:=Xz hw;rw[<-hc]at e;have e0:xs.length*es=0:=by rw[<-e];rfl
  have:xs=[]:=by
   rcases Nat.mul_eq_zero.1 e0 with e1|e1
   ·exact List.eq_nil_of_length_eq_zero e1
   ·omega
  subst this;exact .nil
 |some b=>
  have hc':b.cells=xs.flatten:=hc;have e:b.cells.length / es=xs.length:=by rw[hc',Xz hw,Nat.mul_div_cancel _ hes]
  show IsL wz H es (.slice (.own b.blk) 0 (b.cells.length / es) (.grow es)) xs
  rw[e];exact IsL.own (hb b rfl) hw hc' hl (.grow es) rfl
def UK(k i:Nat)(l:List TokC):List TokC:=(qcv i l).take k++l.drop k
theorem WC(k i:Nat)(l:List TokC):(UK k i l).length=l.length:=by
 unfold UK;rw[List.length_append,List.length_take,List.length_drop,qcn];omega
theorem acyP_all{k i:Nat}{l:List TokC}(h:l.length<=k):UK k i l=qcv i l:=by
 unfold UK;rw[List.drop_of_length_le h,List.append_nil,List.take_of_length_le (by rw[qcn];exact h)]
theorem acyP_one(i:Nat)(l:List TokC):UK 1 i l=l:=by
 cases l with
 |nil=>rfl
 |cons a l=>
  unfold UK qcv;simp
theorem acyP_get{k i j:Nat}{l:List TokC}(hj:k<=j)(hl:j<l.length):(UK k i l).getD j noT=l.getD j noT:=by
 unfold UK;rw[List.getD,List.getElem?_append_right (by rw[List.length_take,qcn];omega),List.length_take,qcn,Nat.min_eq_left (by omega),List.getElem?_drop,show k+(j-k)=j by omega];rfl
theorem acyP_before{k i j:Nat}{l:List TokC}(hj:j<k)(hk:k<=l.length):(UK k i l).getD j noT=(qcv i l).getD j noT:=by
 unfold UK;rw[List.getD,List.getElem?_append_left (by rw[List.length_take,qcn];omega),List.getElem?_take,if_pos hj];rfl
theorem acyP_step{k i:Nat}{l:List TokC}(hk:k<l.length):UK (k+1) i l=(UK k i l).set k ((qcv i l).getD k noT):=by
 apply List.ext_getElem?;intro j;rw[List.getElem?_set,WC];have hla:=qcn i l;by_cases e:k=j
 ·subst e
  rw[if_pos rfl,if_pos hk];unfold UK;rw[List.getElem?_append_left (by rw[List.length_take,hla];omega),List.getElem?_take,if_pos (by omega),List.getElem?_eq_getElem (by omega),List.getD,List.getElem?_eq_getElem (by omega)];rfl
 ·rw[if_neg e]
  unfold UK;by_cases h:j<k
  ·rw[List.getElem?_append_left (by rw[List.length_take,hla];omega),List.getElem?_append_left (by rw[List.length_take,hla];omega),List.getElem?_take,List.getElem?_take,if_pos h,if_pos (by omega)]
  ·rw[List.getElem?_append_right (by rw[List.length_take,hla];omega),List.getElem?_append_right (by rw[List.length_take,hla];omega),List.length_take,List.length_take,hla,List.getElem?_drop,List.getElem?_drop,Nat.min_eq_left (by omega),Nat.min_eq_left (by omega),show k+1+(j-(k+1))=j by omega,show k+(j-k)=j by omega]
def qca(i k:Nat)(m:List (List UInt8)):List MemC:=(m.take 8).mapIdx fun j x=>⟨Yp j,if j<i then qcv j (lOf x)else if j=i then UK k i (lOf x)else lOf x⟩
theorem acyN_zero(m:List (List UInt8)):qca 0 1 m=qdm m:=by
 unfold qca qdm;congr 1;funext j x;by_cases e:j=0
 ·subst e;simp[acyP_one]
 ·simp[e]
theorem acyN_next{i k:Nat}{m:List (List UInt8)}(h:(lOf (m.getD i [])).length<=k):qca i k m=qca (i+1) 1 m:=by
 unfold qca;apply List.ext_getElem?;intro j;rw[List.getElem?_mapIdx,List.getElem?_mapIdx];cases hj:(m.take 8)[j]? with
 |none=>rfl
 |some x=>
  simp only[Option.map_some,Option.some.injEq];rcases Nat.lt_trichotomy j i with c|c|c
  ·rw[if_pos c,if_pos (by omega)]
  ·subst c
   have hx:m.getD j []=x:=by
    rw[List.getElem?_take]at hj;split at hj
    ·rw[List.getD,hj];rfl
    ·cases hj
   rw[if_neg (by omega),if_pos rfl,if_pos (by omega),<-hx,acyP_all h]
  ·rw[if_neg (by omega),if_neg (by omega),if_neg (by omega)]
   by_cases e:j=i+1
   ·rw[if_pos e,e,acyP_one]
   ·rw[if_neg e]
theorem acyN_all{i:Nat}{m:List (List UInt8)}(h:(m.take 8).length<=i):qca i 1 m=acyE m:=by
 unfold qca acyE;apply List.ext_getElem?;intro j;rw[List.getElem?_mapIdx,List.getElem?_mapIdx];cases hj:(m.take 8)[j]? with
 |none=>rfl
 |some x=>
  have:=(List.getElem?_eq_some_iff.1 hj).1;simp only[Option.map_some,Option.some.injEq];rw[if_pos (by omega)]
theorem acyN_get{i k:Nat}{m:List (List UInt8)}(h:i<m.length)(h8:i<8):(qca i k m).getD i ⟨[],[]⟩=⟨Yp i,UK k i (lOf (m.getD i []))⟩:=by
 unfold qca;rw[List.getD,List.getElem?_mapIdx,List.getElem?_take,if_pos h8,List.getElem?_eq_getElem h];simp[List.getD,h]
theorem acyN_len(i k:Nat)(m:List (List UInt8)):(qca i k m).length=(m.take 8).length:=by unfold qca;rw[List.length_mapIdx]
theorem acyN_set{i k:Nat}{m:List (List UInt8)}(h:i<m.length)(h8:i<8)(hk:k<(lOf (m.getD i [])).length):qca i (k+1) m=(qca i k m).set i ⟨Yp i,(UK k i (lOf (m.getD i []))).set k ((qcv i (lOf (m.getD i []))).getD k noT)⟩:=by
 apply List.ext_getElem?;intro j;rw[List.getElem?_set,acyN_len];unfold qca;rw[List.getElem?_mapIdx,List.getElem?_mapIdx];by_cases e:i=j
 ·subst e
  rw[if_pos rfl,if_pos (by rw[List.length_take];omega),List.getElem?_take,if_pos h8,List.getElem?_eq_getElem h,<-acyP_step hk];simp[List.getD,h]
 ·rw[if_neg e]
  cases hj:(m.take 8)[j]? with
  |none=>rfl
  |some x=>
   simp only[Option.map_some,Option.some.injEq];by_cases c:j<i
   ·rw[if_pos c,if_pos c]
   ·rw[if_neg c,if_neg c,if_neg (fun q=>e q.symm),if_neg (fun q=>e q.symm)]
theorem subOff{h H:AHeap}(hs:Sub h H){k:Nat}(hk:h k=none)(c:Blk):Sub h (H.set k c):=fun j d hj=>by
 have e:j≠k:=fun e=>by subst e;rw[hk]at hj;cases hj
 rw[AHeap.set_ne _ _ e];exact hs j d hj
structure AcOk(h H:AHeap)(mb:Option Buf)(ms:List MemC)(qs:List MemB):Prop where
 sub:Sub h H
 has:hasB H mb
 new:∀b,mb=some b->h b.blk=none
 eq:Yu mb=(qs.map qcI).flatten
 ms:qs.map (·.1)=ms
 tk:TkOk h H qs
 ap:∀q∈qs,apart mb q.2
theorem AcOk.of{h:AHeap}{ms:List MemC}{s:LbG}(hs:LbOk h ms s):AcOk h (QG s.B s.mb) s.mb ms s.qs:=by
 have hS:Sub s.B (QG s.B s.mb):=Sub.buf hs.ok;refine⟨hs.sub.trans hS,qeh _ _,fun b e=>?_,hs.eq,hs.ms,⟨hs.tk.toks,fun q hq=>(hs.tk.has q hq).mono hS,hs.tk.new,hs.tk.apart⟩,fun q hq x y ex ey e=>?_⟩
 ·have:=hs.ok
  rw[e]at this;exact hs.sub.none this.1
 ·have h1:=hs.tk.has q hq y ey
  have h2:=hs.ok;rw[ex]at h2;rw[<-e,h2.1]at h1;cases h1
theorem memB_live{qs:List MemB}:AM.allLive ((qs.map qcI).flatten)=true:=allLive_scal (memBC_scal qs)
theorem AcOk.set{h H:AHeap}{mb:Option Buf}{ms:List MemC}{qs:List MemB}(ha:AcOk h H mb ms qs){i:Nat}(hi:i<qs.length){b:Buf}{nm:Str}{tk tk':List TokC}(hq:qs.getD i (⟨[],[]⟩,none)=(⟨nm,tk⟩,some b))(hl:tk'.length=tk.length):
 AcOk h (H.set b.blk ⟨(tk'.map QK).flatten,0⟩) mb (ms.set i ⟨nm,tk'⟩) (qs.set i (⟨nm,tk'⟩,some ⟨b.blk,(tk'.map QK).flatten⟩)):=by
 have hqi:qs[i]?=some (⟨nm,tk⟩,some b):=by
  rw[List.getD,List.getElem?_eq_getElem hi]at hq;rw[List.getElem?_eq_getElem hi];exact congrArg some hq
 have hmem:(⟨nm,tk⟩,some b)∈qs:=List.mem_of_getElem? hqi;have hbc:b.cells=(tk.map QK).flatten:=ha.tk.toks _ hmem;have hne:∀q∈qs.set i (⟨nm,tk'⟩,some ⟨b.blk,(tk'.map QK).flatten⟩),∀c,q.2=some c->q=(⟨nm,tk'⟩,some ⟨b.blk,(tk'.map QK).flatten⟩)\/(q∈qs/\c.blk≠b.blk):=by
  intro q hq c hc;obtain⟨j,hj,e⟩:=List.getElem_of_mem hq;rw[List.length_set]at hj;by_cases ej:i=j
  ·subst ej
   rw[List.getElem_set_self]at e;exact .inl e.symm
  ·rw[List.getElem_set_ne ej]at e
   have hqm:q∈qs:=by rw[<-e];exact List.getElem_mem hj
   have hpw:=List.pairwise_iff_getElem.1 ha.tk.apart;have hib:qs[i]=(⟨nm,tk⟩,some b):=by rw[List.getElem?_eq_getElem hi]at hqi;exact Option.some.inj hqi
   rcases Nat.lt_or_ge i j with c1|c1
   ·exact .inr ⟨hqm,fun e2=>hpw i j hi hj c1 b c (by rw[hib]) (by rw[e];exact hc) e2.symm⟩
   ·exact .inr ⟨hqm,fun e2=>hpw j i hj hi (by omega) c b (by rw[e];exact hc) (by rw[hib]) e2⟩
 have hbn:=ha.tk.new _ hmem b rfl;have hmap:(qs.set i (⟨nm,tk'⟩,some ⟨b.blk,(tk'.map QK).flatten⟩)).map qcI=qs.map qcI:=by
  rw[List.map_set];refine List.ext_getElem? fun j=>?_;rw[List.getElem?_set,List.length_map];by_cases ej:i=j
  ·subst ej
   rw[if_pos rfl,if_pos hi,List.getElem?_map,hqi];simp only[Option.map_some,qcI,QA];rw[hbc,Xz (es:=5) Xc,Xz (es:=5) Xc,List.length_map,List.length_map,hl]
  ·rw[if_neg ej]
 refine⟨subOff ha.sub hbn _,fun x ex=>?_,ha.new,by rw[hmap];exact ha.eq,by rw[List.map_set,ha.ms],⟨fun q hq=>?_,fun q hq c hc=>?_,fun q hq c hc=>?_,?_⟩,fun q hq x y ex ey e=>?_⟩
 ·rw[AHeap.set_ne _ _ (ha.ap _ hmem x b ex rfl)]
  exact ha.has x ex
 ·rcases hq2:q.2 with _|c
  ·have:q∈qs:=by
    obtain⟨j,hj,e⟩:=List.getElem_of_mem hq;rw[List.length_set]at hj;by_cases ej:i=j
    ·subst ej
     rw[List.getElem_set_self]at e;rw[<-e]at hq2;cases hq2
    ·rw[List.getElem_set_ne ej]at e
     rw[<-e];exact List.getElem_mem hj
   rw[<-hq2];exact ha.tk.toks q this
  ·rcases hne q hq c hq2 with e|⟨e,-⟩
   ·rw[e]at hq2|-
    rw[<-hq2];rfl
   ·rw[<-hq2];exact ha.tk.toks q e
 ·rcases hne q hq c hc with e|⟨e,e2⟩
  ·rw[e]at hc
   obtain rfl:=Option.some.inj hc;exact AHeap.set_same _ _ _
  ·rw[AHeap.set_ne _ _ e2]
   exact ha.tk.has q e c hc
 ·rcases hne q hq c hc with e|⟨e,e2⟩
  ·rw[e]at hc
   obtain rfl:=Option.some.inj hc;exact hbn
  ·exact ha.tk.new q e c hc
 ·rw[List.pairwise_iff_getElem]
  intro j1 j2 h1 h2 hlt x y ex ey e;rw[List.length_set]at h1 h2;have hpw:=List.pairwise_iff_getElem.1 ha.tk.apart;have hib:qs[i]=(⟨nm,tk⟩,some b):=by rw[List.getElem?_eq_getElem hi]at hqi;exact Option.some.inj hqi
  by_cases e1:i=j1
  ·subst e1
   rw[List.getElem_set_self]at ex;rw[List.getElem_set_ne (by omega)]at ey;obtain rfl:=Option.some.inj ex;exact hpw i j2 h1 h2 hlt b y (by rw[hib]) ey e
  ·rw[List.getElem_set_ne e1]at ex
   by_cases e2:i=j2
   ·subst e2
    rw[List.getElem_set_self]at ey;obtain rfl:=Option.some.inj ey;exact hpw j1 i h1 h2 hlt x b ex (by rw[hib]) e
   ·rw[List.getElem_set_ne e2]at ey
    exact hpw j1 j2 h1 h2 hlt x y ex ey e
 ·rcases hne q hq y ey with e1|⟨e1,e2⟩
  ·rw[e1]at ey
   obtain rfl:=Option.some.inj ey;exact ha.ap _ hmem x b ex rfl e
  ·exact ha.ap q e1 x y ex ey e
end Go.Proofs.YtlhhaagmakhilaaGreatDoor
namespace Go.Proofs.YtlhhaagmakhilaaGreatDoor
open Go.AM
open Go.Proofs
open Go.Col (Str FaultC okF sp)
open Go.Tok
open Go.Cop
open Go.RowKit (Below)
set_option maxRecDepth 100000
theorem flat_set1:∀(l:List TokC) (i:Nat) (a:AVal) (t:TokC),i<l.length->QK t=(QK (l.getD i Zy)).take 1++[a]++(QK (l.getD i Zy)).drop 2->setAt ((l.map QK).flatten) (i*5+1) [a]=((l.set i t).map QK).flatten
 |[],i,_,_,h,_=>by simp at h
 |x::l,0,a,t,_,e=>by
  simp only[List.getD_cons_zero]at e;simp only[List.map_cons,List.flatten_cons,List.set_cons_zero,e];rfl
 |x::l,i+1,a,t,h,e=>by
  simp only[List.getD_cons_succ]at e;have ih:=flat_set1 l i a t (by simpa using h) e;simp only[List.map_cons,List.flatten_cons,List.set_cons_succ];rw[<-ih,show(i+1)*5+1=5+(i*5+1) by omega,qbs (m:=5) rfl]
theorem aOps_storeText{P:Program}{wz:World}{ops rest:List Oper}{s:Slots}{H:AHeap}{K:Slots->AHeap->Prop}{dst:Option Tmp}{ty:TypeId}{pos:String}{af:Array Edge}{t:TypeId}{x y:Operand}{k i:Nat}{l:List TokC}{nm:Str}
 (hx:ev s x= .ptr (.own k) (i*5+1)) (hv:ev s y= .str nm) (hb:H k=some ⟨(l.map QK).flatten,0⟩) (hi:i<l.length) (hn:ZZ P t=some 1)
 (hk:QJ P wz ops rest (putD s dst (.tuple [])) (H.set k ⟨((l.set i ⟨(l.getD i Zy).kind,nm,(l.getD i Zy).line,(l.getD i Zy).col,(l.getD i Zy).left⟩).map QK).flatten,0⟩) K):
 QJ P wz ops (⟨dst, .store t x y,ty,pos,af,none⟩::rest) s H K:=by
 refine qp hx hv hb hn rfl rfl ?_ (Nat.zero_le _) rfl ?_
 ·simp only
  rw[Xz (es:=5) Xc,List.length_map];omega
 ·simp only[AVal.cells]
  rw[flat_set1 l i _ ⟨(l.getD i Zy).kind,nm,(l.getD i Zy).line,(l.getD i Zy).col,(l.getD i Zy).left⟩ hi rfl];exact hk
theorem u8_sub48(c:UInt8):IntKind.u8.wrap ((c.toNat:Int)-48)=((c-48).toNat:Int):=by
 have h:∀n:Fin 256,IntKind.u8.wrap ((n.val:Int)-48)=((UInt8.ofNat n.val-48).toNat:Int):=by decide+kernel
 have:=h ⟨c.toNat,c.toNat_lt⟩;simpa using this
theorem u8_i64(c:UInt8):IntKind.i64.wrap (c.toNat:Int)=c.toNat:=by
 have:=c.toNat_lt;exact wrap_i64 (by omega) (by omega)
theorem set_same'{α:Type}{l:List α}{i:Nat}(d:α)(hi:i<l.length):l.set i (l.getD i d)=l:=by
 rw[List.getD,List.getElem?_eq_getElem hi];exact List.set_getElem_self hi
theorem acyN_same{i k:Nat}{m:List (List UInt8)}(h:i<(m.take 8).length)(hk:k<(lOf (m.getD i [])).length)(he:(qcv i (lOf (m.getD i []))).getD k noT=(lOf (m.getD i [])).getD k noT):qca i (k+1) m=qca i k m:=by
 have h1:i<m.length/\i<8:=by rw[List.length_take]at h;omega
 rw[acyN_set h1.1 h1.2 hk,he,<-acyP_get (k:=k) (i:=i) (Nat.le_refl _) hk,set_same' noT (by rw[WC];exact hk),<-acyN_get (k:=k) h1.1 h1.2,set_same' _ (by rw[acyN_len];exact h)]
theorem nines_cut:∀i:Fin 8,(([49,50,51,52,53,54,55,56,57]:Str).drop i.val).take (i.val+1-i.val)=[UInt8.ofNat (48+(i.val+1))]:=by decide
theorem acy_copy{i:Nat}{l:List TokC}(j:Nat):((qcv i l).getD j noT).text=COPY↔(l.getD j noT).text=COPY:=by
 rw[acy_get];split
 ·rename_i hc
  obtain⟨-,-,-,-,h2,-⟩:=hc;constructor
  ·intro e
   have:=congrArg List.length e;simp[Yp,COPY]at this
  ·intro e
   rw[e]at h2;simp[COPY]at h2
 ·exact Iff.rfl
def badB:MemB:=(⟨[],[]⟩,none)
structure AcG where
 i:Nat
 H:AHeap
 qs:List MemB
theorem acq_len{h H:AHeap}{mb:Option Buf}{m:List (List UInt8)}{i k:Nat}{qs:List MemB}(ha:AcOk h H mb (qca i k m) qs):qs.length=(m.take 8).length:=by
 have:=congrArg List.length ha.ms
 rwa [List.length_map,acyN_len]at this
theorem acq_get{h H:AHeap}{mb:Option Buf}{m:List (List UInt8)}{i k:Nat}{qs:List MemB}(ha:AcOk h H mb (qca i k m) qs)(hi:i<(m.take 8).length):∃tb,qs.getD i badB=(⟨Yp i,UK k i (lOf (m.getD i []))⟩,tb):=by
 have hq:=acq_len ha;have h1:i<m.length/\i<8:=by rw[List.length_take]at hi;omega
 have hg:=acyN_get (k:=k) h1.1 h1.2;rw[<-ha.ms,List.getD,List.getElem?_map,List.getElem?_eq_getElem (by omega)]at hg;refine⟨(qs.getD i badB).2,?_⟩;rw[List.getD,List.getElem?_eq_getElem (by omega)];exact Prod.ext hg rfl
theorem AcOk.mems{wz:World}{h H:AHeap}{mb:Option Buf}{ms:List MemC}{qs:List MemB}(ha:AcOk h H mb ms qs):IsMems wz H (QA 2 mb) ms:=by
 refine⟨qs.map fun q=>(q.1,QA 5 q.2),?_,?_,?_⟩
 ·rw[List.map_map,<-ha.ms];rfl
 ·rw[List.map_map]
  exact IsL.has ha.has (by decide) ha.eq qaD memB_live
 ·intro q hq
  obtain⟨x,hx,rfl⟩:=List.mem_map.1 hq;exact IsL.has (ha.tk.has x hx) (by decide) (ha.tk.toks x hx) Xc (WK _)
set_option maxHeartbeats 2000000 in
theorem c_acyclic04(wz:World)(h:AHeap)(v:AVal)(m:List (List UInt8))(hv:IsLs wz h v m)(hl:m.length<=1000000)(hl2:∀x∈m,x.length<=9223372036854775807):
 ACall Tryz.prog wz 19 [v] h (fun r h'=>∃mb qs,r=QA 2 mb/\AcOk h h' mb (acyE m) qs):=by
 have hlv:v.live=true:=by obtain⟨qs,-,h1,-⟩:=hv;exact h1.live
 refine qU (n:=78) (rs:=[.tmp 2]) Tryz.func19 rfl rfl rfl rfl (Nat.le_of_ble_eq_true rfl) ?_;simp only[Qe];refine awp_rseq [0] (by rfl) fun K hK=>?_;simp+decide only[qa,ev,qH,qF,putD,Slots.put,Slots.keep,if_true,if_false,true_and,↓qd,qb];apply hK;clear hK K;refine awp_rseq [3] (by rfl) fun K hK=>?_;simp+decide only[ev,putD,Slots.put,Slots.get,if_true,if_false,true_and,↓qh,qc];refine QN (by rfl) (by rfl) (c_library04 wz _ v m hv hl hl2) fun x1q1 h1q1 hx1q1=>?_;obtain⟨⟨j0,B0,mb,qs0⟩,rfl,e1,hL⟩:=hx1q1;have hA:=AcOk.of hL;rw[<-acyN_zero]at hA;simp only at e1 hA|-
 rw[<-e1]at hA;have hbl:=QV 2 mb;simp+decide only[qa,ev,putD,Slots.put,Slots.get,Slots.keep,if_true,if_false,true_and,↓qd,qb];apply hK;clear hK K;refine qK ?_;refine awp_rseq [3,4] (by rfl) fun K hK=>?_;simp+decide only[qa,ev,qH,qF,putD,Slots.put,Slots.keep,if_true,if_false,true_and,↓qd,qb];apply hK;clear hK K;refine Ql ?_;refine Xv [3,4] (fun s:AcG=>[(3,QA 2 mb),(4, .int .i64 s.i)]) (fun s:AcG=>s.H) (fun s:AcG=>s.i<=(m.take 8).length/\AcOk h s.H mb (qca s.i 1 m) s.qs) (fun s:AcG=>(m.take 8).length-s.i) ⟨0,h1q1,qs0⟩ (by rfl) (Sub.refl _) ⟨Nat.zero_le _,hA⟩ ?_;rintro⟨i,H,qs⟩ ⟨g1,g2⟩;simp only at g1 g2|-
 have hM:IsL wz H 2 (QA 2 mb) (qs.map qcI):=IsL.has g2.has (by decide) g2.eq qaD memB_live;have hMl:=hM.len Tryz.underlying28;rw[List.length_map,acq_len g2]at hMl;refine qK ?_;refine awp_rseq [3,4,12] (by rfl) fun K hK=>?_;simp+decide only[qa,ev,putD,Slots.put,Slots.get,Slots.keep,if_true,if_false,true_and,↓qh,qc,↓Xo,QD,↓qA,ql,qR,cond_false,qo,XP,hMl];apply hK;clear hK K;refine qJ (b:=_) rfl (fun hb1=>?_) (fun hb1=>?_)
 ·try simp only[decide_eq_true_eq]at hb1
  have hi:i<(m.take 8).length:=by omega
  have hi8':i<8:=by have h0:=hi;rw[List.length_take]at h0;omega
  obtain⟨b2,rfl⟩:∃b2,mb=some b2:=by
   cases mb with
   |some b=>exact⟨b,rfl⟩
   |none=>
    have e:=congrArg List.length g2.eq;rw[Xz (es:=2) qaD,List.length_map,acq_len g2]at e;simp only[Yu,List.length_nil]at e;omega
  have hbv2:QA 2 (some b2)= .slice (.own b2.blk) 0 (m.take 8).length (.grow 2):=by
   show AVal.slice (.own b2.blk) 0 (b2.cells.length / 2) (.grow 2)=_
   rw[show b2.cells=(qs.map qcI).flatten from g2.eq,Xz (es:=2) qaD,List.length_map,acq_len g2,Nat.mul_div_cancel _ (by decide)]
  obtain⟨l,hl0⟩:∃l,l=lOf (m.getD i []):=⟨_,rfl⟩
  have h840:l.length<=840:=by rw[hl0];exact(qeM _).2
  refine qP ?_;change Awp _ _ _ _ _ _ _;refine qK ?_;refine Ql ?_;refine awp_rseq [3,4,5] (by rfl) fun K hK=>?_;simp+decide only[qa,ev,qH,qF,putD,Slots.put,Slots.keep,if_true,if_false,true_and,↓qd,qb];apply hK;clear hK K;refine Ql ?_;refine Xv [3,4,5] (fun g:AcG=>[(3,QA 2 (some b2)),(4, .int .i64 i),(5, .int .i64 g.i)]) (fun g:AcG=>g.H) (fun g:AcG=>1<=g.i/\g.i<=841/\AcOk h g.H (some b2) (qca i g.i m) g.qs) (fun g:AcG=>841-g.i) ⟨1,H,qs⟩ (by rfl) (Sub.refl _) ⟨Nat.le_refl _,by(simp only;omega),g2⟩ ?_;rintro⟨k,G,ps⟩ ⟨k1,k2,k3⟩;simp only at k1 k2 k3|-
  obtain⟨tb,htb⟩:=acq_get k3 hi;rw[<-hl0]at htb;have hpl:=acq_len k3;have hpi:i<ps.length:=by omega
  have hpm:ps.getD i badB∈ps:=qaO badB hpi;have hG:IsL wz G 2 (QA 2 (some b2)) (ps.map qcI):=IsL.has k3.has (by decide) k3.eq qaD memB_live;rw[hbv2]at hG;have hGl:=hG.len Tryz.underlying28;rw[List.length_map,hpl]at hGl;have e1:rd wz G (.own b2.blk) (i*2+1)=QA 5 tb:=by
   have he:=hG.elem (i:=i) (by rw[List.length_map];exact hpi);rw[getD_map badB hpi,htb]at he;simp only[qf,qcI,List.cons.injEq,and_true,Nat.zero_add]at he;exact he.2
  have hT:IsL wz G 5 (QA 5 tb) ((UK k i l).map QK):=by
   have h1:=k3.tk.has _ hpm;have h2:=k3.tk.toks _ hpm;rw[htb]at h1 h2;exact IsL.has h1 (by decide) h2 Xc (WK _)
  have hTl:=Zp hT;rw[WC]at hTl;have hTv:=hT.live;refine qK ?_;refine awp_rseq [3,4,5,22] (by rfl) fun K hK=>?_;simp+decide only[qa,ev,putD,Slots.put,Slots.get,Slots.keep,if_true,if_false,true_and,↓qh,qc,↓QB,qY,Qb Tryz.underlying28 sz57,↓qC,qm,fa57_1,↓qG,qy UJ,↓Xo,QD,↓qA,ql,qR,cond_false,qo,XP,Nat.zero_add,hbv2,e1,hTl,hTv,Int.toNat_natCast,Nat.zero_add];repeat (with_reducible refine And.intro ?_ ?_;· first|trivial|omega|(intro hg;simp only[Bool.and_eq_true,Bool.or_eq_true,Bool.not_eq_true',Bool.and_eq_false_iff,Bool.or_eq_false_iff,Bool.not_eq_false',decide_eq_true_eq,decide_eq_false_iff_not,XV]at hg;omega))
  apply hK;clear hK K;refine qJ (b:=_) rfl (fun hb2=>?_) (fun hb2=>?_)
  ·try simp only[decide_eq_true_eq]at hb2
   have hk:k<l.length:=by omega
   obtain⟨b,rfl⟩:∃b,tb=some b:=by
    cases tb with
    |some b=>exact⟨b,rfl⟩
    |none=>
     have e:=k3.tk.toks _ hpm;rw[htb]at e;have e:=congrArg List.length e;rw[Xz (es:=5) Xc,List.length_map,WC]at e;simp only[Yu,List.length_nil]at e;omega
   have hbc:b.cells=((UK k i l).map QK).flatten:=by
    have e:=k3.tk.toks _ hpm;rw[htb]at e;exact e
   have hbH:G b.blk=some ⟨((UK k i l).map QK).flatten,0⟩:=by
    have e:=k3.tk.has _ hpm;rw[htb]at e;rw[<-hbc];exact e b rfl
   have hbv5:QA 5 (some b)= .slice (.own b.blk) 0 l.length (.grow 5):=by
    show AVal.slice (.own b.blk) 0 (b.cells.length / 5) (.grow 5)=_
    rw[hbc,Xz (es:=5) Xc,List.length_map,WC,Nat.mul_div_cancel _ (by decide)]
   have hT5:IsL wz G 5 (.slice (.own b.blk) 0 (UK k i l).length (.grow 5)) ((UK k i l).map QK):=by rw[WC,<-hbv5];exact hT
   obtain⟨a0,a1,-,-,-⟩:=qaw hT5 (i:=k) (by rw[WC];exact hk);obtain⟨-,d1,-,-,-⟩:=qaw hT5 (i:=k-1) (by rw[WC];omega);obtain⟨t,ht⟩:∃t,t=l.getD k noT:=⟨_,rfl⟩
   obtain⟨p,hp⟩:∃p,p=(UK k i l).getD (k-1) noT:=⟨_,rfl⟩
   rw[qej _ Zy noT (by rw[WC];exact hk),acyP_get (Nat.le_refl _) hk,<-ht]at a0 a1;rw[qej _ Zy noT (by rw[WC];omega),<-hp]at d1;rw[Nat.zero_add]at a0 a1 d1;have hi8:i<8:=by rw[List.length_take]at hi;omega
   have him:i<m.length:=by rw[List.length_take]at hi;omega
   have hcut:=nines_cut ⟨i,hi8⟩;simp only at hcut;have hcut1:List.take ((((i:Nat):Int)+1).toNat-i) (List.drop i ([49,50,51,52,53,54,55,56,57]:Str))=[UInt8.ofNat (48+(i+1))]:=by
    rw[show((i:Int)+1).toNat=i+1 by omega];exact hcut
   have hpt:p.text=COPY↔(l.getD (k-1) noT).text=COPY:=by rw[hp,acyP_before (by omega) (by omega)];exact acy_copy (k-1)
   have hget:=acy_get i l k;rw[<-ht]at hget;have hdd:(⟨[],[]⟩,none)=badB:=rfl;have hkm:((k:Int)-1).toNat=k-1:=by omega
   refine qP ?_;change Awp _ _ _ _ _ _ _;refine qK ?_;refine Ql ?_;refine awp_rseq [3,4,5,6] (by rfl) fun K hK=>?_;simp+decide only[qa,ev,putD,Slots.put,Slots.get,Slots.keep,if_true,if_false,true_and,↓qh,qc,↓QB,qY,Qb Tryz.underlying28 sz57,↓qC,qm,fa57_1,↓qG,qy UJ,Qb Tryz.underlying26 Xa,↓qd,qb,Nat.zero_add,WY,e1,hbv5,Int.toNat_natCast,Nat.zero_add];repeat (with_reducible refine And.intro ?_ ?_;· first|trivial|omega|(intro hg;simp only[Bool.and_eq_true,Bool.or_eq_true,Bool.not_eq_true',Bool.and_eq_false_iff,Bool.or_eq_false_iff,Bool.not_eq_false',decide_eq_true_eq,decide_eq_false_iff_not,XV]at hg;omega))
   apply hK;clear hK K;refine awp_rseq [3,4,5,6,68] (by kernel_rfl) fun K hK=>?_;simp+decide only[ev,qH,qF,putD,Slots.put,Slots.get,if_true,if_false,true_and,↓qh,qc,↓QB,qY,Qb Tryz.underlying28 sz57,↓qC,qm,fa57_1,↓qG,qy UJ,↓qA,ql,qB,cond_false,qo,UH,Nat.zero_add,WY,e1,hbv5,Int.toNat_natCast,Nat.zero_add];try simp(disch:=omega)only[wrap_i64]
   try simp+decide only[qa,ev,qH,qF,putD,Slots.put,Slots.get,Slots.keep,if_true,if_false,true_and,qY,Qb Tryz.underlying26 Xa,↓qC,qm,UI,↓qG,qy ag9,↓qA,ql,Ym,cond_false,XZ,qfA,↓qh,qc,↓Xf,agP,Qs,qL,qI,qz,implies_true,↓ZY,qM,Qn,qaY,qaZ,↓XC,fa54_0,Zl,Zm,↓Zr,Za,WS,qfb,qy ag52,↓Xb,qB,Zc,qbm,Zd,qbo,qo,XR,↓QT,Qu,Qh,Xg,Xp,↓qbZ,QD,YK Tryz.underlying9,qfH,qfI,↓ag_index,qcE,qbM Tryz.underlying9,cv_indexl,cp_indexl,UH,↓ag_convert _ _ _ (es_int Tryz.underlying5 Tryz.underlying3),qcg,pConv_int Tryz.underlying5 Tryz.underlying3,cv_conv,cp_conv,qR,qea,Nat.zero_add,qi,qE,Nat.zero_add,Nat.add_zero,a0,a1,d1,hkm,u8_sub48,u8_i64]
   repeat (with_reducible refine And.intro ?_ ?_;· first|trivial|omega|(intro hg;simp only[Bool.and_eq_true,decide_eq_true_eq]at hg;omega))
   apply hK;clear hK K;refine qJ (b:=_) rfl (fun hb3=>?_) (fun hb3=>?_)
   ·try simp only[decide_eq_true_eq,Bool.and_eq_true]at hb3
    have hc:k<l.length/\1<=k/\(l.getD (k-1) noT).text=COPY/\t.kind=1/\t.text.length=2/\(t.text.getD 1 0-48).toNat<=i:=by
     obtain⟨⟨⟨c1,c2⟩,c3⟩,c4⟩:=hb3;refine⟨hk,k1,hpt.1 c1,UInt8.toNat_inj.1 (by have:(1:UInt8).toNat=1:=rfl;omega),by omega,?_⟩;have c4':((t.text.getD 1 0-48).toNat:Int)<=i:=c4;omega
    rw[if_pos hc]at hget;refine XA [3,4,5] (by rfl) ?_;simp+decide only[ev,qH,qF,putD,Slots.put,Slots.get,if_true,if_false,true_and,↓qh,qc,↓qA,ql,qB,cond_false,qo,QY,hbv2];try simp(disch:=omega)only[wrap_i64]
    try simp+decide only[ev,qH,qF,putD,Slots.put,Slots.get,if_true,if_false,true_and,↓Ua,Zu,evO,qbL Tryz.underlying9,UN,WZ,↓qA,ql,qR,cond_false,XZ,qdj,↓Qk,qM,Qn,↓qC,qm,UI,Int.toNat_natCast,hcut1]
    refine⟨⟨by omega,by omega,by(show(i:Int)+1<=9;omega)⟩,by(simp only[List.length_cons,List.length_nil];omega),?_⟩;refine aOps_storeText (k:=b.blk) (i:=k) (l:=UK k i l) (by rfl) (by rfl) hbH (by rw[WC];exact hk) sz9 ?_;simp+decide only[qa,putD,Slots.keep,if_true,if_false];change Awp _ _ _ _ _ _ _;refine XA [3,4,5] (by rfl) ?_;simp+decide only[qa,ev,qH,qF,putD,Slots.put,Slots.get,Slots.keep,if_true,if_false,true_and,↓qh,qc,↓qA,ql,qB,cond_false,qo,QY,↓qd,qb];try simp(disch:=omega)only[wrap_i64]
    try simp only[Qg]
    first
    |exact⟨⟨k+1,G,ps⟩,rfl,Sub.refl _,⟨by simp only;omega,by simp only;omega,by
     simp only;rw[acyN_same hi (by rw[<-hl0];exact hk) (by rw[<-hl0,hget,ht])];exact k3⟩,by simp only;omega⟩
    |(refine⟨⟨k+1,G.set b.blk ⟨(((UK k i l).set k ⟨t.kind,Yp (i+1),t.line,t.col,t.left⟩).map QK).flatten,0⟩,ps.set i (⟨Yp i,(UK k i l).set k ⟨t.kind,Yp (i+1),t.line,t.col,t.left⟩⟩,some ⟨b.blk,(((UK k i l).set k ⟨t.kind,Yp (i+1),t.line,t.col,t.left⟩).map QK).flatten⟩)⟩,rfl,?_,⟨by simp only;omega,by simp only;omega,?_⟩,by simp only;omega⟩
      ·simp only
       rw[show(UK k i l).getD k Zy=t from by rw[qej _ Zy noT (by rw[WC];exact hk),acyP_get (Nat.le_refl _) hk,ht]];exact Sub.refl _
      ·simp only
       rw[acyN_set him hi8 (by rw[<-hl0];exact hk),<-hl0,hget];exact k3.set hpi htb (by rw[List.length_set]))
   ·try simp only[decide_eq_false_iff_not,Bool.and_eq_false_iff]at hb3
    have hc:¬(k<l.length/\1<=k/\(l.getD (k-1) noT).text=COPY/\t.kind=1/\t.text.length=2/\(t.text.getD 1 0-48).toNat<=i):=by
     rintro⟨-,-,c1,c2,c3,c4⟩;have e1:=hpt.2 c1;have e2:(t.kind.toNat:Int)=1:=by rw[c2];rfl
     have e4:(((t.text.getD 1 0-48).toNat:Nat):Int)<=i:=by omega
     rcases hb3 with((q|q)|q)|q
     ·exact q e1
     ·exact q e2
     ·exact q (by omega)
     ·exact q e4
    rw[if_neg hc]at hget;refine qP ?_;change Awp _ _ _ _ _ _ _;refine XA [3,4,5] (by rfl) ?_;simp+decide only[qa,ev,qH,qF,putD,Slots.put,Slots.get,Slots.keep,if_true,if_false,true_and,↓qh,qc,↓qA,ql,qB,cond_false,qo,QY,↓qd,qb,hbv2];try simp(disch:=omega)only[wrap_i64]
    try simp only[Qg]
    first
    |exact⟨⟨k+1,G,ps⟩,rfl,Sub.refl _,⟨by simp only;omega,by simp only;omega,by
     simp only;rw[acyN_same hi (by rw[<-hl0];exact hk) (by rw[<-hl0,hget,ht])];exact k3⟩,by simp only;omega⟩
    |(refine⟨⟨k+1,G.set b.blk ⟨(((UK k i l).set k ⟨t.kind,Yp (i+1),t.line,t.col,t.left⟩).map QK).flatten,0⟩,ps.set i (⟨Yp i,(UK k i l).set k ⟨t.kind,Yp (i+1),t.line,t.col,t.left⟩⟩,some ⟨b.blk,(((UK k i l).set k ⟨t.kind,Yp (i+1),t.line,t.col,t.left⟩).map QK).flatten⟩)⟩,rfl,?_,⟨by simp only;omega,by simp only;omega,?_⟩,by simp only;omega⟩
      ·simp only
       rw[show(UK k i l).getD k Zy=t from by rw[qej _ Zy noT (by rw[WC];exact hk),acyP_get (Nat.le_refl _) hk,ht]];exact Sub.refl _
      ·simp only
       rw[acyN_set him hi8 (by rw[<-hl0];exact hk),<-hl0,hget];exact k3.set hpi htb (by rw[List.length_set]))
  ·try simp only[decide_eq_false_iff_not]at hb2
   have hend:qca i k m=qca (i+1) 1 m:=acyN_next (by rw[<-hl0];omega);refine Xy ?_;change Awp _ _ _ _ _ _ _;refine XA [3,4] (by rfl) ?_;simp+decide only[qa,ev,qH,qF,putD,Slots.put,Slots.get,Slots.keep,if_true,if_false,true_and,↓qh,qc,↓qA,ql,qB,cond_false,qo,QY,↓qd,qb];try simp(disch:=omega)only[wrap_i64]
   try simp only[Qg]
   exact⟨⟨i+1,G,ps⟩,by rw[hbv2];rfl,Sub.refl _,⟨hi,by simp only;rw[<-hend];exact k3⟩,by simp only;omega⟩
 ·try simp only[decide_eq_false_iff_not]at hb1
  have hend:qca i 1 m=acyE m:=acyN_all (by omega);refine Xy ?_;change Awp _ _ _ _ _ _ _;refine awp_rseq [2] (by rfl) fun K hK=>?_;simp+decide only[qa,ev,putD,Slots.put,Slots.get,Slots.keep,if_true,if_false,true_and,↓qh,qc,↓qd,qb];apply hK;clear hK K;refine qO ?_;refine QR (qZ (Qd)) ?_;simp+decide only[Slots.get,if_true,Qr];exact⟨H,Sub.refl _,mb,qs,rfl,by rw[<-hend];exact g2⟩
end Go.Proofs.YtlhhaagmakhilaaGreatDoor
namespace Go.Proofs.YtlhhaagmakhilaaGreatDoor
open Go.AM
open Go.Proofs
open Go.Col (Str FaultC okF sp)
open Go.Tok
open Go.Cop
open Go.RowKit (Below)
set_option maxRecDepth 100000
theorem acyE_len(m:List (List UInt8)):(acyE m).length<=m.length:=by
 unfold acyE;rw[List.length_mapIdx,List.length_take];omega
theorem acyE_small(m:List (List UInt8)):∀q∈acyE m,q.toks.length<=100000:=by
 intro q hq;unfold acyE at hq;obtain⟨i,hi,rfl⟩:=List.mem_mapIdx.1 hq;simp only;rw[qcn];exact Nat.le_trans (qeM _).2 (by decide)
theorem libE_small(m:List (List UInt8)):∀q∈qdm m,q.toks.length<=100000:=by
 intro q hq;unfold qdm at hq;obtain⟨i,hi,rfl⟩:=List.mem_mapIdx.1 hq;exact Nat.le_trans (qeM _).2 (by decide)
theorem libE_len(m:List (List UInt8)):(qdm m).length<=m.length:=by
 unfold qdm;rw[List.length_mapIdx,List.length_take];omega
set_option maxHeartbeats 2000000 in
theorem l_None29(wz:World)(hm:MaxL wz)(h H:AHeap)(hs_H:Sub h H)(sv bv:AVal)(x:List UInt8)(m:List (List UInt8))(hx:IsL wz H 1 sv (x.map Uf))(hxl:x.length<=30)(hx2:∀b∈x,b.toNat<200)(hms:IsLs wz H bv m)(hml:m.length<=5)(hm6:∀y∈m,y.length<=6)(hm2:∀y∈m,∀b∈y,b.toNat<200):
 Awp Tryz.prog wz 168 (WP 11 (qcu Tryz.f5)) (qcB Tryz.prog wz [.tmp 4] (fun r h'=>r= .bool true/\h'=h)) [(11,bv),(15,sv)] (H):=by
 have hxv:=hx.live;have hbv:bv.live=true:=by obtain⟨qs,-,h1,-⟩:=hms;exact h1.live
 have hN:=none_law (lim:=true) hx2 hm2;have hovl:(AVal.bool true).live=true:=rfl;have hnvl:(AVal.bool true).live=true:=rfl;change Awp _ _ _ (Code.seq _ _) _ _ _;refine awp_rseq [17,19] (by rfl) fun K hK=>?_;simp+decide only[ev,putD,Slots.put,Slots.get,if_true,if_false,true_and,↓qh,qc];refine QN (by rfl) (by rfl) (c_Of04 wz _ sv x hx (by omega)) fun x29q1 h29q1 hx29q1=>?_;obtain⟨tb,hxe,o1,o2,o3⟩:=hx29q1;subst hxe;have hs1:Sub H h29q1:=by rw[o3];exact Sub.buf o1
 have hlist:IsL wz h29q1 5 (QA 5 tb) ((lOf x).map QK):=by rw[o3];exact IsL.buf o1 (by decide) o2 Xc (Sub.refl _)
 have htl:=QV 5 tb;have hs_h29q1:Sub h h29q1:=Sub.trans zqC hs1;have hr_h29q1:Sub H h29q1:=Sub.trans zqC hs1;simp+decide only[ev,putD,Slots.put,Slots.get,if_true,if_false,true_and,↓qh,qc];refine QN (by rfl) (by rfl) (c_acyclic04 wz _ bv m (hms.mono hs1) (by omega) (fun y hy=>Nat.le_trans (hm6 y hy) (by decide))) fun x29q3 h29q3 hx29q3=>?_;obtain⟨mb,qs,hxe,hA⟩:=hx29q3;subst hxe;have hs3:=hA.sub;have hmem:IsMems wz h29q3 (QA 2 mb) (acyE m):=hA.mems;have hmbl:=QV 2 mb;have hs_h29q3:Sub h h29q3:=Sub.trans zqC hs3;have hr_h29q3:Sub h29q1 h29q3:=Sub.trans zqC hs3;refine QN (by rfl) (by rfl) (qes wz _ (QA 5 tb) (QA 2 mb) (lOf x) (acyE m) (hlist.mono hs3) hmem (Nat.le_trans (qeM x).2 (by decide)) (Nat.le_trans (acyE_len m) (by omega)) (acyE_small m)) fun x29q4 h29q4 hx29q4=>?_;obtain⟨ov,nv,f,rfl,hs4,hc1,hc2,hcase⟩:=hx29q4;have hovl:ov.live=true:=by
  rcases hcase with⟨-,-,rfl,-⟩|⟨-,out,st,-,z,-⟩
  ·rfl
  ·exact z.live
 have hnvl:nv.live=true:=by
  rcases hcase with⟨-,-,-,rfl⟩|⟨-,out,st,-,-,z,-⟩
  ·rfl
  ·exact z.live
 have hs_h29q4:Sub h h29q4:=Sub.trans zqC hs4;have hr_h29q4:Sub h29q3 h29q4:=Sub.trans zqC hs4;simp+decide only[ev,putD,Slots.put,Slots.get,if_true,if_false,true_and,↓qh,qc,↓QW,QH,QS,List.length_cons,List.length_nil,List.getD_cons_zero,List.getD_cons_succ,List.getD_cons_zero,List.getD_cons_succ,Nat.zero_add,Nat.reduceAdd,Qz];refine Qj qbc (cs:=[.int .i64 0, .int .i64 0, .int .i64 0]) (by rfl) fun k29q9 hk29q9=>?_;have hn_29q9:h29q4 k29q9=none:=by first|assumption|(simp only[AHeap.set_none]at hk29q9;simp only[hk29q9])
 have hf_29q9:h k29q9=none:=Sub.none hs_h29q4 hn_29q9;simp+decide only[ev,putD,Slots.put,Slots.get,if_true,if_false,true_and,↓qd,qb];refine qp (by rfl) (by rfl) zqA QI (by rfl) (by rfl) zqD (Nat.zero_le _) (by rfl) ?_;simp only[AHeap.set_set,AVal.cells];simp+decide only[qa,ev,putD,Slots.get,Slots.keep,if_true,if_false,setAt,List.set_cons_zero,List.set_cons_succ,Nat.zero_add,Nat.reduceAdd];apply hK;clear hK K;refine qK ?_;refine awp_rseq [17,19,130] (by rfl) fun K hK=>?_;simp+decide only[qa,ev,qH,qF,putD,Slots.put,Slots.get,Slots.keep,if_true,if_false,true_and,↓qG,qY,qg Xt QI,↓Qp,↓qW,ZJ,evP,List.map_nil,↓qA,ql,qR,cond_false,Yc,ne35,QP,qf,List.getD_cons_zero,List.getD_cons_succ,Nat.zero_add,Nat.reduceAdd,qi,allLive,Bool.and_true,WB];apply hK;clear hK K;refine qJ (b:=_) rfl (fun hb1=>?_) (fun hb1=>?_)
 ·try simp only[decide_eq_false_iff_not,Bool.not_eq_true']at hb1
  obtain⟨hfe,hov⟩:(f.e=7\/f.e=3)/\ov= .nilSlice:=by
   rcases hcase with⟨-,e,z,-⟩|⟨z,-⟩
   ·rw[e]at hN
    exact⟨hN,z⟩
   ·exact absurd z hb1
  have nov:∀G,Ye Tryz.prog G 26 ov=⟨True, .int .i64 0⟩:=by rw[hov];exact Zp (l:=[]) (wz:=wz) (h:=h) .nil
  rcases hfe with hfe|hfe;all_goals
   refine awp_rseq [4] (by rfl) fun K hK=>?_;simp+decide only[ev,qH,qF,putD,Slots.put,Slots.get,if_true,if_false,true_and,↓qC,qm,fa35_0,↓qG,qY,qy ag31,↓qA,ql,qB,cond_false,qo,XR,↓qh,qc,↓XC,agP,Qs,qL,qI,qz,Qf,implies_true,decide_true,decide_false,Bool.not_false,Bool.not_true,Qv,ZC,false_implies,qbI,Bool.and_true,Bool.or_true,qfc,↓Zr,Za,WS,↓Xb,↓QT,Qu,Qh,Xp,ZK,↓Xf,↓qbZ,QD,QP,List.getD_cons_zero,Nat.zero_add,qi,Bool.and_true,hfe,nov]
   (refine Yv (by rfl) ?_;refine qN (V:= .bool true) (by rfl) (by rfl) (qeY wz hm _) ?_)
   simp+decide only[qa,ev,qH,qF,putD,Slots.put,Slots.get,Slots.keep,if_true,if_false,true_and,↓QT,Qu,Qh,Xp,↓qd,qb,Bool.and_true];apply hK;clear hK K;refine qO ?_;try simp only[Qi]
   refine Qa h zqC (qZ (Qd)) ?_;simp+decide only[Slots.get,if_true,and_true,Qr];all_goals first|rfl|exact⟨rfl,rfl⟩|(simp+decide only[if_true,if_false, *];done)|(trace_state;fail)
 ·try simp only[decide_eq_true_eq,Bool.not_eq_false']at hb1
  obtain⟨out,hout,hol,hnc⟩:∃out,IsL wz h29q4 5 ov (out.map QK)/\out.length<=200000/\qal out:=by
   rcases hcase with⟨z,-⟩|⟨-,out,st,e,z1,-,z2,-⟩
   ·exact absurd (by simpa using hb1) z
   ·rw[e]at hN
    exact⟨out,z1,z2,hN⟩
  have nov:=Zp hout;refine qP ?_;change Awp _ _ _ _ _ _ _;refine qK ?_;refine awp_rseq [17,20] (by rfl) fun K hK=>?_;simp+decide only[qa,ev,qH,qF,putD,Slots.put,Slots.keep,if_true,if_false,true_and,↓qd,qb];apply hK;clear hK K;refine Ql ?_;refine Xv [17,20] (fun i:Nat=>[(17,ov),(20, .int .i64 i)]) (fun i:Nat=>h29q4) (fun i:Nat=>i<=out.length) (fun i:Nat=>out.length-i) 0 (by rfl) zqB (Nat.zero_le _) ?_;intro i hi;refine qK ?_;refine awp_rseq [17,20,150] (by rfl) fun K hK=>?_;simp+decide only[qa,ev,putD,Slots.put,Slots.get,Slots.keep,if_true,if_false,true_and,↓qh,qc,↓Xo,QD,↓qA,ql,qR,cond_false,qo,XP,nov];apply hK;clear hK K;refine qJ (b:=_) rfl (fun hb2=>?_) (fun hb2=>?_)
  ·try simp only[decide_eq_true_eq]at hb2
   have hi':i<out.length:=by omega
   obtain⟨lc,o,c,hov⟩:=Ui hout (by omega);have hout':=hout;rw[hov]at hout';obtain⟨e0,e1,-,-,-⟩:=qaw hout' hi';have hci:=hnc _ (qaO Zy hi');refine qP ?_;change Awp _ _ _ _ _ _ _;refine qK ?_;refine Ql ?_;refine awp_rseq [17,20,166] (by rfl) fun K hK=>?_;simp+decide only[qa,ev,qH,qF,putD,Slots.put,Slots.get,Slots.keep,if_true,if_false,true_and,↓qh,qc,↓QB,qY,Qb Tryz.underlying26 Xa,↓qC,qm,fa54_0,↓qG,qy ag52,↓qA,ql,qB,cond_false,qo,XR,↓Xf,agP,Qs,qL,qI,qz,implies_true,↓Yg,Za,WS,agL_il1,agL_ir1,↓XC,UI,Zl,Zm,↓Zr,qfb,qy ag9,↓Xb,Ym,Zc,Zd,XZ,qfA,↓QT,Qu,Qh,Xg,Xp,qi,qE,hov,e0,e1,Int.toNat_natCast,Nat.add_zero];repeat (with_reducible refine And.intro ?_ ?_;· first|trivial|omega|(intro hg;simp only[Bool.and_eq_true,Bool.or_eq_true,Bool.not_eq_true',Bool.and_eq_false_iff,Bool.or_eq_false_iff,Bool.not_eq_false',decide_eq_true_eq,decide_eq_false_iff_not,XV]at hg;omega))
   apply hK;clear hK K;refine qJ (b:=_) rfl (fun hb3=>?_) (fun hb3=>?_)
   ·try simp only[decide_eq_true_eq,Bool.and_eq_true]at hb3
    obtain⟨c1,c2⟩:=hb3;have:qfD (out.getD i Zy)=true:=by
     unfold qfD;rw[Bool.and_eq_true,decide_eq_true_eq,decide_eq_true_eq];exact⟨UInt8.toNat_inj.1 (by have:(1:UInt8).toNat=1:=rfl;omega),c2⟩
    rw[this]at hci;cases hci
   ·try simp only[decide_eq_false_iff_not,Bool.and_eq_false_iff]at hb3
    refine qP ?_;change Awp _ _ _ _ _ _ _;refine XA [17,20] (by rfl) ?_;simp+decide only[qa,ev,qH,qF,putD,Slots.put,Slots.get,Slots.keep,if_true,if_false,true_and,↓qh,qc,↓qA,ql,qB,cond_false,qo,QY,↓qd,qb];try simp(disch:=omega)only[wrap_i64]
    try simp only[Qg]
    exact⟨i+1,by rw[hov];rfl,Sub.refl _,hi',by omega⟩
  ·try simp only[decide_eq_false_iff_not]at hb2
   refine Xy ?_;change Awp _ _ _ _ _ _ _;refine awp_rseq [4] (by rfl) fun K hK=>?_;refine qN (V:= .bool true) (by rfl) (by rfl) (qeY wz hm _) ?_;simp+decide only[qa,ev,putD,Slots.put,Slots.get,Slots.keep,if_true,if_false,true_and,↓qd,qb];apply hK;clear hK K;refine qO ?_;refine Qa h zqC (qZ (Qd)) ?_;simp+decide only[Slots.get,if_true,and_true,Qr];all_goals first|rfl|exact⟨rfl,rfl⟩|(simp+decide only[if_true,if_false, *];done)|(trace_state;fail)
end Go.Proofs.YtlhhaagmakhilaaGreatDoor
