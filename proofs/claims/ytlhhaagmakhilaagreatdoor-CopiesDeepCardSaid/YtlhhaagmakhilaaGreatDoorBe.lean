/-
  Texts of this proof, joined: CqI, CqJ, CqK, CqL, CqM, CqN, CqO, CqP, CqQ, CqR, TkU, CsA, CsB, BmB, CsC, LwR, LwS.
  Conditions: none.
-/
import Derived.Test.YtlhhaagmakhilaaGreatDoorBd
import Derived.Test.YtlhhaagmakhilaaGreatDoorBb
import Derived.Test.YtlhhaagmakhilaaGreatDoorProg
import Derived.WalkKit
import Derived.ProofKit
import Derived.OpenShut
import Derived.ShutString
import Derived.ChangeOld
import Derived.Below
import Derived.Deep.Strs
import Derived.Handed
import Derived.HandedShaped
import Derived.Shelf.Vars
import Derived.Test.YtlhhaagmakhilaaGreatDoorRows
import Derived.Lib.LaidTab
import Derived.MakeChecks
set_option linter.unusedSimpArgs false
set_option linter.unnecessarySimpa false
set_option linter.unusedVariables false
namespace Go.Proofs.YtlhhaagmakhilaaGreatDoor
open Go.AM
open Go.Proofs
open Go.Col
open Go.Tok
open Go.Cop
open Go.RowKit (Below)
set_option maxRecDepth 100000
theorem qcZ(v:AVal):ZJ (ZJ v)=ZJ v:=by cases v<;>rfl
def OutR(h:AHeap)(out:List TokC)(v:AVal)(h':AHeap):Prop:=∃tb,v=ZJ (QO 5 tb)/\bufOk h 5 tb/\Uf tb=(out.map Xw).flatten/\h'=QS h tb
theorem OutR.toks{w0:World}{h h':AHeap}{out:List TokC}{v:AVal}(hr:OutR h out v h'):IsL w0 h' 5 v (out.map Xw)/\ZJ v=v/\Sub h h':=by
 obtain⟨tb,rfl,h1,h2,rfl⟩:=hr;exact⟨(IsL.buf h1 (by decide) h2 Ym (Sub.refl _)).clip,qcZ _,Sub.buf h1⟩
theorem OutR.nil(h:AHeap):OutR h [] .nilSlice h:=⟨none,rfl,trivial,rfl,rfl⟩
theorem bufOk_new{H:AHeap}{es:Nat}{b:Option Buf}{j:Nat}(hb:bufOk H es b)(hj:QS H b j=none)(c:Blk):bufOk (H.set j c) es b:=by
 cases b with
 |none=>trivial
 |some b=>
  have hne:b.blk≠j:=fun e=>by
   rw[<-e,show QS H (some b)=H.set b.blk ⟨b.cells,0⟩from rfl,AHeap.set_same]at hj;cases hj
  exact⟨(AHeap.set_ne _ _ hne).trans hb.1,hb.2⟩
structure RpG where
 at_:Nat
 ka:Nat
 tb:Option Buf
 out:List TokC
structure RpOk(h:AHeap)(k0:Nat)(lv:AVal)(l:List TokC)(rs:List RepC)(s:RpG):Prop where
 at_:s.at_<=l.length
 new:h s.ka=none/\s.ka≠k0
 ok:bufOk ((h.set k0 ⟨[lv],0⟩).set s.ka ⟨[.int .i64 s.at_],0⟩) 5 s.tb
 eq:Uf s.tb=(s.out.map Xw).flatten
 go:s.out++qbN rs (l.drop s.at_)=qbN rs l
set_option maxHeartbeats 2000000 in
theorem c_copyReplace(w0:World)(h:AHeap)(lv rv:AVal)(l:List TokC)(rs:List RepC)(hlv:IsL w0 h 5 lv (l.map Xw))(hrv:IsReps w0 h rv rs)(hl:l.length<=1000000)(hrl:rs.length<=1000000)(hn:∀x∈rs,x.new.length<=1000000):
 ACall Tryz.prog w0 16 [lv,rv] h (fun r h'=>∃v,r= .tuple [v, .int .i64 (qcd l rs).2]/\OutR h (qcd l rs).1 v h'):=by
 obtain⟨qs,hqs,hq2,hq3⟩:=hrv;have hll:=hlv.live;have hls:=hlv.scal;have nl:=Zy hlv;have hlr:=hq2.live;have nr:=rep_len hq2;have hqn:qs.length=rs.length:=by rw[hqs,List.length_map]
 obtain⟨an,han⟩:∃b,b=rs.any (fun x=>decide (x.old=[])):=⟨_,rfl⟩
 have hanq:qs.any (fun q=>decide (q.1.old=[]))=an:=by rw[han,hqs,List.any_map];rfl
 have hR:qcd l rs=if an=true then([],1)else if 65536<(qbN rs l).length then([],3)else(qbN rs l,0):=by rw[han];rfl
 refine qR (n:=50) (rs:=[.tmp 4, .tmp 5]) Tryz.func16 rfl rfl rfl rfl (Nat.le_of_ble_eq_true rfl) ?_;simp only[Qd];refine awp_rseq [1,2] (by rfl) fun K hK=>?_;refine Wi (v:=lv) (cs:=[lv]) (by rfl) hll hlv.cells fun k0q0 hk0q0=>?_;try have hf_0q0:h k0q0=none:=by first|assumption|(simp only[AHeap.set_none]at hk0q0;simp only[hk0q0])
 simp+decide only[qa,ev,qJ,qG,putD,Slots.put,Slots.keep,if_true,if_false,true_and,↓qd,qb,Nat.zero_add];apply hK;clear hK K;refine qO ?_;refine awp_rseq [1,2,10] (by rfl) fun K hK=>?_;simp+decide only[ev,putD,Slots.put,Slots.get,if_true,if_false,true_and,↓qj,qf];refine qM (V:= .bool an) (by rfl) (by rfl) (by rw[<-hanq];exact c_contR w0 _ rv qs (hq2.mono (by repeat (first|exact Sub.refl _|assumption|refine Sub.set_both ?_ _ _|refine Sub.trans_set ?_ (by repeat (first|assumption|refine(AHeap.set_ne _ _ (by first|assumption|exact Ne.symm (by assumption))).trans ?_))))) (fun q hm=>(hq3 q hm).mono (by repeat (first|exact Sub.refl _|assumption|refine Sub.set_both ?_ _ _|refine Sub.trans_set ?_ (by repeat (first|assumption|refine(AHeap.set_ne _ _ (by first|assumption|exact Ne.symm (by assumption))).trans ?_))))) (by omega)) ?_;simp+decide only[qa,putD,Slots.put,Slots.keep,if_true,if_false];apply hK;clear hK K;refine qK (b:=_) rfl (fun hb1=>?_) (fun hb1=>?_)
 ·skip
  refine awp_rseq [4,5] (by rfl) fun K hK=>?_;simp+decide only[qa,ev,qJ,qG,putD,Slots.put,Slots.keep,if_true,if_false,true_and,↓qd,qb];apply hK;clear hK K;refine qN ?_;try simp only[Qf]
  refine qY h (by repeat (first|exact Sub.refl _|assumption|refine Sub.set_both ?_ _ _|refine Sub.trans_set ?_ (by repeat (first|assumption|refine(AHeap.set_ne _ _ (by first|assumption|exact Ne.symm (by assumption))).trans ?_)))) (Qb (Qb (Qe))) ?_;simp+decide only[Slots.get,if_true,if_false,Wd];rw[hR,if_pos hb1];exact⟨.nilSlice,rfl,OutR.nil h⟩
 ·skip
  rw[if_neg (by rw[hb1];decide)]at hR;have hrs:∀x∈rs,x.old≠[]:=fun x hx e=>by
   rw[hb1]at han;have:=han.symm;rw[List.any_eq_false]at this;exact this x hx (by simp[e])
  refine qW ?_;change Awp _ _ _ _ _ _ _;refine awp_rseq [1,2,6] (by rfl) fun K hK=>?_;simp+decide only[qa,ev,qJ,qG,putD,Slots.put,Slots.keep,if_true,if_false,true_and,↓qd,qb];apply hK;clear hK K;refine qO ?_;refine awp_rseq [1,2,6,7] (by rfl) fun K hK=>?_;refine Qg ze3 (cs:=[.int .i64 0]) (by rfl) fun k4q0 hk4q0=>?_;have ne_4q0_0q0:k4q0≠k0q0:=by simp only[AHeap.set_none]at hk4q0;simp only[hk4q0,ne_eq,not_false_eq_true]
  try have hf_4q0:h k4q0=none:=by first|assumption|(simp only[AHeap.set_none]at hk4q0;simp only[hk4q0])
  refine qo (by rfl) (by rfl) (by repeat (first|exact AHeap.set_same _ _ _|assumption|refine(AHeap.set_ne _ _ (by first|assumption|exact Ne.symm (by assumption))).trans ?_)) sz3 (by rfl) (by rfl) (by first|exact Nat.le_refl _|decide|(simp;done)|(simp;omega)) (Nat.zero_le _) (by rfl) ?_;simp only[AHeap.set_set,AVal.cells];simp+decide only[qa,ev,qJ,qG,putD,Slots.put,Slots.keep,if_true,if_false,setAt,List.set_cons_zero];apply hK;clear hK K;refine Qv ?_;refine XE [1,2,6,7] (fun s:RpG=>[(1,rv),(2, .ptr (.own k0q0) 0),(6,QO 5 s.tb),(7, .ptr (.own s.ka) 0)]) (fun s:RpG=>QS ((h.set k0q0 ⟨[lv],0⟩).set s.ka ⟨[.int .i64 s.at_],0⟩) s.tb) (fun s:RpG=>RpOk h k0q0 lv l rs s/\s.out.length<=65536) (fun s:RpG=>l.length-s.at_) ⟨0,k4q0,none,[]⟩ (by rfl) (Sub.refl _) ⟨⟨Nat.zero_le _,⟨hf_4q0,ne_4q0_0q0⟩,trivial,rfl,rfl⟩,Nat.zero_le _⟩ ?_;rintro⟨at_,ka,tb,out⟩ ⟨⟨g1,⟨g2,ne_a_0q0⟩,g4,g5,g6⟩,g7⟩;simp only at g1 g2 ne_a_0q0 g4 g5 g6 g7|-
  obtain⟨G,hG⟩:∃G,G=(h.set k0q0 ⟨[lv],0⟩).set ka ⟨[.int .i64 at_],0⟩:=⟨_,rfl⟩
  rw[<-hG]at g4|-
  have hsG:Sub h G:=by rw[hG];exact Sub.trans_set (Sub.set hf_0q0) g2
  have gb_0:G k0q0=some ⟨[lv],0⟩:=by rw[hG];exact(AHeap.set_ne _ _ ne_a_0q0.symm).trans (AHeap.set_same _ _ _)
  have gb_a:G ka=some ⟨[.int .i64 at_],0⟩:=by rw[hG];exact AHeap.set_same _ _ _
  obtain⟨H1,hH1⟩:∃H1,H1=QS G tb:=⟨_,rfl⟩
  have hs_H1:Sub h H1:=by rw[hH1];exact hsG.trans (Sub.buf g4)
  have eb_0q0:H1 k0q0=some ⟨[lv],0⟩:=by rw[hH1];exact ZL g4 gb_0
  have eb_a:H1 ka=some ⟨[.int .i64 at_],0⟩:=by rw[hH1];exact ZL g4 gb_a
  have hbl:=Xj 5 tb;rw[<-hH1];refine qO ?_;refine awp_rseq [1,2,6,7,14] (by rfl) fun K hK=>?_;simp+decide only[qa,ev,putD,Slots.put,Slots.get,Slots.keep,if_true,if_false,true_and,↓qF,Qa,qw ag3,qw UF,↓Xz,QK,↓qB,qm,qV,cond_false,qz,XZ,Qr w0 eb_0q0,Qr w0 eb_a,List.getD_cons_zero,qh,hll,nl];apply hK;clear hK K;refine qK (b:=_) rfl (fun hb2=>?_) (fun hb2=>?_)
  ·try simp only[decide_eq_true_eq]at hb2
   have hat:at_<l.length:=by omega
   have hst:=repE_step hrs hat;refine qW ?_;change Awp _ _ _ _ _ _ _;refine qO ?_;refine Qv ?_;refine awp_rseq [1,2,6,7,8] (by rfl) fun K hK=>?_;simp+decide only[ev,putD,Slots.put,Slots.get,if_true,if_false,true_and,↓qj,qf,↓ap_makeFunc,qcG,evs,List.map_cons,List.map_nil];refine qM (V:= .int .i64 (qaF (fun q=>Wn (l.drop at_) q.1.old) qs)) (by rfl) (by rfl) (c_indexR w0 _ rv qs _ [.ptr (.own k0q0) 0, .ptr (.own ka) 0] (fun q=>Wn (l.drop at_) q.1.old) (hq2.mono (by repeat (first|exact Sub.refl _|assumption|refine Sub.set_both ?_ _ _|refine Sub.trans_set ?_ (by repeat (first|assumption|refine(AHeap.set_ne _ _ (by first|assumption|exact Ne.symm (by assumption))).trans ?_))))) (fun q hm=>⟨(hq3 q hm).lives.1,(hq3 q hm).lives.2.1⟩) (by omega) (by rfl) (fun q hm=>c_rep2 w0 _ q ((hq3 q hm).mono (by repeat (first|exact Sub.refl _|assumption|refine Sub.set_both ?_ _ _|refine Sub.trans_set ?_ (by repeat (first|assumption|refine(AHeap.set_ne _ _ (by first|assumption|exact Ne.symm (by assumption))).trans ?_))))) k0q0 ka lv l at_ (by repeat (first|exact AHeap.set_same _ _ _|assumption|refine(AHeap.set_ne _ _ (by first|assumption|exact Ne.symm (by assumption))).trans ?_)) (by repeat (first|exact AHeap.set_same _ _ _|assumption|refine(AHeap.set_ne _ _ (by first|assumption|exact Ne.symm (by assumption))).trans ?_)) (hlv.mono (by repeat (first|exact Sub.refl _|assumption|refine Sub.set_both ?_ _ _|refine Sub.trans_set ?_ (by repeat (first|assumption|refine(AHeap.set_ne _ _ (by first|assumption|exact Ne.symm (by assumption))).trans ?_))))) (by omega) g1)) ?_;simp+decide only[qa,ev,putD,Slots.put,Slots.get,Slots.keep,if_true,if_false,true_and,↓qd,qb];apply hK;clear hK K;refine qO ?_;refine awp_rseq [1,2,6,7,8,19] (by rfl) fun K hK=>?_;simp+decide only[qa,ev,qJ,qG,putD,Slots.put,Slots.get,Slots.keep,if_true,if_false,true_and,↓qj,qf,↓qB,qm,qD,cond_false,qz,XZ];apply hK;clear hK K;refine Ui [1,2,6,7] (fun s:RpG=>[(1,rv),(2, .ptr (.own k0q0) 0),(6,QO 5 s.tb),(7, .ptr (.own s.ka) 0)]) (fun s:RpG=>QS ((h.set k0q0 ⟨[lv],0⟩).set s.ka ⟨[.int .i64 s.at_],0⟩) s.tb) (fun s:RpG=>RpOk h k0q0 lv l rs s/\s.out.length<=2000000/\at_<s.at_) ?_ ?_
   ·refine qK (b:=_) rfl (fun hb3=>?_) (fun hb3=>?_)
    ·try simp only[decide_eq_true_eq]at hb3
     have hnone:rs.find? (fun x=>Wn (l.drop at_) x.old)=none:=by
      rcases find_idx (r:=rs) (p:=fun x=>Wn (l.drop at_) x.old)with z|⟨i,x,z1,z2,z3,z4⟩
      ·exact z.2
      ·exfalso
       have e:qaF (fun q:RepQ=>Wn (l.drop at_) q.1.old) qs=i:=by
        rw[<-idxI_map (fun q:RepQ=>q.1) (fun x:RepC=>Wn (l.drop at_) x.old) qs,<-hqs];unfold qaF;rw[z1]
       omega
     rw[hnone]at hst;obtain⟨lc,o,c,rfl⟩:=UI hlv (by omega);obtain⟨t,ht⟩:∃t,t=l.getD at_ Uh:=⟨_,rfl⟩
     rw[show l.getD at_ noT=t from ht.symm]at hst;obtain⟨e0,e1,e2,e3,e4⟩:=qbd (hlv.mono hs_H1) hat;rw[<-ht]at e0 e1 e2 e3 e4;have e2':rd w0 H1 lc (o+at_*5+1+1)= .int .i64 t.line:=e2;have e3':rd w0 H1 lc (o+at_*5+1+1+1)= .int .i64 t.col:=e3;have e4':rd w0 H1 lc (o+at_*5+1+1+1+1)= .bool t.left:=e4;refine awp_rseq [1,2,6,7] (by rfl) fun K hK=>?_;simp+decide only[ev,putD,Slots.put,Slots.get,if_true,if_false,true_and,↓qj,qf,↓qF,Qa,qw UF,qw ag3,↓Xg,Qk Tryz.underlying26 Xk,qg Zw Xk,Qr w0 eb_0q0,Qr w0 eb_a,qc,List.getD_cons_zero,qC,qh,qE,allLive,Bool.and_true,hll,e0,e1,e2',e3',e4',Int.toNat_natCast];repeat (with_reducible refine And.intro ?_ ?_;· first|trivial|omega|(intro hg;simp only[Bool.and_eq_true,Bool.or_eq_true,Bool.not_eq_true',Bool.and_eq_false_iff,Bool.or_eq_false_iff,Bool.not_eq_false',decide_eq_true_eq,decide_eq_false_iff_not,Zd]at hg;omega))
     refine QD (cs:=Xw t) (by kernel_rfl) fun k8q5 hk8q5=>?_;have hn_8q5:H1 k8q5=none:=by first|assumption|(simp only[AHeap.set_none]at hk8q5;simp only[hk8q5])
     have hf_8q5:h k8q5=none:=Sub.none hs_H1 hn_8q5;have ne_8q5_0q0:k8q5≠k0q0:=AHeap.ne_some hn_8q5 eb_0q0;have ne_8q5_a:k8q5≠ka:=AHeap.ne_some hn_8q5 eb_a;refine XY (es:=5) (zs:=out.map Xw) (xs:=[Xw t]) (hZ:=G) (b:=tb) (by rfl) (by rfl) Tryz.underlying26 Tryz.underlying26 (fun k e=>by cases e) Xk by54 qbV (by rfl) (by decide) (by rfl) g4 g5 Ym (by rw[<-hH1];exact(by repeat (first|exact Sub.refl _|assumption|refine Sub.set_both ?_ _ _|refine Sub.trans_set ?_ (by repeat (first|assumption|refine(AHeap.set_ne _ _ (by first|assumption|exact Ne.symm (by assumption))).trans ?_))))) (by rfl) (IsL.own (AHeap.set_same _ _ _) (by simp[Xw]) (by rfl) (by rfl) (.exact 1) (Nat.le_refl _)) (by rfl) (by simp;omega) (by simp;omega) fun tb2 h8 o1 o2 o3=>?_;have eb8:=o3 _ _ (ZL o1 gb_a);simp+decide only[qa,ev,putD,Slots.put,Slots.get,Slots.keep,if_true,if_false,true_and,↓qd,qb];apply hK;clear hK K;refine XI [1,2,6,7] (by rfl) ?_;simp+decide only[ev,qJ,qG,putD,Slots.put,Slots.get,if_true,if_false,true_and,↓qF,Qa,qw ag3,↓qB,qm,qD,cond_false,qz,Xa,List.getD_cons_zero,qh,Qr w0 eb8];try simp(disch:=omega)only[wrap_i64]
     refine qo (by rfl) (by rfl) (by repeat (first|exact AHeap.set_same _ _ _|assumption|refine(AHeap.set_ne _ _ (by first|assumption|exact Ne.symm (by assumption))).trans ?_)) sz3 (by rfl) (by rfl) (by first|exact Nat.le_refl _|decide|(simp;done)|(simp;omega)) (Nat.zero_le _) (by rfl) ?_;simp only[AVal.cells];simp+decide only[qa,ev,putD,Slots.get,Slots.keep,if_true,if_false,setAt,List.set_cons_zero];try simp only[Qj]
     first
     |exact⟨⟨at_+1,ka,tb2,out++[t]⟩,rfl,by(rw[show(h.set k0q0 ⟨[.slice lc o l.length c],0⟩).set ka ⟨[.int .i64 ((at_+1:Nat):Int)],0⟩=G.set ka ⟨[.int .i64 ((at_+1:Nat):Int)],0⟩ by rw[hG,AHeap.set_set],<-YS o1 gb_a];exact Sub.set_both o3 _ _),⟨hat,⟨g2,ne_a_0q0⟩,by(rw[show(h.set k0q0 ⟨[.slice lc o l.length c],0⟩).set ka ⟨[.int .i64 ((at_+1:Nat):Int)],0⟩=G.set ka ⟨[.int .i64 ((at_+1:Nat):Int)],0⟩ by rw[hG,AHeap.set_set]];exact ZG o1 gb_a _),by rw[o2,List.map_append];rfl,by rw[<-g6,hst,List.append_assoc];rfl⟩,by(simp only[List.length_append,List.length_cons,List.length_nil];omega),by(simp only;omega)⟩
     |exact⟨⟨at_+x.old.length,ka,tb2,out++x.new⟩,rfl,by(rw[show(h.set k0q0 ⟨[lv],0⟩).set ka ⟨[.int .i64 ((at_+x.old.length:Nat):Int)],0⟩=G.set ka ⟨[.int .i64 ((at_+x.old.length:Nat):Int)],0⟩ by rw[hG,AHeap.set_set],<-YS o1 gb_a];exact Sub.set_both o3 _ _),⟨by(simp only;omega),⟨g2,ne_a_0q0⟩,by(rw[show(h.set k0q0 ⟨[lv],0⟩).set ka ⟨[.int .i64 ((at_+x.old.length:Nat):Int)],0⟩=G.set ka ⟨[.int .i64 ((at_+x.old.length:Nat):Int)],0⟩ by rw[hG,AHeap.set_set]];exact ZG o1 gb_a _),by rw[o2,List.map_append,List.flatten_append],by rw[<-g6,hst,List.append_assoc]⟩,by(simp only[List.length_append];omega),by(simp only;omega)⟩
    ·try simp only[decide_eq_false_iff_not]at hb3
     obtain⟨i,x,z1,z2,z3,z4⟩:∃i x,rs.findIdx? (fun x=>Wn (l.drop at_) x.old)=some i/\rs.find? (fun x=>Wn (l.drop at_) x.old)=some x/\i<rs.length/\rs[i]?=some x:=by
      rcases find_idx (r:=rs) (p:=fun x=>Wn (l.drop at_) x.old)with z|z
      ·exfalso
       have e:qaF (fun q:RepQ=>Wn (l.drop at_) q.1.old) qs= -1:=by
        rw[<-idxI_map (fun q:RepQ=>q.1) (fun x:RepC=>Wn (l.drop at_) x.old) qs,<-hqs];unfold qaF;rw[z.1]
       omega
      ·exact z
     have e:qaF (fun q:RepQ=>Wn (l.drop at_) q.1.old) qs=i:=by
      rw[<-idxI_map (fun q:RepQ=>q.1) (fun x:RepC=>Wn (l.drop at_) x.old) qs,<-hqs];unfold qaF;rw[z1]
     rw[e];rw[z2]at hst;have hiq:i<qs.length:=by omega
     obtain⟨q,hqe⟩:∃q,q=qs.getD i badR:=⟨_,rfl⟩
     have hqm:q∈qs:=by rw[hqe];exact getD_mem badR hiq
     have hq1:q.1=x:=by
      rw[hqs,List.getElem?_map,List.getElem?_eq_getElem hiq]at z4;rw[hqe,List.getD,List.getElem?_eq_getElem hiq];exact Option.some.inj z4
     have hqk:=hq3 q hqm;obtain⟨y1,y2,y3,y4⟩:=hqk.lives;have hxm:x∈rs:=List.mem_of_getElem? z4;have hxn:=hn x hxm;have hfit:=fitsR_len (l:=l.drop at_) (o:=x.old) (by have:=List.find?_some z2;exact this);rw[List.length_drop]at hfit;have hxo:0<x.old.length:=by
      rcases Nat.eq_zero_or_pos x.old.length with w|w
      ·exact absurd (List.eq_nil_of_length_eq_zero w) (hrs x hxm)
      ·exact w
     obtain⟨lcr,orr,cr,rfl⟩:=rep_open hq2 (by omega);obtain⟨-,d1⟩:=rep_at (hq2.mono hs_H1) hiq;rw[<-hqe]at d1;have nold:=Zy hqk.old;rw[hq1]at nold;have hnw:=hqk.new;rw[hq1]at hnw;refine awp_rseq [1,2,6,7,8] (by rfl) fun K hK=>?_;simp+decide only[ev,putD,Slots.put,Slots.get,if_true,if_false,true_and,↓qj,qf,↓Xg,Qa,Qk Tryz.underlying43 sz46,↓qA,ql,fa46_1,↓qF,qw UF,d1,y2,Int.toNat_natCast];repeat (with_reducible refine And.intro ?_ ?_;· first|trivial|omega|(intro hg;simp only[Bool.and_eq_true,Bool.or_eq_true,Bool.not_eq_true',Bool.and_eq_false_iff,Bool.or_eq_false_iff,Bool.not_eq_false',decide_eq_true_eq,decide_eq_false_iff_not,Zd]at hg;omega))
     refine XY (es:=5) (zs:=out.map Xw) (xs:=x.new.map Xw) (hZ:=G) (b:=tb) (by rfl) (by rfl) Tryz.underlying26 Tryz.underlying26 (fun k e=>by cases e) Xk by54 qbV (by rfl) (by decide) (by rfl) g4 g5 Ym (by rw[<-hH1];exact(by repeat (first|exact Sub.refl _|assumption|refine Sub.set_both ?_ _ _|refine Sub.trans_set ?_ (by repeat (first|assumption|refine(AHeap.set_ne _ _ (by first|assumption|exact Ne.symm (by assumption))).trans ?_))))) (by rfl) (hnw.mono (by repeat (first|exact Sub.refl _|assumption|refine Sub.set_both ?_ _ _|refine Sub.trans_set ?_ (by repeat (first|assumption|refine(AHeap.set_ne _ _ (by first|assumption|exact Ne.symm (by assumption))).trans ?_))))) (by rw[Uu];intro z hz;obtain⟨t,_,rfl⟩:=List.mem_map.1 hz;rfl) (by simp;omega) (by simp;omega) fun tb2 h10 o1 o2 o3=>?_;have eb10:=o3 _ _ (ZL o1 gb_a);have hs10:Sub h h10:=(hsG.trans (Sub.buf o1)).trans o3;obtain⟨d0,-⟩:=rep_at (hq2.mono hs10) hiq;rw[<-hqe]at d0;simp+decide only[qa,ev,putD,Slots.put,Slots.get,Slots.keep,if_true,if_false,true_and,↓qd,qb];apply hK;clear hK K;refine qar 8 mixed (by kernel_rfl) (by rfl) (by rfl) ?_;simp+decide only[ev,putD,Slots.put,Slots.get,if_true,if_false,true_and,↓qF,Qa,qw ag3,↓qj,qf,↓Xg,Qk Tryz.underlying43 sz46,↓qA,ql,fa46_0,qw UF,↓Xz,QK,↓qB,qm,qV,cond_false,qz,Xa,List.getD_cons_zero,qh,Qr w0 eb10,d0,y1,nold,Int.toNat_natCast,Nat.add_zero];try simp(disch:=omega)only[wrap_i64]
     repeat (with_reducible refine And.intro ?_ ?_;· first|trivial|omega|(intro hg;simp only[Bool.and_eq_true,Bool.or_eq_true,Bool.not_eq_true',Bool.and_eq_false_iff,Bool.or_eq_false_iff,Bool.not_eq_false',decide_eq_true_eq,decide_eq_false_iff_not,Zd]at hg;omega))
     refine qo (by rfl) (by rfl) (by repeat (first|exact AHeap.set_same _ _ _|assumption|refine(AHeap.set_ne _ _ (by first|assumption|exact Ne.symm (by assumption))).trans ?_)) sz3 (by rfl) (by rfl) (by first|exact Nat.le_refl _|decide|(simp;done)|(simp;omega)) (Nat.zero_le _) (by rfl) ?_;simp only[AVal.cells];simp+decide only[qa,ev,putD,Slots.get,if_true,if_false,setAt,List.set_cons_zero];try simp only[Qj]
     first
     |exact⟨⟨at_+1,ka,tb2,out++[t]⟩,rfl,by(rw[show(h.set k0q0 ⟨[.slice lc o l.length c],0⟩).set ka ⟨[.int .i64 ((at_+1:Nat):Int)],0⟩=G.set ka ⟨[.int .i64 ((at_+1:Nat):Int)],0⟩ by rw[hG,AHeap.set_set],<-YS o1 gb_a];exact Sub.set_both o3 _ _),⟨hat,⟨g2,ne_a_0q0⟩,by(rw[show(h.set k0q0 ⟨[.slice lc o l.length c],0⟩).set ka ⟨[.int .i64 ((at_+1:Nat):Int)],0⟩=G.set ka ⟨[.int .i64 ((at_+1:Nat):Int)],0⟩ by rw[hG,AHeap.set_set]];exact ZG o1 gb_a _),by rw[o2,List.map_append];rfl,by rw[<-g6,hst,List.append_assoc];rfl⟩,by(simp only[List.length_append,List.length_cons,List.length_nil];omega),by(simp only;omega)⟩
     |exact⟨⟨at_+x.old.length,ka,tb2,out++x.new⟩,rfl,by(rw[show(h.set k0q0 ⟨[lv],0⟩).set ka ⟨[.int .i64 ((at_+x.old.length:Nat):Int)],0⟩=G.set ka ⟨[.int .i64 ((at_+x.old.length:Nat):Int)],0⟩ by rw[hG,AHeap.set_set],<-YS o1 gb_a];exact Sub.set_both o3 _ _),⟨by(simp only;omega),⟨g2,ne_a_0q0⟩,by(rw[show(h.set k0q0 ⟨[lv],0⟩).set ka ⟨[.int .i64 ((at_+x.old.length:Nat):Int)],0⟩=G.set ka ⟨[.int .i64 ((at_+x.old.length:Nat):Int)],0⟩ by rw[hG,AHeap.set_set]];exact ZG o1 gb_a _),by rw[o2,List.map_append,List.flatten_append],by rw[<-g6,hst,List.append_assoc]⟩,by(simp only[List.length_append];omega),by(simp only;omega)⟩
   ·rintro⟨at2,ka2,tb2,out2⟩ ⟨⟨f1,⟨f2,ne_a2_0q0⟩,f4,f5,f6⟩,f7,f8⟩
    simp only at f1 f2 ne_a2_0q0 f4 f5 f6 f7 f8|-
    obtain⟨G2,hG2⟩:∃G2,G2=(h.set k0q0 ⟨[lv],0⟩).set ka2 ⟨[.int .i64 at2],0⟩:=⟨_,rfl⟩
    rw[<-hG2]at f4|-
    have hsG2:Sub h G2:=by rw[hG2];exact Sub.trans_set (Sub.set hf_0q0) f2
    have gb_0:G2 k0q0=some ⟨[lv],0⟩:=by rw[hG2];exact(AHeap.set_ne _ _ ne_a2_0q0.symm).trans (AHeap.set_same _ _ _)
    have gb_a2:G2 ka2=some ⟨[.int .i64 at2],0⟩:=by rw[hG2];exact AHeap.set_same _ _ _
    obtain⟨H2,hH2⟩:∃H2,H2=QS G2 tb2:=⟨_,rfl⟩
    have hs_H2:Sub h H2:=by rw[hH2];exact hsG2.trans (Sub.buf f4)
    have eb_0q0:H2 k0q0=some ⟨[lv],0⟩:=by rw[hH2];exact ZL f4 gb_0
    have eb_a2:H2 ka2=some ⟨[.int .i64 at2],0⟩:=by rw[hH2];exact ZL f4 gb_a2
    have hbl2:=Xj 5 tb2;have nb2:=Zy (IsL.buf (w0:=w0) f4 (by decide) f5 Ym (Sub.refl _));rw[<-hH2];skip;refine awp_rseq [1,2,6,7,46] (by rfl) fun K hK=>?_;simp+decide only[qa,ev,qJ,qG,putD,Slots.put,Slots.get,Slots.keep,if_true,if_false,true_and,↓qj,qf,↓Xz,QK,↓qB,qm,qD,cond_false,qz,UO,nb2];apply hK;clear hK K;refine qK (b:=_) rfl (fun hb4=>?_) (fun hb4=>?_)
    ·try simp only[decide_eq_true_eq]at hb4
     refine awp_rseq [4,5] (by rfl) fun K hK=>?_;simp+decide only[qa,ev,qJ,qG,putD,Slots.put,Slots.keep,if_true,if_false,true_and,↓qd,qb];apply hK;clear hK K;refine qN ?_;try simp only[Qf,Qp]
     refine qY h (by repeat (first|exact Sub.refl _|assumption|refine Sub.set_both ?_ _ _|refine Sub.trans_set ?_ (by repeat (first|assumption|refine(AHeap.set_ne _ _ (by first|assumption|exact Ne.symm (by assumption))).trans ?_)))) (Qb (Qb (Qe))) ?_;simp+decide only[Slots.get,if_true,if_false,Wd];have hlen:65536<(qbN rs l).length:=by
      rw[<-f6,List.length_append];omega
     rw[hR,if_pos hlen];exact⟨.nilSlice,rfl,OutR.nil h⟩
    ·try simp only[decide_eq_false_iff_not]at hb4
     refine qW ?_;change Awp _ _ _ _ _ _ _;refine awp_rseq [1,2,6,47] (by rfl) fun K hK=>?_;simp+decide only[qa,ev,putD,Slots.put,Slots.get,Slots.keep,if_true,if_false,true_and,↓qF,Qa,qw ag3,Qr w0 eb_a2,List.getD_cons_zero,qh];apply hK;clear hK K;refine XI [1,2,6,7] (by rfl) ?_;refine Qg ze3 (cs:=[.int .i64 0]) (by rfl) fun k15q0 hk15q0=>?_;have hn_15q0:H2 k15q0=none:=by first|assumption|(simp only[AHeap.set_none]at hk15q0;simp only[hk15q0])
     have hf_15q0:h k15q0=none:=Sub.none hs_H2 hn_15q0;have ne_15q0_0q0:k15q0≠k0q0:=AHeap.ne_some hn_15q0 eb_0q0;have ne_15q0_a2:k15q0≠ka2:=AHeap.ne_some hn_15q0 eb_a2;refine qo (by rfl) (by rfl) (by repeat (first|exact AHeap.set_same _ _ _|assumption|refine(AHeap.set_ne _ _ (by first|assumption|exact Ne.symm (by assumption))).trans ?_)) sz3 (by rfl) (by rfl) (by first|exact Nat.le_refl _|decide|(simp;done)|(simp;omega)) (Nat.zero_le _) (by rfl) ?_;simp only[AHeap.set_set,AVal.cells];simp+decide only[qa,ev,putD,Slots.put,Slots.get,Slots.keep,if_true,if_false,setAt,List.set_cons_zero];try simp only[Qj]
     have hnew:=bufNew (b:=tb2) (H:=G2) (j:=k15q0) (by rw[<-hH2];exact hn_15q0) ⟨[.int .i64 at2],0⟩;exact⟨⟨at2,k15q0,tb2,out2⟩,rfl,by(rw[hH2,hnew.1,hG2];exact Sub.bufBoth (Sub.set_both (Sub.set ((AHeap.set_ne _ _ ne_a2_0q0).trans f2)) _ _)),⟨⟨f1,⟨hf_15q0,ne_15q0_0q0⟩,(bufOk_new f4 (by rw[<-hH2];exact hn_15q0) ⟨[.int .i64 at2],0⟩).sub (by rw[hG2];exact Sub.set_both (Sub.set ((AHeap.set_ne _ _ ne_a2_0q0).trans f2)) _ _),f5,f6⟩,by simp only;omega⟩,by simp only;omega⟩
  ·try simp only[decide_eq_false_iff_not]at hb2
   have hae:at_=l.length:=by omega
   rw[hae,List.drop_length,repE_nil,List.append_nil]at g6;have hlb:IsL w0 H1 5 (QO 5 tb) (out.map Xw):=by rw[hH1];exact IsL.buf g4 (by decide) g5 Ym (Sub.refl _)
   refine XJ ?_;change Awp _ _ _ _ _ _ _;refine awp_rseq [4,5] (by rfl) fun K hK=>?_;simp+decide only[ev,putD,Slots.put,Slots.get,if_true,if_false,true_and,↓qj,qf];refine qM (V:=ZJ (QO 5 tb)) (by rfl) (by rfl) (c_clipT w0 _ _ (out.map Xw) hlb) ?_;simp+decide only[qa,ev,qJ,qG,putD,Slots.put,Slots.get,Slots.keep,if_true,if_false,true_and,↓qd,qb];apply hK;clear hK K;refine qN ?_;refine QM (Qb (Qb (Qe))) ?_;simp+decide only[Slots.get,if_true,if_false,Wd];rw[hR,if_neg (by rw[<-g6];omega)];exact⟨QS h tb,by rw[hH1];exact Sub.bufBoth hsG,ZJ (QO 5 tb),rfl,tb,rfl,g4.sub hsG,by rw[g5,g6],rfl⟩
end Go.Proofs.YtlhhaagmakhilaaGreatDoor
namespace Go.Proofs.YtlhhaagmakhilaaGreatDoor
open Go.AM
open Go.Proofs
open Go.Col
open Go.Tok
open Go.Cop
open Go.RowKit (Below)
set_option maxRecDepth 100000
theorem ACall.down{P:Program}{w0:World}{f:FuncId}{args:List AVal}{h H:AHeap}{R:AVal->AHeap->Prop}(hs:Sub H h)(hc:ACall P w0 f args H R):ACall P w0 f args h R:=fun fi vals w hr hv=>hc fi vals w (hr.forget hs) hv
def qci(s:Str):List AVal:=[.str s]
theorem namC_wide{l:List Str}:∀x∈l.map qci,x.length=1:=fun x hx=>by obtain⟨y,_,rfl⟩:=List.mem_map.1 hx;rfl
def UH(G:AHeap)(kx:Nat)(mv mo:AVal)(nb:Option Buf)(cp:Int):AHeap:=QS (G.set kx ⟨[mv,mo,QO 1 nb, .int .i64 cp],0⟩) nb
structure UseOk(G:AHeap)(kx:Nat)(nb:Option Buf)(ns:List Str):Prop where
 bx:G kx=none
 ok:∀X,bufOk (G.set kx X) 1 nb
 eq:Uf nb=(ns.map qci).flatten
section
variable {G:AHeap} {kx:Nat} {mv mo:AVal} {nb:Option Buf} {cp:Int} {ns:List Str}
theorem UseOk.at(hu:UseOk G kx nb ns):UH G kx mv mo nb cp kx=some ⟨[mv,mo,QO 1 nb, .int .i64 cp],0⟩:=ZL (hu.ok _) (AHeap.set_same _ _ _)
theorem UseOk.above(hu:UseOk G kx nb ns):Sub G (UH G kx mv mo nb cp):=(Sub.set hu.bx).trans (Sub.buf (hu.ok _))
theorem UseOk.set(hu:UseOk G kx nb ns)(X:Blk):(UH G kx mv mo nb cp).set kx X=QS (G.set kx X) nb:=by
 unfold UH;rw[YS (hu.ok _) (AHeap.set_same _ _ _),AHeap.set_set]
theorem UseOk.down(hu:UseOk G kx nb ns){G':AHeap}(hs:Sub G' G):UseOk G' kx nb ns:=⟨hs.none hu.bx,fun X=>(hu.ok X).sub (Sub.set_both hs _ _),hu.eq⟩
theorem UseOk.names(w0:World)(hu:UseOk G kx nb ns):IsL w0 (UH G kx mv mo nb cp) 1 (QO 1 nb) (ns.map qci):=IsL.buf (hu.ok _) (by decide) hu.eq namC_wide (Sub.refl _)
theorem UseOk.lay(hu:UseOk G kx nb ns){j:Nat}(hj:UH G kx mv mo nb cp j=none)(c:Blk):(UH G kx mv mo nb cp).set j c=UH (G.set j c) kx mv mo nb cp/\UseOk (G.set j c) kx nb ns/\G j=none/\j≠kx:=by
 have hne:j≠kx:=fun e=>by rw[e,hu.at]at hj;cases hj
 have hn:=bufNew hj c;have hg:G j=none:=by
  have:=hn.2
  rwa [AHeap.set_ne _ _ hne]at this
 refine⟨?_,⟨(AHeap.set_ne _ _ hne.symm).trans hu.bx,fun X=>?_,hu.eq⟩,hg,hne⟩
 ·unfold UH
  rw[hn.1,AHeap.set_comm _ _ _ hne]
 ·have h1:=hu.ok X
  have h2:QS (G.set kx X) nb j=none:=by
   cases nb with
   |none=>exact(AHeap.set_ne _ _ hne).trans hg
   |some b=>
    have hnb:j≠b.blk:=fun e=>by
     rw[e]at hj;rw[show UH G kx mv mo (some b) cp=(G.set kx ⟨[mv,mo,QO 1 (some b), .int .i64 cp],0⟩).set b.blk ⟨b.cells,0⟩from rfl,AHeap.set_same]at hj;cases hj
    exact(AHeap.set_ne _ _ hnb).trans ((AHeap.set_ne _ _ hne).trans hg)
  have h3:=bufOk_new h1 h2 c
  rwa [AHeap.set_comm _ _ _ hne]at h3
end
set_option maxHeartbeats 1000000 in
theorem c_use(w0:World)(G:AHeap)(kx:Nat)(mv mo:AVal)(nb:Option Buf)(cp:Int)(ns:List Str)(s:Str)(hu:UseOk G kx nb ns)(hn:ns.length<=1000000)(hmv:mv.scal=true)(hmo:mo.scal=true):
 ACall Tryz.prog w0 44 [.ptr (.own kx) 0, .str s] (UH G kx mv mo nb cp) (fun r h'=>r= .tuple []/\∃nb',UseOk G kx nb' (Cop.addE ns s)/\h'=UH G kx mv mo nb' cp):=by
 obtain⟨H,hH⟩:∃H,H=UH G kx mv mo nb cp:=⟨_,rfl⟩
 have hs_H:Sub G H:=by rw[hH];exact hu.above
 have eb_x:H kx=some ⟨[mv,mo,QO 1 nb, .int .i64 cp],0⟩:=by rw[hH];exact hu.at
 have hbl:=Xj 1 nb;have hst:IsStrs w0 H (QO 1 nb) ns:=by rw[hH];exact hu.names w0
 have hml:=ZW hmv;have hol:=ZW hmo;rw[<-hH];refine qR (n:=21) (rs:=[]) Tryz.func44 rfl rfl rfl rfl (Nat.le_of_ble_eq_true rfl) ?_;simp only[Qd];refine awp_rseq [0,1,10] (by rfl) fun K hK=>?_;simp+decide only[ev,putD,Slots.put,Slots.get,if_true,if_false,true_and,↓qj,qf,↓Qi,qL,Ql,↓qA,ql,fa76_2,↓qF,Qa,qw ag30,Qr w0 eb_x,List.getD_cons_zero,List.getD_cons_succ,Nat.zero_add,hbl];refine qM (V:= .bool (ns.contains s)) (by rfl) (by rfl) (c_contains w0 _ (QO 1 nb) ns s hst (by omega)) ?_;simp+decide only[qa,ev,putD,Slots.put,Slots.get,Slots.keep,if_true,if_false,true_and,↓ZY,XG,ZN];apply hK;clear hK K;refine qK (b:=_) rfl (fun hb1=>?_) (fun hb1=>?_)
 ·try simp only[Bool.not_eq_true']at hb1
  have hc:ns.contains s=false:=by simpa using hb1
  refine XI [] (by rfl) ?_;simp+decide only[ev,putD,Slots.put,Slots.get,if_true,if_false,true_and,↓qj,qf,↓Qi,qL,Ql,↓qA,ql,fa76_2,↓qF,Qa,qw ag30,Qr w0 eb_x,List.getD_cons_zero,List.getD_cons_succ,Nat.zero_add,hbl];refine QD (cs:=[.str s]) (by kernel_rfl) fun k1q6 hk1q6=>?_;have hn_1q6:H k1q6=none:=by first|assumption|(simp only[AHeap.set_none]at hk1q6;simp only[hk1q6])
  have hf_1q6:G k1q6=none:=Sub.none hs_H hn_1q6;have ne_1q6_x:k1q6≠kx:=AHeap.ne_some hn_1q6 eb_x;refine XY (es:=1) (zs:=ns.map qci) (xs:=[qci s]) (hZ:=G.set kx ⟨[mv,mo,QO 1 nb, .int .i64 cp],0⟩) (b:=nb) (by rfl) (by rfl) Tryz.underlying30 Tryz.underlying30 (fun k e=>by cases e) sz9 by9 ze9 (by rfl) (by decide) (by rfl) (hu.ok _) hu.eq namC_wide (by rw[show QS (G.set kx ⟨[mv,mo,QO 1 nb, .int .i64 cp],0⟩) nb=H from hH.symm];exact Sub.set hn_1q6) (by rfl) (IsL.own (AHeap.set_same _ _ _) (by simp[qci]) (by rfl) (by rfl) (.exact 1) (Nat.le_refl _)) (by rfl) (by simp;omega) (by simp;omega) fun nb2 h1 o1 o2 o3=>?_;have eb1:=o3 _ _ (ZL o1 (AHeap.set_same _ _ _));simp+decide only[ev,putD,Slots.put,Slots.get,if_true,if_false,true_and,↓Qi,qL,Ql,↓qA,ql,fa76_2,Nat.zero_add];refine qo (v:=QO 1 nb2) (by rfl) (by rfl) eb1 sz30 (Xj _ _) (by rw[qaj];rfl) (by simp) (Nat.zero_le _) (by rw[qaj];simp[Qz,Ue]) ?_;simp only[setAt,qaj,List.set_cons_zero,List.set_cons_succ];simp+decide only[qa,putD,Slots.keep,if_false];refine retA_endE (Qe) ?_;simp+decide only[true_and,resOf_nil];have ha:Cop.addE ns s=ns++[s]:=by unfold Cop.addE;rw[if_neg (by rw[hc];decide)]
  refine⟨UH G kx mv mo nb2 cp,?_,nb2,⟨hu.bx,fun X=>?_,?_⟩,rfl⟩
  ·unfold UH
   rw[<-AHeap.set_set G kx ⟨[mv,mo,QO 1 nb, .int .i64 cp],0⟩,<-YS o1 (AHeap.set_same _ _ _)];exact Sub.set_both o3 _ _
  ·have:=ZG o1 (AHeap.set_same _ _ _) X
   rwa [AHeap.set_set]at this
  ·rw[o2,ha,List.map_append]
   rfl
 ·try simp only[Bool.not_eq_false']at hb1
  have hc:ns.contains s=true:=by simpa using hb1
  refine qW ?_;refine retA_endE (Qe) ?_;simp+decide only[true_and,resOf_nil];have ha:Cop.addE ns s=ns:=by unfold Cop.addE;rw[if_pos hc]
  exact⟨H,Sub.refl _,nb,by rw[ha];exact hu,hH⟩
end Go.Proofs.YtlhhaagmakhilaaGreatDoor
namespace Go.Proofs.YtlhhaagmakhilaaGreatDoor
open Go.AM
open Go.Proofs
open Go.Col (Str FaultC okF)
open Go.Tok
open Go.Cop
open Go.RowKit (Below)
set_option maxRecDepth 100000
theorem cutT_len(l:List TokC)(i j:Nat):(qbU l i j).length<=l.length:=by
 unfold qbU;rw[List.length_take,List.length_drop];omega
theorem pair_new(l:List TokC)(i:Nat):(YA l i).rep.new.length<=l.length:=by
 unfold YA;simp only;split
 ·exact Nat.zero_le _
 ·split
  ·exact Nat.zero_le _
  ·exact cutT_len _ _ _
theorem pairs_new(l:List TokC):∀(f i:Nat) (first:Bool) (acc:List RepC),(∀x∈acc,x.new.length<=l.length)->(∀x∈(Yz l f i first acc).reps,x.new.length<=l.length)/\(Yz l f i first acc).reps.length<=acc.length+f
 |0,i,first,acc,h=>⟨h,Nat.le_refl _⟩
 |f+1,i,first,acc,h=>by
  rw[Yz];split
  ·simp only
   split
   ·exact⟨(fun x hx=>by cases hx),Nat.zero_le _⟩
   ·have:=pairs_new l f (YA l i).at_ false (acc++[(YA l i).rep]) fun x hx=>by
     rcases List.mem_append.1 hx with z|z
     ·exact h x z
     ·rw[List.mem_singleton.1 z];exact pair_new l i
    refine⟨this.1,?_⟩;have h2:=this.2;rw[List.length_append,List.length_singleton]at h2;omega
  ·exact⟨h,Nat.le_add_right _ _⟩
theorem behind_reps(l:List TokC)(t:TokC)(p:Pairs):(Ut l t p).reps=[]\/(Ut l t p).reps=p.reps:=by
 unfold Ut;split
 ·exact .inl rfl
 ·split
  ·exact .inl rfl
  ·exact .inr rfl
theorem statement_reps(l:List TokC)(i:Nat):(∀x∈(QT l i).reps,x.new.length<=l.length)/\(QT l i).reps.length<=l.length+2:=by
 unfold QT;split
 ·exact⟨(fun x hx=>by cases hx),Nat.zero_le _⟩
 ·rcases behind_reps l (l.getD i noT) (if ZZ l (i+1) Uj=true then Yz l (l.length+2) (i+2) true []else⟨true,[],i+1⟩)with e|e
  ·rw[e]
   exact⟨(fun x hx=>by cases hx),Nat.zero_le _⟩
  ·rw[e]
   split
   ·have:=pairs_new l (l.length+2) (i+2) true [] (fun x hx=>by cases hx)
    refine⟨this.1,?_⟩;have h2:=this.2;rw[List.length_nil]at h2;omega
   ·exact⟨(fun x hx=>by cases hx),Nat.zero_le _⟩
def opC(e:Nat×Str):AVal:= .mapE e.1 (.str e.2) (.bool true)
def ZA(B:AHeap)(kx km:Nat)(mv:AVal)(c:Nat)(es:List (Nat×Str))(nb:Option Buf)(cp:Nat):AHeap:=UH (B.set km (Xv c (es.map opC))) kx mv (.map km) nb cp
structure ExOk(B:AHeap)(kx km:Nat)(nb:Option Buf)(ns:List Str):Prop where
 bm:B km=none
 bx:B kx=none
 ne:km≠kx
 use:∀M,UseOk (B.set km M) kx nb ns
section
variable {B:AHeap} {kx km:Nat} {mv:AVal} {c:Nat} {es:List (Nat×Str)} {nb:Option Buf} {cp:Nat} {ns:List Str}
theorem ExOk.x(he:ExOk B kx km nb ns):ZA B kx km mv c es nb cp kx=some ⟨[mv, .map km,QO 1 nb, .int .i64 cp],0⟩:=(he.use _).at
theorem ExOk.m(he:ExOk B kx km nb ns):ZA B kx km mv c es nb cp km=some (Xv c (es.map opC)):=(he.use _).above _ _ (AHeap.set_same _ _ _)
theorem ExOk.above(he:ExOk B kx km nb ns):Sub B (ZA B kx km mv c es nb cp):=(Sub.set he.bm).trans (he.use _).above
theorem ExOk.set_x(he:ExOk B kx km nb ns)(cp':Nat):(ZA B kx km mv c es nb cp).set kx ⟨[mv, .map km,QO 1 nb, .int .i64 cp'],0⟩=ZA B kx km mv c es nb cp':=(he.use _).set _
theorem ExOk.set_m(he:ExOk B kx km nb ns)(c':Nat)(es':List (Nat×Str)):(ZA B kx km mv c es nb cp).set km (Xv c' (es'.map opC))=ZA B kx km mv c' es' nb cp:=by
 unfold ZA UH;rw[YS ((he.use _).ok _) ((AHeap.set_ne _ _ he.ne).trans (AHeap.set_same _ _ _)),AHeap.set_comm _ _ _ he.ne,AHeap.set_set]
theorem ExOk.down(he:ExOk B kx km nb ns){B':AHeap}(hs:Sub B' B):ExOk B' kx km nb ns:=⟨hs.none he.bm,hs.none he.bx,he.ne,fun M=>(he.use M).down (Sub.set_both hs _ _)⟩
theorem qck{B':AHeap}(hs:Sub B' B):Sub (ZA B' kx km mv c es nb cp) (ZA B kx km mv c es nb cp):=Sub.bufBoth (Sub.set_both (Sub.set_both hs _ _) _ _)
theorem ExOk.lay(he:ExOk B kx km nb ns){j:Nat}(hj:ZA B kx km mv c es nb cp j=none)(b:Blk):(ZA B kx km mv c es nb cp).set j b=ZA (B.set j b) kx km mv c es nb cp/\ExOk (B.set j b) kx km nb ns:=by
 have hnm:j≠km:=fun e=>by rw[e,he.m]at hj;cases hj
 have hnx:j≠kx:=fun e=>by rw[e,he.x]at hj;cases hj
 obtain⟨h1,h2,h3,h4⟩:=(he.use (Xv c (es.map opC))).lay hj b;refine⟨?_,(AHeap.set_ne _ _ hnm.symm).trans he.bm,(AHeap.set_ne _ _ hnx.symm).trans he.bx,he.ne,fun M=>?_⟩
 ·unfold ZA
  rw[h1,AHeap.set_comm _ _ _ hnm]
 ·have hj2:UH (B.set km M) kx mv (.map km) nb cp j=none:=by
   have hb:B j=none:=by
    have:=h3
    rwa [AHeap.set_ne _ _ hnm]at this
   unfold ZA UH at hj;unfold UH;cases nb with
   |none=>exact(AHeap.set_ne _ _ hnx).trans ((AHeap.set_ne _ _ hnm).trans hb)
   |some b'=>
    have hnb:j≠b'.blk:=fun e=>by
     rw[e,show QS ((B.set km (Xv c (es.map opC))).set kx ⟨[mv, .map km,QO 1 (some b'), .int .i64 cp],0⟩) (some b')=((B.set km (Xv c (es.map opC))).set kx ⟨[mv, .map km,QO 1 (some b'), .int .i64 cp],0⟩).set b'.blk ⟨b'.cells,0⟩from rfl,AHeap.set_same]at hj;cases hj
    exact(AHeap.set_ne _ _ hnb).trans ((AHeap.set_ne _ _ hnx).trans ((AHeap.set_ne _ _ hnm).trans hb))
  have:=((he.use M).lay hj2 b).2.1
  rwa [AHeap.set_comm _ _ _ hnm]at this
theorem ExOk.off(he:ExOk B kx km nb ns){B':AHeap}{j:Nat}{b:Blk}(hj:B j=some b)(hj':B' j=none):ZA B' kx km mv c es nb cp j=none:=by
 have hnm:j≠km:=fun e=>by rw[e,he.bm]at hj;cases hj
 have hnx:j≠kx:=fun e=>by rw[e,he.bx]at hj;cases hj
 have h1:=(he.use ⟨[],0⟩).ok ⟨[],0⟩;unfold ZA UH;cases nb with
 |none=>exact(AHeap.set_ne _ _ hnx).trans ((AHeap.set_ne _ _ hnm).trans hj')
 |some b'=>
  have hnb:j≠b'.blk:=fun e=>by
   have h2:((B.set km ⟨[],0⟩).set kx ⟨[],0⟩) b'.blk=none:=h1.1;rw[<-e,AHeap.set_ne _ _ hnx,AHeap.set_ne _ _ hnm,hj]at h2;cases h2
  exact(AHeap.set_ne _ _ hnb).trans ((AHeap.set_ne _ _ hnx).trans ((AHeap.set_ne _ _ hnm).trans hj'))
end
structure ExpR(B:AHeap)(kx km:Nat)(mv:AVal)(op:List Str)(st:Xs)(h:AHeap):Prop where
 few:st.names.length<=5000
 ex:∃c es nb,ExOk B kx km nb st.names/\es.map (·.2)=op/\Sub (ZA B kx km mv c es nb st.copies) h
theorem mFind_op(s:Str):∀(es:List (Nat×Str)) (k:Nat),s∉es.map (·.2)->qaa (.str s) (es.map opC) k=some none
 |[],_,_=>rfl
 |e::es,k,h=>by
  simp only[List.map_cons,List.mem_cons,not_or]at h;rw[List.map_cons,opC,qaa];simp only[kEq];rw[decide_eq_false h.1];exact mFind_op s es (k+1) h.2
theorem qbn(s:Str)(b:Nat):∀(es:List (Nat×Str)) (k:Nat),s∉es.map (·.2)->qaa (.str s) ((es++[(b,s)]).map opC) k=some (some (k+es.length, .bool true))
 |[],k,_=>by
  rw[List.nil_append,List.map_cons,List.map_nil,opC,qaa];simp only[kEq,decide_true];rfl
 |e::es,k,h=>by
  simp only[List.map_cons,List.mem_cons,not_or]at h;rw[List.cons_append,List.map_cons,opC,qaa];simp only[kEq];rw[decide_eq_false h.1,List.length_cons,show k+(es.length+1)=(k+1)+es.length by omega];exact qbn s b es (k+1) h.2
theorem mFind_in(s:Str):∀(es:List (Nat×Str)) (k:Nat),s∈es.map (·.2)->∃j,qaa (.str s) (es.map opC) k=some (some (j, .bool true))
 |[],_,h=>by cases h
 |e::es,k,h=>by
  rw[List.map_cons,opC,qaa];simp only[kEq];by_cases q:s=e.2
  ·rw[decide_eq_true q]
   exact⟨k,rfl⟩
  ·rw[decide_eq_false q]
   rw[List.map_cons,List.mem_cons]at h;exact mFind_in s es (k+1) (h.resolve_left q)
theorem look_op{h:AHeap}{km c:Nat}{es:List (Nat×Str)}{s:Str}(hm:h km=some (Xv c (es.map opC))):UM Tryz.prog h 74 (.map km) (.str s) false=⟨True, .bool ((es.map (·.2)).contains s)⟩:=by
 by_cases q:s∈es.map (·.2)
 ·obtain⟨j,hj⟩:=mFind_in s es 0 q
  rw[pLookup_in Tryz.underlying74 ze4 hm (by rfl) hj,lookR_false,List.contains_iff_mem.2 q]
 ·rw[pLookup_out Tryz.underlying74 ze4 hm (by rfl) (mFind_op s es 0 q),lookR_false]
  have:(es.map (·.2)).contains s=false:=by
   rw[Bool.eq_false_iff];intro z;exact q (List.contains_iff_mem.1 z)
  rw[this];rfl
theorem len_op{h:AHeap}{km c:Nat}{es:List (Nat×Str)}(hm:h km=some (Xv c (es.map opC))):ZU Tryz.prog h 74 (.map km)=⟨True, .int .i64 es.length⟩:=by
 have:=pLen_map Tryz.underlying74 (WR hm)
 rwa [List.length_map]at this
theorem c_mem2(w0:World)(h:AHeap)(q:MemQ)(hq:q.2.live=true)(hqc:q.2.cells=[q.2])(kn:Nat)(s:Str)(eb_n:h kn=some ⟨[.str s],0⟩):
 ACall Tryz.prog w0 58 ([.agg (qbm q)]++[.ptr (.own kn) 0]) h (fun r h'=>r= .bool (decide (q.1.name=s))/\h'=h):=by
 have hs_h:Sub h h:=Sub.refl h;obtain⟨⟨nm,tk⟩,tv⟩:=q;simp only at hq hqc;unfold qbm;simp only[List.cons_append,List.nil_append];refine qR (n:=8) (rs:=[.tmp 3]) Tryz.func58 rfl rfl rfl rfl (Nat.le_of_ble_eq_true rfl) ?_;simp only[Qd];refine awp_rseq [1,2] (by rfl) fun K hK=>?_;refine Wi (v:= .agg [.str nm,tv]) (cs:=[.str nm,tv]) (by rfl) (by simp+decide only[lv_agg]) (by rfl) fun k0q0 hk0q0=>?_;have hn_0q0:h k0q0=none:=by first|assumption|(simp only[AHeap.set_none]at hk0q0;simp only[hk0q0])
 have hf_0q0:h k0q0=none:=Sub.none hs_h hn_0q0;have ne_0q0_n:k0q0≠kn:=AHeap.ne_some hn_0q0 eb_n;simp+decide only[qa,ev,qJ,qG,putD,Slots.put,Slots.keep,if_true,if_false,true_and,↓qd,qb,Nat.zero_add];apply hK;clear hK K;refine awp_rseq [3] (by rfl) fun K hK=>?_;simp+decide only[qa,ev,putD,Slots.put,Slots.get,Slots.keep,if_true,if_false,true_and,↓qA,ql,fa57_0,↓qF,Qa,qw ag9,↓qB,qm,qV,cond_false,XN,pS_eql,↓qd,qb,QU,ne_eq,not_false_eq_true,ne_0q0_n.symm,Qr w0 eb_n,QV,List.getD_cons_zero,Nat.zero_add,qE];apply hK;clear hK K;refine qN ?_;refine qY h (by repeat (first|exact Sub.refl _|assumption|refine Sub.trans_set ?_ (by assumption))) (Qb (Qe)) ?_;simp+decide only[Slots.get,if_true,and_true,Qw];all_goals first|rfl|exact⟨rfl,rfl⟩|(simp+decide only[if_true,if_false, *];done)|(trace_state;fail)
theorem c_mem1(w0:World)(h:AHeap)(ks:Nat)(t:TokC)(rv:AVal)(hrl:rv.live=true)(e:Int)(eb_s:h ks=some ⟨stmC t rv,0⟩):
 ACall Tryz.prog w0 56 ([.int .i64 e]++[.ptr (.own ks) 0]) h (fun r h'=>r= .tuple [.nilSlice,QN ⟨e,t.line,t.col⟩]/\h'=h):=by
 have hs_h:Sub h h:=Sub.refl h;unfold stmC at eb_s;simp only[List.cons_append,List.nil_append];refine qR (n:=10) (rs:=[.tmp 3, .cell 4 35]) Tryz.func56 rfl rfl rfl rfl (Nat.le_of_ble_eq_true rfl) ?_;simp only[Qd];refine awp_rseq [0,1,4] (by rfl) fun K hK=>?_;simp+decide only[ev,qJ,qG,putD,Slots.put,if_false,true_and,↓qd,qb,Nat.zero_add];refine Qg qas (cs:=[.int .i64 0, .int .i64 0, .int .i64 0]) (by rfl) fun k0q1 hk0q1=>?_;have hn_0q1:h k0q1=none:=by first|assumption|(simp only[AHeap.set_none]at hk0q1;simp only[hk0q1])
 have hf_0q1:h k0q1=none:=Sub.none hs_h hn_0q1;have ne_0q1_s:k0q1≠ks:=AHeap.ne_some hn_0q1 eb_s;simp+decide only[qa,putD,Slots.put,Slots.keep,if_true,if_false];apply hK;clear hK K;refine XL 6 [3,4] mixed (by kernel_rfl) (by rfl) (by rfl) fun K hK=>?_;simp+decide only[ev,qJ,qG,putD,Slots.put,Slots.get,if_true,if_false,true_and,↓qj,qf,↓qA,ql,fa91_0,fa54_2,↓qF,Qa,qg ag33 qbe,↓Qn,↓qU,Ug,evP,List.map_cons,List.map_nil,↓qd,qb,QU,ne_eq,not_false_eq_true,ne_0q1_s.symm,Qr w0 eb_s,qc,List.getD_cons_zero,List.getD_cons_succ,Nat.zero_add,Nat.reduceAdd,qh,allLive,Bool.and_true];refine qo (by rfl) (by rfl) (by repeat (first|exact AHeap.set_same _ _ _|assumption|refine(AHeap.set_ne _ _ (by first|assumption|exact Ne.symm (by assumption))).trans ?_)) QA (by rfl) (by rfl) (by first|exact Nat.le_refl _|decide|(simp;done)|(simp;omega)) (Nat.zero_le _) (by rfl) ?_;simp only[AHeap.set_set,AVal.cells];simp+decide only[qa,ev,putD,Slots.get,Slots.keep,if_true,if_false,setAt,List.set_cons_zero,List.set_cons_succ,Nat.zero_add,Nat.reduceAdd];apply hK;clear hK K;refine qN ?_;refine qY h (by repeat (first|exact Sub.refl _|assumption|refine Sub.trans_set ?_ (by assumption))) (?_) ?_
 ·simp+decide only[Qy,qp,qi,Slots.get,if_true,if_false,and_true,qp,qi,qg Xf QA,qZ,qc,List.getD_cons_zero,List.getD_cons_succ,Nat.zero_add,Nat.reduceAdd,qh,allLive,Bool.and_true,qc,List.getD_cons_zero,List.getD_cons_succ,Nat.zero_add,Nat.reduceAdd,qh,allLive,Bool.and_true]
 simp+decide only[Slots.get,if_true,if_false,and_true,QW,qp,qi,qg Xf QA,qZ,qc,List.getD_cons_zero,List.getD_cons_succ,Nat.zero_add,Nat.reduceAdd,qh,allLive,Bool.and_true,qc,List.getD_cons_zero,List.getD_cons_succ,Nat.zero_add,Nat.reduceAdd,qh,allLive,Bool.and_true,QN];all_goals first|rfl|exact⟨rfl,rfl⟩|(simp+decide only[if_true,if_false, *];done)|(trace_state;fail)
end Go.Proofs.YtlhhaagmakhilaaGreatDoor
namespace Go.Proofs.YtlhhaagmakhilaaGreatDoor
open Go.AM
open Go.Proofs
open Go.Col (Str FaultC okF)
open Go.Tok
open Go.Cop
open Go.RowKit (Below)
set_option maxRecDepth 100000
def ListR(w0:World)(B:AHeap)(kx km:Nat)(mv:AVal)(op:List Str)(x:Xr)(r:AVal)(h':AHeap):Prop:=
 ∃(tb:Option Buf) (st':Xs) (bv:AVal) (bf:FaultC),bufOk B 5 tb/\ExpR (QS B tb) kx km mv op st' h'/\r= .tuple [bv,QN bf]/\
  ((bf≠okF/\x= .bad bf/\bv= .nilSlice)\/(bf=okF/\∃out,x= .ok out st'/\IsL w0 (QS (fun _=>none) tb) 5 bv (out.map Xw)/\out.length<=200000/\st'.names.length<=st'.copies/\st'.copies<=4096))
theorem qca(H:AHeap):Sub (fun _=>none) H:=fun j d hj=>by cases hj
theorem UseOk.swap{B:AHeap}{kx km:Nat}{nb:Option Buf}{ns:List Str}{M:Blk}(hu:UseOk (B.set km M) kx nb ns)(hne:km≠kx)(M':Blk):UseOk (B.set km M') kx nb ns:=by
 refine⟨?_,fun X=>?_,hu.eq⟩
 ·have:=hu.bx
  rw[AHeap.set_ne _ _ hne.symm]at this|-
  exact this
 ·have h1:=hu.ok X
  cases nb with
  |none=>trivial
  |some b=>
   refine⟨?_,h1.2⟩;have h2:((B.set km M).set kx X) b.blk=none:=h1.1;have e1:b.blk≠kx:=fun e=>by rw[e,AHeap.set_same]at h2;cases h2
   rw[AHeap.set_ne _ _ e1]at h2;have e2:b.blk≠km:=fun e=>by rw[e,AHeap.set_same]at h2;cases h2
   rw[AHeap.set_ne _ _ e2]at h2;exact(AHeap.set_ne _ _ e1).trans ((AHeap.set_ne _ _ e2).trans h2)
theorem qcU(s:Str)(b:Nat):∀es:List (Nat×Str),((es++[(b,s)]).map opC).eraseIdx es.length=es.map opC
 |es=>by
  rw[List.map_append,List.eraseIdx_append_of_length_le (by rw[List.length_map];exact Nat.le_refl _),List.length_map,Nat.sub_self];simp
theorem ExOk.buf{B hc:AHeap}{kx km:Nat}{mv:AVal}{c cp es5:Nat}{es:List (Nat×Str)}{nb tb:Option Buf}{ns:List Str}(he:ExOk B kx km nb ns)(hs:Sub (ZA B kx km mv c es nb cp) hc)(ht:bufOk hc es5 tb):ZA (QS B tb) kx km mv c es nb cp=QS (ZA B kx km mv c es nb cp) tb/\ExOk (QS B tb) kx km nb ns:=by
 cases tb with
 |none=>exact⟨rfl,he⟩
 |some b=>
  obtain⟨h1,h2⟩:=he.lay (mv:=mv) (c:=c) (es:=es) (cp:=cp) (j:=b.blk) (hs.none ht.1) ⟨b.cells,0⟩;exact⟨h1.symm,h2⟩
theorem bufH_off{h hc:AHeap}{es j:Nat}{b:Option Buf}{c:Blk}(hj:h j=none)(hj':hc j=some c)(hb:bufOk hc es b):QS h b j=none:=by
 cases b with
 |none=>exact hj
 |some b=>
  have hne:j≠b.blk:=fun e=>by
   have:=hb.1;rw[<-e,hj']at this;cases this
  exact(AHeap.set_ne _ _ hne).trans hj
theorem find_name{qs:List MemQ}{ms:List MemC}(hms:ms=qs.map (·.1))(s:Str):(qaF (fun q:MemQ=>decide (q.1.name=s)) qs= -1/\ms.find? (fun m=>decide (m.name=s))=none)\/∃i,i<qs.length/\qaF (fun q:MemQ=>decide (q.1.name=s)) qs=i/\ms.find? (fun m=>decide (m.name=s))=some (qs.getD i badM).1:=by
 have e:=idxI_map (fun q:MemQ=>q.1) (fun m:MemC=>decide (m.name=s)) qs;rw[<-hms]at e;rcases find_idx (r:=ms.map fun m=>(⟨[⟨1,m.name,0,0,false⟩],[]⟩:RepC)) (p:=fun x=>decide ((x.old.getD 0 noT).text=s))with z|z
 ·left
  rw[List.findIdx?_map]at z;rw[List.find?_map]at z;refine⟨?_,?_⟩
  ·rw[<-e];unfold qaF
   have z1:=z.1;simp only[Function.comp_def]at z1;rw[show ms.findIdx? (fun m=>decide (m.name=s))=none from z1]
  ·have z2:=z.2
   simpa[Function.comp_def]using z2
 ·right
  obtain⟨i,x,z1,z2,z3,z4⟩:=z;rw[List.findIdx?_map]at z1;have z1':ms.findIdx? (fun m=>decide (m.name=s))=some i:=z1;rw[List.length_map]at z3;have hq:i<qs.length:=by rw[hms,List.length_map]at z3;exact z3
  refine⟨i,hq,?_,?_⟩
  ·rw[<-e];unfold qaF;rw[z1']
  ·have h1:=List.findIdx?_eq_some_iff_getElem.1 z1'
   obtain⟨h2,h3,h4⟩:=h1;rw[List.find?_eq_some_iff_getElem];refine⟨?_,i,h2,?_,fun j hj=>by simpa using h4 j hj⟩
   ·have:(qs.getD i badM).1=ms[i]:=by
     simp only[hms,List.getElem_map,List.getD,List.getElem?_eq_getElem hq,Option.getD_some]
    rw[this];exact h3
   ·simp only[hms,List.getElem_map,List.getD,List.getElem?_eq_getElem hq,Option.getD_some]
end Go.Proofs.YtlhhaagmakhilaaGreatDoor
namespace Go.Proofs.YtlhhaagmakhilaaGreatDoor
open Go.AM
open Go.Proofs
open Go.Col (Str FaultC okF)
open Go.Tok
open Go.Cop
open Go.RowKit (Below)
set_option maxRecDepth 100000
theorem addE_len(ns:List Str)(s:Str):(Cop.addE ns s).length<=ns.length+1:=by
 unfold Cop.addE;split
 ·omega
 ·rw[List.length_append,List.length_singleton];omega
def RecOk(w0:World)(kx km:Nat)(mv:AVal)(mems:List MemC)(op:List Str)(rec:List TokC->List Str->Xs->Xr):Prop:=
 op.length<=8->∀(h B:AHeap) (v:AVal) (l:List TokC) (st:Xs),ExpR B kx km mv op st h->IsMems w0 B mv mems->IsL w0 B 5 v (l.map Xw)->l.length<=100000->st.names.length<=st.copies->st.copies<=4096->
  ACall Tryz.prog w0 32 [.ptr (.own kx) 0,v] h (ListR w0 B kx km mv op (rec l op st))
set_option maxHeartbeats 4000000 in
theorem c_member(w0:World)(h B:AHeap)(kx km:Nat)(mv:AVal)(mems:List MemC)(op:List Str)(st:Xs)(s:Stm)(rv:AVal)(rec:List TokC->List Str->Xs->Xr)(hx:ExpR B kx km mv op st h)(hms:IsMems w0 B mv mems)(hml:mems.length<=1000000)(hmt:∀m∈mems,m.toks.length<=100000)
 (hrp:IsReps w0 B rv s.reps) (hrn:∀x∈s.reps,x.new.length<=1000000) (hrl:s.reps.length<=1000000) (hro:∀x∈s.reps,x.old≠[]) (hst:st.names.length<=st.copies) (hst2:st.copies<=4096) (hop8:op.length<=8)
 (hrec:op.length<8->RecOk w0 kx km mv mems (op++[s.name.text]) rec):
 ACall Tryz.prog w0 47 [.ptr (.own kx) 0, .agg (stmC s.name rv)] h (ListR w0 B kx km mv op (qaK true mems op rec s st)):=by
 obtain⟨hfew,c,es,nb,he,hes,hsh⟩:=hx;obtain⟨qs,hqs,hq2,hq3⟩:=hms;have hmvs:=hq2.scal;have hmvl:=ZW hmvs;have hmvc:=hq2.cells;have hrvs:rv.scal=true:=by obtain⟨zs,-,z2,-⟩:=hrp;exact z2.scal
 have hrvl:=ZW hrvs;have hql:∀q∈qs,q.2.live=true:=fun q hq=>(hq3 q hq).live;have hqn:qs.length=mems.length:=by rw[hqs,List.length_map]
 refine ACall.down hsh ?_;obtain⟨nm,hnm⟩:∃nm,nm=s.name.text:=⟨_,rfl⟩
 have hsc:stmC s.name rv=[.int .u8 s.name.kind.toNat, .str nm, .int .i64 s.name.line, .int .i64 s.name.col, .bool s.name.left,rv]:=by rw[hnm];rfl
 obtain⟨X,hX⟩:∃X,X=qaK true mems op rec s st:=⟨_,rfl⟩
 rw[<-hX];unfold qaK at hX;rw[<-hnm]at hX hrec;have hes':es.length=op.length:=by rw[<-hes,List.length_map]
 obtain⟨H,hH⟩:∃H,H=ZA B kx km mv c es nb st.copies:=⟨_,rfl⟩
 have hs_H:Sub B H:=by rw[hH];exact he.above
 have eb_x:H kx=some ⟨[mv, .map km,QO 1 nb, .int .i64 st.copies],0⟩:=by rw[hH];exact he.x
 have eb_m:H km=some (Xv c (es.map opC)):=by rw[hH];exact he.m
 have hbl:=Xj 1 nb;have ne_x_m:kx≠km:=he.ne.symm;rw[<-hH];unfold stmC;rw[<-hnm];refine acall_put (k:=119) (rs:=[.tmp 4, .cell 5 35]) Tryz.func47 rfl rfl rfl rfl (Nat.le_of_ble_eq_true rfl) ?_;simp only[Qd];refine awp_rseq [0,3,5] (by rfl) fun K hK=>?_;refine Wi (v:= .agg [.int .u8 s.name.kind.toNat, .str nm, .int .i64 s.name.line, .int .i64 s.name.col, .bool s.name.left,rv]) (cs:=[.int .u8 s.name.kind.toNat, .str nm, .int .i64 s.name.line, .int .i64 s.name.col, .bool s.name.left,rv]) (by rfl) (by simp+decide only[lv_agg]) (by rfl) fun k0q0 hk0q0=>?_;have hn_0q0:H k0q0=none:=by first|assumption|(simp only[AHeap.set_none]at hk0q0;simp only[hk0q0])
 have hf_0q0:B k0q0=none:=Sub.none hs_H hn_0q0;have ne_0q0_x:k0q0≠kx:=AHeap.ne_some hn_0q0 eb_x;have ne_0q0_m:k0q0≠km:=AHeap.ne_some hn_0q0 eb_m;simp+decide only[ev,qJ,qG,putD,Slots.put,if_false,true_and,↓qd,qb,Nat.zero_add];refine Qg qas (cs:=[.int .i64 0, .int .i64 0, .int .i64 0]) (by rfl) fun k0q2 hk0q2=>?_;have ne_0q2_0q0:k0q2≠k0q0:=by simp only[AHeap.set_none]at hk0q2;simp only[hk0q2,ne_eq,not_false_eq_true]
 have hn_0q2:H k0q2=none:=by first|assumption|(simp only[AHeap.set_none]at hk0q2;simp only[hk0q2])
 have hf_0q2:B k0q2=none:=Sub.none hs_H hn_0q2;have ne_0q2_x:k0q2≠kx:=AHeap.ne_some hn_0q2 eb_x;have ne_0q2_m:k0q2≠km:=AHeap.ne_some hn_0q2 eb_m;simp+decide only[qa,putD,Slots.put,Slots.keep,if_true,if_false];apply hK;clear hK K;refine awp_rseq [0,3,5,6] (by rfl) fun K hK=>?_;simp+decide only[ev,putD,Slots.put,Slots.get,if_true,if_false,true_and,↓qA,ql,fa91_0,UD,↓qF,Qa,qw ag9,QU,ne_eq,not_false_eq_true,ne_0q2_0q0.symm,QV,List.getD_cons_zero,List.getD_cons_succ,Nat.zero_add,qE];refine Qg ze9 (cs:=[.str []]) (by rfl) fun k1q3 hk1q3=>?_;have ne_1q3_0q0:k1q3≠k0q0:=by simp only[AHeap.set_none]at hk1q3;simp only[hk1q3,ne_eq,not_false_eq_true]
 have ne_1q3_0q2:k1q3≠k0q2:=by simp only[AHeap.set_none]at hk1q3;simp only[hk1q3,ne_eq,not_false_eq_true]
 have hn_1q3:H k1q3=none:=by first|assumption|(simp only[AHeap.set_none]at hk1q3;simp only[hk1q3])
 have hf_1q3:B k1q3=none:=Sub.none hs_H hn_1q3;have ne_1q3_x:k1q3≠kx:=AHeap.ne_some hn_1q3 eb_x;have ne_1q3_m:k1q3≠km:=AHeap.ne_some hn_1q3 eb_m;refine qo (by rfl) (by rfl) (by repeat (first|exact AHeap.set_same _ _ _|assumption|refine(AHeap.set_ne _ _ (by first|assumption|exact Ne.symm (by assumption))).trans ?_)) sz9 (by rfl) (by rfl) (by first|exact Nat.le_refl _|decide|(simp;done)|(simp;omega)) (Nat.zero_le _) (by first|rfl|(simp+decide only[ev,putD,Slots.put,Slots.get,if_true,if_false,AVal.cells,Qz,Bool.and_true,Bool.true_and,hmvs,hrvs,XA,XF,Xn])) ?_;simp only[AHeap.set_set,AVal.cells];simp+decide only[qa,ev,putD,Slots.put,Slots.get,Slots.keep,if_true,if_false,setAt,List.set_cons_zero];apply hK;clear hK K;refine awp_rseq [0,3,5,6,7] (by rfl) fun K hK=>?_;simp+decide only[qa,ev,putD,Slots.put,Slots.get,Slots.keep,if_true,if_false,true_and,↓ap_makeFunc,qcG,evs,List.map_cons,List.map_nil,↓qd,qb];apply hK;clear hK K;refine awp_rseq [0,3,5,6,7,8] (by rfl) fun K hK=>?_;simp+decide only[ev,putD,Slots.put,Slots.get,if_true,if_false,true_and,↓qj,qf,↓Qi,qL,Ql,↓qA,ql,fa76_0,↓qF,Qa,qw ag28,↓ap_makeFunc,qcG,evs,List.map_cons,List.map_nil,QU,ne_eq,not_false_eq_true,ne_0q0_x.symm,ne_0q2_x.symm,ne_1q3_x.symm,Qr w0 eb_x,List.getD_cons_zero,Nat.zero_add,hmvl];refine qM (V:= .int .i64 (qaF (fun q:MemQ=>decide (q.1.name=nm)) qs)) (by rfl) (by rfl) (c_indexM w0 _ mv qs _ [.ptr (.own k1q3) 0] (fun q=>decide (q.1.name=nm)) (hq2.mono (by repeat (first|exact Sub.refl _|assumption|refine Sub.set_both ?_ _ _|refine Sub.trans_set ?_ (by repeat (first|assumption|refine(AHeap.set_ne _ _ (by first|assumption|exact Ne.symm (by assumption))).trans ?_))))) hql (by omega) (by rfl) (fun q hq=>c_mem2 w0 _ q (hql q hq) (hq3 q hq).cells k1q3 nm (by repeat (first|exact AHeap.set_same _ _ _|assumption|refine(AHeap.set_ne _ _ (by first|assumption|exact Ne.symm (by assumption))).trans ?_)))) ?_;simp+decide only[qa,ev,putD,Slots.put,Slots.get,Slots.keep,if_true,if_false,true_and,↓qd,qb];apply hK;clear hK K;refine awp_rseq [0,3,5,6,7,8] (by rfl) fun K hK=>?_;simp+decide only[ev,qJ,qG,putD,Slots.put,Slots.get,if_true,if_false,true_and,↓qj,qf,↓Qi,qL,Ql,↓qA,ql,fa76_3,↓qF,Qa,qw ag3,↓qB,qm,qD,cond_false,qz,Xa,QU,ne_eq,not_false_eq_true,ne_0q0_x.symm,ne_0q2_x.symm,ne_1q3_x.symm,Qr w0 eb_x,List.getD_cons_zero,List.getD_cons_succ,Nat.zero_add,qh];try simp(disch:=omega)only[wrap_i64]
 refine qo (by rfl) (by rfl) (by repeat (first|exact AHeap.set_same _ _ _|assumption|refine(AHeap.set_ne _ _ (by first|assumption|exact Ne.symm (by assumption))).trans ?_)) sz3 (by rfl) (by rfl) (by first|exact Nat.le_refl _|decide|(simp;done)|(simp;omega)) (Nat.zero_le _) (by first|rfl|(simp+decide only[ev,putD,Slots.put,Slots.get,if_true,if_false,AVal.cells,Qz,Bool.and_true,Bool.true_and,hmvs,hrvs,XA,XF,Xn])) ?_;simp only[AVal.cells];simp+decide only[qa,ev,putD,Slots.get,Slots.keep,if_true,if_false,setAt,List.set_cons_zero,List.set_cons_succ];apply hK;clear hK K;refine qO ?_;refine Qv ?_;obtain⟨H5,hH5⟩:∃H5,H5=(((H.set k0q0 ⟨[.int .u8 s.name.kind.toNat, .str nm, .int .i64 s.name.line, .int .i64 s.name.col, .bool s.name.left,rv],0⟩).set k0q2 ⟨[.int .i64 0, .int .i64 0, .int .i64 0],0⟩).set k1q3 ⟨[.str nm],0⟩).set kx ⟨[mv, .map km,QO 1 nb, .int .i64 ((st.copies+1:Nat):Int)],0⟩:=⟨_,rfl⟩
 refine Awp.forget (h':=H5) (by rw[hH5];exact Sub.refl _) ?_;have hs_H5:Sub B H5:=by rw[hH5];exact Zg (by repeat (first|exact Sub.refl _|assumption|refine Sub.set_both ?_ _ _|refine Sub.trans_set ?_ (by repeat (first|assumption|refine(AHeap.set_ne _ _ (by first|assumption|exact Ne.symm (by assumption))).trans ?_)))) he.bx _
 have eb_x:H5 kx=some ⟨[mv, .map km,QO 1 nb, .int .i64 ((st.copies+1:Nat):Int)],0⟩:=by rw[hH5];exact AHeap.set_same _ _ _
 have eb_m:H5 km=some (Xv c (es.map opC)):=by rw[hH5];exact(by repeat (first|exact AHeap.set_same _ _ _|assumption|refine(AHeap.set_ne _ _ (by first|assumption|exact Ne.symm (by assumption))).trans ?_))
 have eb_0q0:H5 k0q0=some ⟨[.int .u8 s.name.kind.toNat, .str nm, .int .i64 s.name.line, .int .i64 s.name.col, .bool s.name.left,rv],0⟩:=by rw[hH5];exact(by repeat (first|exact AHeap.set_same _ _ _|assumption|refine(AHeap.set_ne _ _ (by first|assumption|exact Ne.symm (by assumption))).trans ?_))
 have eb_0q2:H5 k0q2=some ⟨[.int .i64 0, .int .i64 0, .int .i64 0],0⟩:=by rw[hH5];exact(by repeat (first|exact AHeap.set_same _ _ _|assumption|refine(AHeap.set_ne _ _ (by first|assumption|exact Ne.symm (by assumption))).trans ?_))
 have eb_1q3:H5 k1q3=some ⟨[.str nm],0⟩:=by rw[hH5];exact(by repeat (first|exact AHeap.set_same _ _ _|assumption|refine(AHeap.set_ne _ _ (by first|assumption|exact Ne.symm (by assumption))).trans ?_))
 have hE5:Sub (ZA B kx km mv c es nb (st.copies+1)) H5:=by
  rw[hH5,<-he.set_x (st.copies+1),<-hH];exact Sub.set_both (Sub.trans_set (Sub.trans_set (Sub.set hn_0q0) hn_0q2) hn_1q3) _ _
 have hz5:ZA B kx km mv c es nb (st.copies+1) k0q2=none:=by
  rw[<-he.set_x (cp:=st.copies) (st.copies+1),<-hH];exact(AHeap.set_ne _ _ ne_0q2_x).trans hn_0q2
 have hlk:=look_op (s:=nm) eb_m;rw[hes]at hlk;have hlo:=len_op eb_m;rw[hes']at hlo;refine awp_rseq [0,3,5,6,7,8,30] (by rfl) fun K hK=>?_;simp+decide only[qa,ev,qJ,qG,putD,Slots.put,Slots.get,Slots.keep,if_true,if_false,true_and,↓qj,qf,↓qB,qm,qD,cond_false,qz,XZ,↓qd,qb];apply hK;clear hK K;refine qK (b:=_) rfl (fun hb1=>?_) (fun hb1=>?_)
 ·try simp only[decide_eq_true_eq]at hb1
  have hnone:mems.find? (fun m=>decide (m.name=nm))=none:=by
   rcases find_name hqs nm with z|⟨i,zi,z1,z2⟩
   ·exact z.2
   ·omega
  rw[hnone]at hX;simp only at hX;refine awp_rseq [4,5] (by rfl) fun K hK=>?_;simp+decide only[ev,putD,Slots.put,Slots.get,if_true,if_false,true_and,↓qj,qf];refine qM (V:= .tuple [.nilSlice,QN ⟨7,s.name.line,s.name.col⟩]) (by rfl) (by rfl) (c_mem1 w0 _ k0q0 s.name rv hrvl 7 (by rw[hsc];exact(by repeat (first|exact AHeap.set_same _ _ _|assumption|refine(AHeap.set_ne _ _ (by first|assumption|exact Ne.symm (by assumption))).trans ?_)))) ?_;simp+decide only[ev,putD,Slots.put,Slots.get,if_true,if_false,true_and,↓QJ,QC,QG,List.length_cons,List.length_nil,List.getD_cons_zero,List.getD_cons_succ,↓qd,qb,List.getD_cons_zero,List.getD_cons_succ,Nat.zero_add,Nat.reduceAdd,QN];refine qo (by rfl) (by rfl) (by repeat (first|exact AHeap.set_same _ _ _|assumption|refine(AHeap.set_ne _ _ (by first|assumption|exact Ne.symm (by assumption))).trans ?_)) QA (by rfl) (by rfl) (by first|exact Nat.le_refl _|decide|(simp;done)|(simp;omega)) (Nat.zero_le _) (by first|rfl|(simp+decide only[ev,putD,Slots.put,Slots.get,if_true,if_false,AVal.cells,Qz,Bool.and_true,Bool.true_and,hmvs,hrvs,XA,XF,Xn])) ?_;simp only[AVal.cells];simp+decide only[qa,ev,putD,Slots.get,Slots.keep,if_true,if_false,setAt,List.set_cons_zero,List.set_cons_succ,Nat.zero_add,Nat.reduceAdd];apply hK;clear hK K;refine qN ?_;try simp only[Qf,Qp]
  refine QM (?_) ?_
  ·simp+decide only[Qy,qp,qi,Slots.get,if_true,if_false,and_true,qp,qi,qg Xf QA,qZ,qc,List.getD_cons_zero,List.getD_cons_succ,Nat.zero_add,Nat.reduceAdd,qh,allLive,Bool.and_true,qc,List.getD_cons_zero,List.getD_cons_succ,Nat.zero_add,Nat.reduceAdd,qh,allLive,Bool.and_true]
  simp+decide only[Slots.get,if_true,if_false,QW,qp,qi,qg Xf QA,qZ,qc,List.getD_cons_zero,List.getD_cons_succ,Nat.zero_add,Nat.reduceAdd,qh,allLive,Bool.and_true,qc,List.getD_cons_zero,List.getD_cons_succ,Nat.zero_add,Nat.reduceAdd,qh,allLive,Bool.and_true];exact⟨_,Sub.refl _,none,⟨st.names,st.copies+1⟩, .nilSlice,⟨7,s.name.line,s.name.col⟩,trivial,⟨hfew,c,es,nb,he,hes,Sub.trans_set hE5 hz5⟩,rfl, .inl ⟨fun e=>absurd (congrArg FaultC.e e) (by simp[okF]),hX,rfl⟩⟩
 ·try simp only[decide_eq_false_iff_not]at hb1
  obtain⟨i,zi,z1,z2⟩:∃i,i<qs.length/\qaF (fun q:MemQ=>decide (q.1.name=nm)) qs=i/\mems.find? (fun m=>decide (m.name=nm))=some (qs.getD i badM).1:=by
   rcases find_name hqs nm with z|z
   ·omega
   ·exact z
  rw[z1];rw[z2]at hX;simp only at hX;obtain⟨q,hqe⟩:∃q,q=qs.getD i badM:=⟨_,rfl⟩
  have hqm:q∈qs:=by rw[hqe];exact getD_mem badM zi
  rw[<-hqe]at hX;have hqt:q.1.toks.length<=100000:=hmt _ (by rw[hqs];exact List.mem_map.2 ⟨q,hqm,rfl⟩);refine XR [0,3,5,6,7,8,37] mixed (by kernel_rfl) (by rfl) (by rfl) fun K hK=>?_;simp+decide only[qa,ev,putD,Slots.put,Slots.get,Slots.keep,if_true,if_false,true_and,↓qj,qf,↓Qi,qL,Ql,↓qA,ql,fa76_1,↓qF,Qa,qw ag74,qw ag9,↓ap_lookup,pop_lookup,↓qd,qb,Qr w0 eb_x,Qr w0 eb_1q3,lv_map,List.getD_cons_zero,List.getD_cons_succ,Nat.zero_add,qE,hlk];apply hK;clear hK K;refine qK (b:=_) rfl (fun hb2=>?_) (fun hb2=>?_)
  ·skip
   rw[if_pos hb2]at hX;refine awp_rseq [4,5] (by rfl) fun K hK=>?_;simp+decide only[ev,putD,Slots.put,Slots.get,if_true,if_false,true_and,↓qj,qf];refine qM (V:= .tuple [.nilSlice,QN ⟨10,s.name.line,s.name.col⟩]) (by rfl) (by rfl) (c_mem1 w0 _ k0q0 s.name rv hrvl 10 (by rw[hsc];exact(by repeat (first|exact AHeap.set_same _ _ _|assumption|refine(AHeap.set_ne _ _ (by first|assumption|exact Ne.symm (by assumption))).trans ?_)))) ?_;simp+decide only[ev,putD,Slots.put,Slots.get,if_true,if_false,true_and,↓QJ,QC,QG,List.length_cons,List.length_nil,List.getD_cons_zero,List.getD_cons_succ,↓qd,qb,List.getD_cons_zero,List.getD_cons_succ,Nat.zero_add,Nat.reduceAdd,QN];refine qo (by rfl) (by rfl) (by repeat (first|exact AHeap.set_same _ _ _|assumption|refine(AHeap.set_ne _ _ (by first|assumption|exact Ne.symm (by assumption))).trans ?_)) QA (by rfl) (by rfl) (by first|exact Nat.le_refl _|decide|(simp;done)|(simp;omega)) (Nat.zero_le _) (by first|rfl|(simp+decide only[ev,putD,Slots.put,Slots.get,if_true,if_false,AVal.cells,Qz,Bool.and_true,Bool.true_and,hmvs,hrvs,XA,XF,Xn])) ?_;simp only[AVal.cells];simp+decide only[qa,ev,putD,Slots.get,Slots.keep,if_true,if_false,setAt,List.set_cons_zero,List.set_cons_succ,Nat.zero_add,Nat.reduceAdd];apply hK;clear hK K;refine qN ?_;try simp only[Qf,Qp]
   refine QM (?_) ?_
   ·simp+decide only[Qy,qp,qi,Slots.get,if_true,if_false,and_true,qp,qi,qg Xf QA,qZ,qc,List.getD_cons_zero,List.getD_cons_succ,Nat.zero_add,Nat.reduceAdd,qh,allLive,Bool.and_true,qc,List.getD_cons_zero,List.getD_cons_succ,Nat.zero_add,Nat.reduceAdd,qh,allLive,Bool.and_true]
   simp+decide only[Slots.get,if_true,if_false,QW,qp,qi,qg Xf QA,qZ,qc,List.getD_cons_zero,List.getD_cons_succ,Nat.zero_add,Nat.reduceAdd,qh,allLive,Bool.and_true,qc,List.getD_cons_zero,List.getD_cons_succ,Nat.zero_add,Nat.reduceAdd,qh,allLive,Bool.and_true];exact⟨_,Sub.refl _,none,⟨st.names,st.copies+1⟩, .nilSlice,⟨10,s.name.line,s.name.col⟩,trivial,⟨hfew,c,es,nb,he,hes,Sub.trans_set hE5 hz5⟩,rfl, .inl ⟨fun e=>absurd (congrArg FaultC.e e) (by simp[okF]),hX,rfl⟩⟩
  ·skip
   rw[if_neg (by rw[hb2];decide)]at hX;refine awp_rseq [0,3,5,6,7,8,48] (by rfl) fun K hK=>?_;simp+decide only[qa,ev,qJ,qG,putD,Slots.put,Slots.get,Slots.keep,if_true,if_false,true_and,↓qj,qf,↓Qi,qL,Ql,↓qA,ql,fa76_1,↓qF,Qa,qw ag74,↓Xz,QK,↓qB,qm,qD,cond_false,qz,qaC,↓Xc,agP,Qu,qI,qH,Qc,implies_true,↓ZV,qbu,qbv,↓Xt,fa76_3,Zt,Zu,↓Zi,XO,WF,qdd,qw ag3,↓Xd,XW,Zb,UO,↓QP,Qt,Qh,XV,ZF,↓qd,qb,Qr w0 eb_x,lv_map,List.getD_cons_zero,List.getD_cons_succ,Nat.zero_add,qh,hlo];apply hK;clear hK K;refine qK (b:=_) rfl (fun hb3=>?_) (fun hb3=>?_)
   ·try simp only[decide_eq_true_eq,Bool.or_eq_true]at hb3
    rw[if_pos (by
     rcases hb3 with z|z
     ·left;omega
     ·right;exact⟨trivial,by omega⟩)]at hX
    refine awp_rseq [4,5] (by rfl) fun K hK=>?_;simp+decide only[ev,putD,Slots.put,Slots.get,if_true,if_false,true_and,↓qj,qf];refine qM (V:= .tuple [.nilSlice,QN ⟨3,s.name.line,s.name.col⟩]) (by rfl) (by rfl) (c_mem1 w0 _ k0q0 s.name rv hrvl 3 (by rw[hsc];exact(by repeat (first|exact AHeap.set_same _ _ _|assumption|refine(AHeap.set_ne _ _ (by first|assumption|exact Ne.symm (by assumption))).trans ?_)))) ?_;simp+decide only[ev,putD,Slots.put,Slots.get,if_true,if_false,true_and,↓QJ,QC,QG,List.length_cons,List.length_nil,List.getD_cons_zero,List.getD_cons_succ,↓qd,qb,List.getD_cons_zero,List.getD_cons_succ,Nat.zero_add,Nat.reduceAdd,QN];refine qo (by rfl) (by rfl) (by repeat (first|exact AHeap.set_same _ _ _|assumption|refine(AHeap.set_ne _ _ (by first|assumption|exact Ne.symm (by assumption))).trans ?_)) QA (by rfl) (by rfl) (by first|exact Nat.le_refl _|decide|(simp;done)|(simp;omega)) (Nat.zero_le _) (by first|rfl|(simp+decide only[ev,putD,Slots.put,Slots.get,if_true,if_false,AVal.cells,Qz,Bool.and_true,Bool.true_and,hmvs,hrvs,XA,XF,Xn])) ?_;simp only[AVal.cells];simp+decide only[qa,ev,putD,Slots.get,Slots.keep,if_true,if_false,setAt,List.set_cons_zero,List.set_cons_succ,Nat.zero_add,Nat.reduceAdd];apply hK;clear hK K;refine qN ?_;try simp only[Qf,Qp]
    refine QM (?_) ?_
    ·simp+decide only[Qy,qp,qi,Slots.get,if_true,if_false,and_true,qp,qi,qg Xf QA,qZ,qc,List.getD_cons_zero,List.getD_cons_succ,Nat.zero_add,Nat.reduceAdd,qh,allLive,Bool.and_true,qc,List.getD_cons_zero,List.getD_cons_succ,Nat.zero_add,Nat.reduceAdd,qh,allLive,Bool.and_true]
    simp+decide only[Slots.get,if_true,if_false,QW,qp,qi,qg Xf QA,qZ,qc,List.getD_cons_zero,List.getD_cons_succ,Nat.zero_add,Nat.reduceAdd,qh,allLive,Bool.and_true,qc,List.getD_cons_zero,List.getD_cons_succ,Nat.zero_add,Nat.reduceAdd,qh,allLive,Bool.and_true];exact⟨_,Sub.refl _,none,⟨st.names,st.copies+1⟩, .nilSlice,⟨3,s.name.line,s.name.col⟩,trivial,⟨hfew,c,es,nb,he,hes,Sub.trans_set hE5 hz5⟩,rfl, .inl ⟨fun e=>absurd (congrArg FaultC.e e) (by simp[okF]),hX,rfl⟩⟩
   ·try simp only[decide_eq_false_iff_not,Bool.or_eq_false_iff]at hb3
    rw[if_neg (by
     rintro(z|⟨-,z⟩)
     ·omega
     ·omega)]at hX
    have hlt8:op.length<8:=by omega
    have hcp:st.copies+1<=4096:=by omega
    have hnot:nm∉es.map (·.2):=by rw[hes];intro z;rw[List.contains_iff_mem.2 z]at hb2;cases hb2
    refine qW ?_;change Awp _ _ _ _ _ _ _;obtain⟨B1,hB1⟩:∃B1,B1=((B.set k0q0 ⟨[.int .u8 s.name.kind.toNat, .str nm, .int .i64 s.name.line, .int .i64 s.name.col, .bool s.name.left,rv],0⟩).set k0q2 ⟨[.int .i64 0, .int .i64 0, .int .i64 0],0⟩).set k1q3 ⟨[.str nm],0⟩:=⟨_,rfl⟩
    obtain⟨y1,y2⟩:=he.lay (mv:=mv) (c:=c) (es:=es) (cp:=st.copies) (j:=k0q0) (by rw[<-hH];exact hn_0q0) ⟨[.int .u8 s.name.kind.toNat, .str nm, .int .i64 s.name.line, .int .i64 s.name.col, .bool s.name.left,rv],0⟩;obtain⟨y3,y4⟩:=y2.lay (mv:=mv) (c:=c) (es:=es) (cp:=st.copies) (j:=k0q2) (by rw[<-y1,<-hH];exact(AHeap.set_ne _ _ ne_0q2_0q0).trans hn_0q2) ⟨[.int .i64 0, .int .i64 0, .int .i64 0],0⟩;obtain⟨y5,y6⟩:=y4.lay (mv:=mv) (c:=c) (es:=es) (cp:=st.copies) (j:=k1q3) (by rw[<-y3,<-y1,<-hH];exact(AHeap.set_ne _ _ ne_1q3_0q2).trans ((AHeap.set_ne _ _ ne_1q3_0q0).trans hn_1q3)) ⟨[.str nm],0⟩;rw[<-hB1]at y5 y6;have h5:H5=ZA B1 kx km mv c es nb (st.copies+1):=by rw[hH5,hH,y1,y3,y5,y6.set_x]
    have hsB1:Sub B B1:=by rw[hB1];exact(by repeat (first|exact Sub.refl _|assumption|refine Sub.set_both ?_ _ _|refine Sub.trans_set ?_ (by repeat (first|assumption|refine(AHeap.set_ne _ _ (by first|assumption|exact Ne.symm (by assumption))).trans ?_))))
    have b1_0:B1 k0q0=some ⟨[.int .u8 s.name.kind.toNat, .str nm, .int .i64 s.name.line, .int .i64 s.name.col, .bool s.name.left,rv],0⟩:=by rw[hB1];exact(by repeat (first|exact AHeap.set_same _ _ _|assumption|refine(AHeap.set_ne _ _ (by first|assumption|exact Ne.symm (by assumption))).trans ?_))
    have b1_2:B1 k0q2=some ⟨[.int .i64 0, .int .i64 0, .int .i64 0],0⟩:=by rw[hB1];exact(by repeat (first|exact AHeap.set_same _ _ _|assumption|refine(AHeap.set_ne _ _ (by first|assumption|exact Ne.symm (by assumption))).trans ?_))
    have b1_n:B1 k1q3=some ⟨[.str nm],0⟩:=by rw[hB1];exact(by repeat (first|exact AHeap.set_same _ _ _|assumption|refine(AHeap.set_ne _ _ (by first|assumption|exact Ne.symm (by assumption))).trans ?_))
    have hcu:ACall Tryz.prog w0 44 [.ptr (.own kx) 0, .str nm] H5 (fun r h'=>r= .tuple []/\∃nb',UseOk (B1.set km (Xv c (es.map opC))) kx nb' (Cop.addE st.names nm)/\h'=UH (B1.set km (Xv c (es.map opC))) kx mv (.map km) nb' ((st.copies+1:Nat):Int)):=by
     rw[h5];exact c_use w0 _ kx mv (.map km) nb _ st.names nm (y6.use _) (by omega) hmvs rfl
    refine awp_rseq [0,3,5,6,7,8] (by rfl) fun K hK=>?_;simp+decide only[ev,putD,Slots.put,Slots.get,if_true,if_false,true_and,↓qj,qf,↓qF,Qa,qw ag9,Qr w0 eb_1q3,List.getD_cons_zero,qE];refine QH (by rfl) (by rfl) (hcu) fun x11q2 h11q2 hx11q2=>?_;obtain⟨-,nb2,hu2,hh11⟩:=hx11q2;have he2:ExOk B1 kx km nb2 (Cop.addE st.names nm):=⟨y6.bm,y6.bx,y6.ne,fun M=>hu2.swap y6.ne M⟩
    have hh:h11q2=ZA B1 kx km mv c es nb2 (st.copies+1):=hh11;have hs_h11q2:Sub B h11q2:=by rw[hh];exact hsB1.trans he2.above
    have eb_x:h11q2 kx=some ⟨[mv, .map km,QO 1 nb2, .int .i64 ((st.copies+1:Nat):Int)],0⟩:=by rw[hh];exact he2.x
    have eb_m:h11q2 km=some (Xv c (es.map opC)):=by rw[hh];exact he2.m
    have eb_0q0:h11q2 k0q0=some ⟨[.int .u8 s.name.kind.toNat, .str nm, .int .i64 s.name.line, .int .i64 s.name.col, .bool s.name.left,rv],0⟩:=by rw[hh];exact he2.above _ _ b1_0
    have eb_0q2:h11q2 k0q2=some ⟨[.int .i64 0, .int .i64 0, .int .i64 0],0⟩:=by rw[hh];exact he2.above _ _ b1_2
    have eb_1q3:h11q2 k1q3=some ⟨[.str nm],0⟩:=by rw[hh];exact he2.above _ _ b1_n
    have hbl:=Xj 1 nb2;simp+decide only[qa,putD,Slots.put,Slots.keep,if_true,if_false];apply hK;clear hK K;refine XL 5 [0,3,5,6,7,8] mixed (by kernel_rfl) (by rfl) (by rfl) fun K hK=>?_;simp+decide only[ev,putD,Slots.put,Slots.get,if_true,if_false,true_and,↓qj,qf,↓Qi,qL,Ql,↓qA,ql,fa76_1,↓qF,Qa,qw ag74,qw ag9,Qr w0 eb_x,Qr w0 eb_1q3,lv_map,List.getD_cons_zero,List.getD_cons_succ,Nat.zero_add,qE];refine aOps_putNew Tryz.underlying74 (by rfl) eb_m (by rfl) (mFind_op _ es 0 hnot) ?_;simp+decide only[qa,ev,qJ,qG,putD,Slots.get,Slots.keep,if_true,if_false];apply hK;clear hK K;obtain⟨H13,hH13⟩:∃H13,H13=ZA B1 kx km mv (c+1) (es++[(c,nm)]) nb2 (st.copies+1):=⟨_,rfl⟩
    refine Awp.forget (h':=H13) (by rw[hH13,<-he2.set_m (c:=c) (es:=es),<-hh,List.map_append];exact Sub.refl _) ?_;have hs_H13:Sub B H13:=by rw[hH13];exact hsB1.trans he2.above
    have eb_x:H13 kx=some ⟨[mv, .map km,QO 1 nb2, .int .i64 ((st.copies+1:Nat):Int)],0⟩:=by rw[hH13];exact he2.x
    have eb_m:H13 km=some (Xv (c+1) ((es++[(c,nm)]).map opC)):=by rw[hH13];exact he2.m
    have eb_0q0:H13 k0q0=some ⟨[.int .u8 s.name.kind.toNat, .str nm, .int .i64 s.name.line, .int .i64 s.name.col, .bool s.name.left,rv],0⟩:=by rw[hH13];exact he2.above _ _ b1_0
    have eb_0q2:H13 k0q2=some ⟨[.int .i64 0, .int .i64 0, .int .i64 0],0⟩:=by rw[hH13];exact he2.above _ _ b1_2
    have eb_1q3:H13 k1q3=some ⟨[.str nm],0⟩:=by rw[hH13];exact he2.above _ _ b1_n
    obtain⟨lcm,om,cm,rfl⟩:=mem_open hq2 (by omega);obtain⟨-,d1⟩:=mem_at (hq2.mono hs_H13) zi;rw[<-hqe]at d1;have hqv:=hql q hqm;have hal:=addE_len st.names nm;refine awp_put_deleteE [0,3,5,7,8] (vm:= .map km) (vi:= .str nm) 5 (by rfl) (by rfl) rfl mixed (by kernel_rfl) (by rfl) fun K hK=>?_;simp only[List.take_succ_cons,List.take_zero];simp+decide only[qa,ev,putD,Slots.put,Slots.get,Slots.keep,if_true,if_false,true_and,↓qj,qf,↓Qi,qL,Ql,↓qA,ql,fa76_1,↓qF,Qa,qw ag74,qw ag9,Qr w0 eb_x,Qr w0 eb_1q3,lv_map,List.getD_cons_zero,List.getD_cons_succ,Nat.zero_add,qE];skip;apply hK;clear hK K;intro dq;refine awp_rseq [3,5,7,9,10] (by rfl) fun K hK=>?_;simp+decide only[ev,putD,Slots.put,Slots.get,if_true,if_false,true_and,↓qj,qf,↓Qi,qL,Ql,↓qA,ql,fa76_0,↓qF,Qa,qw ag28,↓Xg,Qk Tryz.underlying28 sz57,fa57_1,qw UF,Qr w0 eb_x,List.getD_cons_zero,Nat.zero_add,hmvl,d1,hqv,Int.toNat_natCast];repeat (with_reducible refine And.intro ?_ ?_;· first|trivial|omega|(intro hg;simp only[Bool.and_eq_true,Bool.or_eq_true,Bool.not_eq_true',Bool.and_eq_false_iff,Bool.or_eq_false_iff,Bool.not_eq_false',decide_eq_true_eq,decide_eq_false_iff_not,Zd]at hg;omega))
    refine QH (by rfl) (by rfl) (hrec hlt8 (by rw[List.length_append,List.length_singleton];omega) _ B1 q.2 q.1.toks ⟨Cop.addE st.names nm,st.copies+1⟩ ⟨by(simp only;omega),c+1,es++[(c,nm)],nb2,he2,by rw[List.map_append,hes];rfl,by rw[<-hH13];exact(by repeat (first|exact Sub.refl _|assumption|refine Sub.set_both ?_ _ _|refine Sub.trans_set ?_ (by repeat (first|assumption|refine(AHeap.set_ne _ _ (by first|assumption|exact Ne.symm (by assumption))).trans ?_))))⟩ ⟨qs,hqs,hq2.mono hsB1,fun q hq=>(hq3 q hq).mono hsB1⟩ ((hq3 q hqm).mono hsB1) hqt (by simp only;omega) hcp) fun x14q9 h14q9 hx14q9=>?_;obtain⟨tb0,st2,bv,bf,htb0,hxr,rfl,hcase⟩:=hx14q9;obtain⟨B2,hB2⟩:∃B2,B2=QS B1 tb0:=⟨_,rfl⟩
    rw[<-hB2]at hxr;obtain⟨hfew2,c3,es3,nb3,he3,hop3,hs3⟩:=hxr;have hsB2:Sub B1 B2:=by rw[hB2];exact Sub.buf htb0
    obtain⟨es4,b4,rfl,hes4⟩:∃es4 b4,es3=es4++[(b4,nm)]/\es4.map (·.2)=op:=by
     obtain⟨l1,l2,q1,q2,q3⟩:=List.map_eq_append_iff.1 hop3;cases l2 with
     |nil=>simp at q3
     |cons a l3=>
      obtain⟨a1,a2⟩:=a;simp only[List.map_cons,List.cons.injEq,List.map_eq_nil_iff]at q3;obtain⟨rfl,rfl⟩:=q3;exact⟨l1,a1,q1,q2⟩
    have hnot4:nm∉es4.map (·.2):=by rw[hes4,<-hes];exact hnot
    have hsBB2:Sub B B2:=hsB1.trans hsB2;have hs2h:Sub B2 h14q9:=he3.above.trans hs3;have hs_h14q9:Sub B h14q9:=hsBB2.trans hs2h;have eb_x:h14q9 kx=some ⟨[.slice lcm om qs.length cm, .map km,QO 1 nb3, .int .i64 st2.copies],0⟩:=hs3 _ _ he3.x;have eb_m:h14q9 km=some (Xv c3 ((es4++[(b4,nm)]).map opC)):=hs3 _ _ he3.m;have eb_0q0:h14q9 k0q0=some ⟨[.int .u8 s.name.kind.toNat, .str nm, .int .i64 s.name.line, .int .i64 s.name.col, .bool s.name.left,rv],0⟩:=hs2h _ _ (hsB2 _ _ b1_0);have eb_0q2:h14q9 k0q2=some ⟨[.int .i64 0, .int .i64 0, .int .i64 0],0⟩:=hs2h _ _ (hsB2 _ _ b1_2);have eb_1q3:h14q9 k1q3=some ⟨[.str nm],0⟩:=hs2h _ _ (hsB2 _ _ b1_n);have heB3:ExOk B kx km nb3 st2.names:=he3.down hsBB2;have hE14:Sub (ZA B kx km (.slice lcm om qs.length cm) c3 (es4++[(b4,nm)]) nb3 st2.copies) h14q9:=(qck hsBB2).trans hs3;have z0q2:ZA B kx km (.slice lcm om qs.length cm) c3 (es4++[(b4,nm)]) nb3 st2.copies k0q2=none:=he3.off (hsB2 _ _ b1_2) hf_0q2;have hbvl:bv.live=true:=by
     rcases hcase with⟨-,-,w3⟩|⟨-,out,-,w3,-⟩
     ·rw[w3];rfl
     ·exact w3.live
    simp+decide only[ev,putD,Slots.put,Slots.get,if_true,if_false,true_and,↓qj,qf,↓QJ,QC,QG,List.length_cons,List.length_nil,List.getD_cons_zero,List.getD_cons_succ,List.getD_cons_zero,List.getD_cons_succ,Nat.zero_add,Nat.reduceAdd,QN];refine Qg qas (cs:=[.int .i64 0, .int .i64 0, .int .i64 0]) (by rfl) fun k14q13 hk14q13=>?_;have hn_14q13:h14q9 k14q13=none:=by first|assumption|(simp only[AHeap.set_none]at hk14q13;simp only[hk14q13])
    have hf_14q13:B k14q13=none:=Sub.none hs_h14q9 hn_14q13;have ne_14q13_x:k14q13≠kx:=AHeap.ne_some hn_14q13 eb_x;have ne_14q13_m:k14q13≠km:=AHeap.ne_some hn_14q13 eb_m;have ne_14q13_0q0:k14q13≠k0q0:=AHeap.ne_some hn_14q13 eb_0q0;have ne_14q13_0q2:k14q13≠k0q2:=AHeap.ne_some hn_14q13 eb_0q2;have ne_14q13_1q3:k14q13≠k1q3:=AHeap.ne_some hn_14q13 eb_1q3;simp+decide only[ev,putD,Slots.put,Slots.get,if_true,if_false,true_and,↓qd,qb];refine qo (by rfl) (by rfl) (by repeat (first|exact AHeap.set_same _ _ _|assumption|refine(AHeap.set_ne _ _ (by first|assumption|exact Ne.symm (by assumption))).trans ?_)) QA (by rfl) (by rfl) (by first|exact Nat.le_refl _|decide|(simp;done)|(simp;omega)) (Nat.zero_le _) (by first|rfl|(simp+decide only[ev,putD,Slots.put,Slots.get,if_true,if_false,AVal.cells,Qz,Bool.and_true,Bool.true_and,hmvs,hrvs,XA,XF,Xn])) ?_;simp only[AHeap.set_set,AVal.cells];simp+decide only[qa,ev,putD,Slots.get,Slots.keep,if_true,if_false,setAt,List.set_cons_zero,List.set_cons_succ,Nat.zero_add,Nat.reduceAdd];apply hK;clear hK K;refine qO ?_;refine awp_rseq [3,5,7,9,10,94] (by rfl) fun K hK=>?_;simp+decide only[qa,ev,qJ,qG,putD,Slots.put,Slots.get,Slots.keep,if_true,if_false,true_and,↓qF,Qa,qg Xf QA,↓Qn,↓qU,Zk,evP,List.map_nil,↓qB,qm,qV,cond_false,ZO,ne35,QV,qc,List.getD_cons_zero,List.getD_cons_succ,Nat.zero_add,Nat.reduceAdd,qh,allLive,Bool.and_true,Wh];apply hK;clear hK K;refine qK (b:=_) rfl (fun hb4=>?_) (fun hb4=>?_)
    ·try simp only[decide_eq_false_iff_not,Bool.not_eq_true']at hb4
     obtain⟨w1,w2,w3⟩:bf≠okF/\rec q.1.toks (op++[nm]) ⟨Cop.addE st.names nm,st.copies+1⟩= .bad bf/\bv= .nilSlice:=by
      rcases hcase with z|⟨z,-⟩
      ·exact z
      ·exact absurd z hb4
     rw[w2]at hX;simp only at hX;refine XL 2 [4,5] mixed (by kernel_rfl) (by rfl) (by rfl) fun K hK=>?_;simp+decide only[ev,qJ,qG,putD,Slots.put,Slots.get,if_true,if_false,true_and,↓qF,Qa,qg Xf QA,↓qd,qb,QV,qc,List.getD_cons_zero,List.getD_cons_succ,Nat.zero_add,Nat.reduceAdd,qh,allLive,Bool.and_true];refine qo (by rfl) (by rfl) (by repeat (first|exact AHeap.set_same _ _ _|assumption|refine(AHeap.set_ne _ _ (by first|assumption|exact Ne.symm (by assumption))).trans ?_)) QA (by rfl) (by rfl) (by first|exact Nat.le_refl _|decide|(simp;done)|(simp;omega)) (Nat.zero_le _) (by first|rfl|(simp+decide only[ev,putD,Slots.put,Slots.get,if_true,if_false,AVal.cells,Qz,Bool.and_true,Bool.true_and,hmvs,hrvs,XA,XF,Xn])) ?_;simp only[AVal.cells];simp+decide only[qa,ev,putD,Slots.get,Slots.keep,if_true,if_false,setAt,List.set_cons_zero,List.set_cons_succ,Nat.zero_add,Nat.reduceAdd];apply hK;clear hK K;refine qN ?_;try simp only[Qf]
     refine retD_del (by rfl) Tryz.underlying74 (by repeat (first|exact AHeap.set_same _ _ _|assumption|refine(AHeap.set_ne _ _ (by first|assumption|exact Ne.symm (by assumption))).trans ?_)) (by rfl) (qbn _ b4 es4 0 hnot4) ?_;refine QM (?_) ?_
     ·simp+decide only[Qy,qp,qi,Slots.get,if_true,if_false,and_true,qp,qi,qg Xf QA,qZ,qc,List.getD_cons_zero,List.getD_cons_succ,Nat.zero_add,Nat.reduceAdd,qh,allLive,Bool.and_true,QU,ne_eq,not_false_eq_true,ne_0q2_m,qc,List.getD_cons_zero,List.getD_cons_succ,Nat.zero_add,Nat.reduceAdd,qh,allLive,Bool.and_true]
     simp+decide only[Slots.get,if_true,if_false,QW,qp,qi,qg Xf QA,qZ,qc,List.getD_cons_zero,List.getD_cons_succ,Nat.zero_add,Nat.reduceAdd,qh,allLive,Bool.and_true,QU,ne_eq,not_false_eq_true,ne_0q2_m,qc,List.getD_cons_zero,List.getD_cons_succ,Nat.zero_add,Nat.reduceAdd,qh,allLive,Bool.and_true];rw[qcU];refine⟨_,Sub.refl _,none,st2, .nilSlice,bf,trivial,⟨hfew2,c3,es4,nb3,heB3,hes4,?_⟩,rfl, .inl ⟨w1,hX,rfl⟩⟩;change Sub (ZA B _ _ _ _ _ _ _) _;rw[<-heB3.set_m (c:=c3) (es:=es4++[(b4,nm)])];exact Sub.set_both (Sub.trans_set (Sub.trans_set hE14 (hE14.none hn_14q13)) z0q2) _ _
    ·try simp only[decide_eq_true_eq,Bool.not_eq_false']at hb4
     obtain⟨w1,out,w2,w3,w4,w5,w6⟩:bf=okF/\∃out,rec q.1.toks (op++[nm]) ⟨Cop.addE st.names nm,st.copies+1⟩= .ok out st2/\IsL w0 (QS (fun _=>none) tb0) 5 bv (out.map Xw)/\out.length<=200000/\st2.names.length<=st2.copies/\st2.copies<=4096:=by
      rcases hcase with⟨z,-⟩|z
      ·exact absurd (by simpa using hb4) z
      ·exact z
     have w3:IsL w0 B2 5 bv (out.map Xw):=w3.mono (by rw[hB2];exact Sub.bufBoth (qca _));rw[w2]at hX;simp only[qcy,Bool.true_and,decide_eq_true_eq]at hX;have nbv:=Zy w3;refine qW ?_;change Awp _ _ _ _ _ _ _;refine qO ?_;refine awp_rseq [3,5,7,9,98] (by rfl) fun K hK=>?_;simp+decide only[qa,ev,qJ,qG,putD,Slots.put,Slots.get,Slots.keep,if_true,if_false,true_and,↓qj,qf,↓Xz,QK,↓qB,qm,qD,cond_false,qz,UO,nbv];apply hK;clear hK K;refine qK (b:=_) rfl (fun hb5=>?_) (fun hb5=>?_)
     ·try simp only[decide_eq_true_eq]at hb5
      rw[if_pos (by omega)]at hX;refine awp_rseq [4,5] (by rfl) fun K hK=>?_;simp+decide only[ev,putD,Slots.put,Slots.get,if_true,if_false,true_and,↓qj,qf];refine qM (V:= .tuple [.nilSlice,QN ⟨3,s.name.line,s.name.col⟩]) (by rfl) (by rfl) (c_mem1 w0 _ k0q0 s.name rv hrvl 3 (by rw[hsc];exact(by repeat (first|exact AHeap.set_same _ _ _|assumption|refine(AHeap.set_ne _ _ (by first|assumption|exact Ne.symm (by assumption))).trans ?_)))) ?_;simp+decide only[ev,putD,Slots.put,Slots.get,if_true,if_false,true_and,↓QJ,QC,QG,List.length_cons,List.length_nil,List.getD_cons_zero,List.getD_cons_succ,↓qd,qb,List.getD_cons_zero,List.getD_cons_succ,Nat.zero_add,Nat.reduceAdd,QN];refine qo (by rfl) (by rfl) (by repeat (first|exact AHeap.set_same _ _ _|assumption|refine(AHeap.set_ne _ _ (by first|assumption|exact Ne.symm (by assumption))).trans ?_)) QA (by rfl) (by rfl) (by first|exact Nat.le_refl _|decide|(simp;done)|(simp;omega)) (Nat.zero_le _) (by first|rfl|(simp+decide only[ev,putD,Slots.put,Slots.get,if_true,if_false,AVal.cells,Qz,Bool.and_true,Bool.true_and,hmvs,hrvs,XA,XF,Xn])) ?_;simp only[AVal.cells];simp+decide only[qa,ev,putD,Slots.get,Slots.keep,if_true,if_false,setAt,List.set_cons_zero,List.set_cons_succ,Nat.zero_add,Nat.reduceAdd];apply hK;clear hK K;refine qN ?_;try simp only[Qf]
      refine retD_del (by rfl) Tryz.underlying74 (by repeat (first|exact AHeap.set_same _ _ _|assumption|refine(AHeap.set_ne _ _ (by first|assumption|exact Ne.symm (by assumption))).trans ?_)) (by rfl) (qbn _ b4 es4 0 hnot4) ?_;refine QM (?_) ?_
      ·simp+decide only[Qy,qp,qi,Slots.get,if_true,if_false,and_true,qp,qi,qg Xf QA,qZ,qc,List.getD_cons_zero,List.getD_cons_succ,Nat.zero_add,Nat.reduceAdd,qh,allLive,Bool.and_true,QU,ne_eq,not_false_eq_true,ne_0q2_m,qc,List.getD_cons_zero,List.getD_cons_succ,Nat.zero_add,Nat.reduceAdd,qh,allLive,Bool.and_true]
      simp+decide only[Slots.get,if_true,if_false,QW,qp,qi,qg Xf QA,qZ,qc,List.getD_cons_zero,List.getD_cons_succ,Nat.zero_add,Nat.reduceAdd,qh,allLive,Bool.and_true,QU,ne_eq,not_false_eq_true,ne_0q2_m,qc,List.getD_cons_zero,List.getD_cons_succ,Nat.zero_add,Nat.reduceAdd,qh,allLive,Bool.and_true];rw[qcU];refine⟨_,Sub.refl _,none,st2, .nilSlice,⟨3,s.name.line,s.name.col⟩,trivial,⟨hfew2,c3,es4,nb3,heB3,hes4,?_⟩,rfl, .inl ⟨fun e=>absurd (congrArg FaultC.e e) (by simp[okF]),hX,rfl⟩⟩;change Sub (ZA B _ _ _ _ _ _ _) _;rw[<-heB3.set_m (c:=c3) (es:=es4++[(b4,nm)])];exact Sub.set_both (Sub.trans_set (Sub.trans_set hE14 (hE14.none hn_14q13)) z0q2) _ _
     ·try simp only[decide_eq_false_iff_not]at hb5
      rw[if_neg (by omega)]at hX;have z14:B2 k14q13=none:=hs2h.none hn_14q13;have hrE:qcd out s.reps=if 65536<(qbN s.reps out).length then([],3)else(qbN s.reps out,0):=by
       unfold qcd;rw[if_neg];rw[List.any_eq_true];rintro⟨x,hx,e⟩;exact hro x hx (by simpa using e)
      obtain⟨E,hE⟩:∃E,E=qcd out s.reps:=⟨_,rfl⟩
      refine qW ?_;change Awp _ _ _ _ _ _ _;refine awp_rseq [5,7,11,12] (by rfl) fun K hK=>?_;simp+decide only[ev,putD,Slots.put,Slots.get,if_true,if_false,true_and,↓qj,qf,↓qA,ql,fa91_1,↓qF,Qa,qw ag43,QU,ne_eq,not_false_eq_true,ne_14q13_0q0.symm,Qr w0 eb_0q0,List.getD_cons_zero,List.getD_cons_succ,Nat.zero_add,hrvl];refine QH (by rfl) (by rfl) (c_copyReplace w0 _ bv rv out s.reps (w3.mono (by repeat (first|exact Sub.refl _|assumption|refine Sub.set_both ?_ _ _|refine Sub.trans_set ?_ (by repeat (first|assumption|refine(AHeap.set_ne _ _ (by first|assumption|exact Ne.symm (by assumption))).trans ?_))))) (hrp.mono (by repeat (first|exact Sub.refl _|assumption|refine Sub.set_both ?_ _ _|refine Sub.trans_set ?_ (by repeat (first|assumption|refine(AHeap.set_ne _ _ (by first|assumption|exact Ne.symm (by assumption))).trans ?_))))) (by omega) hrl hrn) fun x19q3 h19q3 hx19q3=>?_;rw[<-hE]at hx19q3 hrE;obtain⟨ov,rfl,hor⟩:=hx19q3;have hor':=hor;obtain⟨tb,hov,o1,o2,o3⟩:=hor';have hovl:ov.live=true:=by rw[hov];cases tb<;>rfl
      have hs19:=(hor.toks (w0:=w0)).2.2;have hs_h19q3:Sub B h19q3:=Sub.trans (by repeat (first|exact Sub.refl _|assumption|refine Sub.trans_set ?_ (by assumption))) hs19;have hr_h19q3:Sub h14q9 h19q3:=Sub.trans (by repeat (first|exact Sub.refl _|assumption|refine Sub.trans_set ?_ (by assumption))) hs19;have eb_14q13:=hs19 k14q13 _ (by repeat (first|exact AHeap.set_same _ _ _|assumption|refine(AHeap.set_ne _ _ (by first|assumption|exact Ne.symm (by assumption))).trans ?_));have eb_x:=hs19 kx _ (by repeat (first|exact AHeap.set_same _ _ _|assumption|refine(AHeap.set_ne _ _ (by first|assumption|exact Ne.symm (by assumption))).trans ?_));have eb_m:=hs19 km _ (by repeat (first|exact AHeap.set_same _ _ _|assumption|refine(AHeap.set_ne _ _ (by first|assumption|exact Ne.symm (by assumption))).trans ?_));have eb_0q0:=hs19 k0q0 _ (by repeat (first|exact AHeap.set_same _ _ _|assumption|refine(AHeap.set_ne _ _ (by first|assumption|exact Ne.symm (by assumption))).trans ?_));have eb_0q2:=hs19 k0q2 _ (by repeat (first|exact AHeap.set_same _ _ _|assumption|refine(AHeap.set_ne _ _ (by first|assumption|exact Ne.symm (by assumption))).trans ?_));have eb_1q3:=hs19 k1q3 _ (by repeat (first|exact AHeap.set_same _ _ _|assumption|refine(AHeap.set_ne _ _ (by first|assumption|exact Ne.symm (by assumption))).trans ?_));simp+decide only[qa,ev,putD,Slots.put,Slots.get,Slots.keep,if_true,if_false,true_and,↓qj,qf,↓QJ,QC,QG,List.length_cons,List.length_nil,List.getD_cons_zero,List.getD_cons_succ,↓qd,qb,List.getD_cons_zero,List.getD_cons_succ,Nat.zero_add,Nat.reduceAdd];apply hK;clear hK K;refine qO ?_;refine awp_rseq [5,7,11,12,111] (by rfl) fun K hK=>?_;simp+decide only[qa,ev,qJ,qG,putD,Slots.put,Slots.get,Slots.keep,if_true,if_false,true_and,↓qj,qf,↓qB,qm,qD,cond_false,qz,qaB];apply hK;clear hK K;refine qK (b:=_) rfl (fun hb6=>?_) (fun hb6=>?_)
      ·try simp only[decide_eq_false_iff_not,Bool.not_eq_true']at hb6
       have hE3:65536<(qbN s.reps out).length:=by
        rcases Nat.lt_or_ge 65536 (qbN s.reps out).length with z|z
        ·exact z
        ·exfalso
         rw[if_neg (by omega)]at hrE;rw[hrE]at hb6;exact hb6 rfl
       rw[if_pos hE3]at hrE hX;have hE2:E.2=3:=by rw[hrE]
       refine awp_rseq [4,5] (by rfl) fun K hK=>?_;simp+decide only[ev,putD,Slots.put,Slots.get,if_true,if_false,true_and,↓qj,qf];refine qM (V:= .tuple [.nilSlice,QN ⟨E.2,s.name.line,s.name.col⟩]) (by rfl) (by rfl) (c_mem1 w0 _ k0q0 s.name rv hrvl E.2 (by rw[hsc];exact(by repeat (first|exact AHeap.set_same _ _ _|assumption|refine(AHeap.set_ne _ _ (by first|assumption|exact Ne.symm (by assumption))).trans ?_)))) ?_;simp+decide only[ev,putD,Slots.put,Slots.get,if_true,if_false,true_and,↓QJ,QC,QG,List.length_cons,List.length_nil,List.getD_cons_zero,List.getD_cons_succ,↓qd,qb,List.getD_cons_zero,List.getD_cons_succ,Nat.zero_add,Nat.reduceAdd,QN];refine qo (by rfl) (by rfl) (by repeat (first|exact AHeap.set_same _ _ _|assumption|refine(AHeap.set_ne _ _ (by first|assumption|exact Ne.symm (by assumption))).trans ?_)) QA (by rfl) (by rfl) (by first|exact Nat.le_refl _|decide|(simp;done)|(simp;omega)) (Nat.zero_le _) (by first|rfl|(simp+decide only[ev,putD,Slots.put,Slots.get,if_true,if_false,AVal.cells,Qz,Bool.and_true,Bool.true_and,hmvs,hrvs,XA,XF,Xn])) ?_;simp only[AVal.cells];simp+decide only[qa,ev,putD,Slots.get,Slots.keep,if_true,if_false,setAt,List.set_cons_zero,List.set_cons_succ,Nat.zero_add,Nat.reduceAdd];apply hK;clear hK K;refine qN ?_;try simp only[Qf]
       refine retD_del (by rfl) Tryz.underlying74 (by repeat (first|exact AHeap.set_same _ _ _|assumption|refine(AHeap.set_ne _ _ (by first|assumption|exact Ne.symm (by assumption))).trans ?_)) (by rfl) (qbn _ b4 es4 0 hnot4) ?_;refine QM (?_) ?_
       ·simp+decide only[Qy,qp,qi,Slots.get,if_true,if_false,and_true,qp,qi,qg Xf QA,qZ,qc,List.getD_cons_zero,List.getD_cons_succ,Nat.zero_add,Nat.reduceAdd,qh,allLive,Bool.and_true,QU,ne_eq,not_false_eq_true,ne_0q2_m,qc,List.getD_cons_zero,List.getD_cons_succ,Nat.zero_add,Nat.reduceAdd,qh,allLive,Bool.and_true]
       simp+decide only[Slots.get,if_true,if_false,QW,qp,qi,qg Xf QA,qZ,qc,List.getD_cons_zero,List.getD_cons_succ,Nat.zero_add,Nat.reduceAdd,qh,allLive,Bool.and_true,QU,ne_eq,not_false_eq_true,ne_0q2_m,qc,List.getD_cons_zero,List.getD_cons_succ,Nat.zero_add,Nat.reduceAdd,qh,allLive,Bool.and_true];rw[qcU,hE2];have hE19:=hE14.trans ((Sub.set hn_14q13).trans hs19);refine⟨_,Sub.refl _,none,st2, .nilSlice,⟨3,s.name.line,s.name.col⟩,trivial,⟨hfew2,c3,es4,nb3,heB3,hes4,?_⟩,rfl, .inl ⟨fun e=>absurd (congrArg FaultC.e e) (by simp[okF]),hX,rfl⟩⟩;change Sub (ZA B _ _ _ _ _ _ _) _;rw[<-heB3.set_m (c:=c3) (es:=es4++[(b4,nm)])];exact Sub.set_both (Sub.trans_set hE19 z0q2) _ _
      ·try simp only[decide_eq_true_eq,Bool.not_eq_false']at hb6
       have hE3:¬65536<(qbN s.reps out).length:=fun z=>by
        rw[if_pos z]at hrE;rw[hrE]at hb6;exact absurd hb6 (by decide)
       rw[if_neg hE3]at hrE hX;have hE1:E.1=qbN s.reps out:=by rw[hrE]
       refine qW ?_;change Awp _ _ _ _ _ _ _;refine awp_rseq [4,5] (by rfl) fun K hK=>?_;simp+decide only[ev,qJ,qG,putD,Slots.put,Slots.get,if_true,if_false,true_and,↓qj,qf,↓Qn,↓qU,Zk,evP,List.map_nil,↓qd,qb];refine qo (by rfl) (by rfl) (by repeat (first|exact AHeap.set_same _ _ _|assumption|refine(AHeap.set_ne _ _ (by first|assumption|exact Ne.symm (by assumption))).trans ?_)) QA (by rfl) (by rfl) (by first|exact Nat.le_refl _|decide|(simp;done)|(simp;omega)) (Nat.zero_le _) (by first|rfl|(simp+decide only[ev,putD,Slots.put,Slots.get,if_true,if_false,AVal.cells,Qz,Bool.and_true,Bool.true_and,hmvs,hrvs,XA,XF,Xn])) ?_;simp only[AVal.cells];simp+decide only[qa,ev,putD,Slots.get,Slots.keep,if_true,if_false,setAt,List.set_cons_zero,List.set_cons_succ,Nat.zero_add,Nat.reduceAdd];apply hK;clear hK K;refine qN ?_;refine retD_del (by rfl) Tryz.underlying74 (by repeat (first|exact AHeap.set_same _ _ _|assumption|refine(AHeap.set_ne _ _ (by first|assumption|exact Ne.symm (by assumption))).trans ?_)) (by rfl) (qbn _ b4 es4 0 hnot4) ?_;refine QM (?_) ?_
       ·simp+decide only[Qy,qp,qi,Slots.get,if_true,if_false,and_true,qp,qi,qg Xf QA,qZ,qc,List.getD_cons_zero,List.getD_cons_succ,Nat.zero_add,Nat.reduceAdd,qh,allLive,Bool.and_true,QU,ne_eq,not_false_eq_true,ne_0q2_m,qc,List.getD_cons_zero,List.getD_cons_succ,Nat.zero_add,Nat.reduceAdd,qh,allLive,Bool.and_true]
       simp+decide only[Slots.get,if_true,if_false,QW,qp,qi,qg Xf QA,qZ,qc,List.getD_cons_zero,List.getD_cons_succ,Nat.zero_add,Nat.reduceAdd,qh,allLive,Bool.and_true,QU,ne_eq,not_false_eq_true,ne_0q2_m,qc,List.getD_cons_zero,List.getD_cons_succ,Nat.zero_add,Nat.reduceAdd,qh,allLive,Bool.and_true];rw[qcU];have hE14':Sub (ZA B kx km (.slice lcm om qs.length cm) c3 (es4++[(b4,nm)]) nb3 st2.copies) (h14q9.set k14q13 ⟨[.int .i64 bf.e, .int .i64 bf.line, .int .i64 bf.col],0⟩):=Sub.trans_set hE14 (hE14.none hn_14q13);obtain⟨e1,e2⟩:=heB3.buf hE14' o1;have hE19:Sub (ZA (QS B tb) kx km (.slice lcm om qs.length cm) c3 (es4++[(b4,nm)]) nb3 st2.copies) h19q3:=by rw[e1,o3];exact Sub.bufBoth hE14'
       have z7:ZA (QS B tb) kx km (.slice lcm om qs.length cm) c3 (es4++[(b4,nm)]) nb3 st2.copies k0q2=none:=by rw[e1];exact bufH_off z0q2 ((AHeap.set_ne _ _ ne_14q13_0q2.symm).trans (hs2h _ _ (hsB2 _ _ b1_2))) o1
       have hob:bufOk B 5 tb:=o1.sub ((by repeat (first|exact Sub.refl _|assumption|refine Sub.set_both ?_ _ _|refine Sub.trans_set ?_ (by repeat (first|assumption|refine(AHeap.set_ne _ _ (by first|assumption|exact Ne.symm (by assumption))).trans ?_)))):Sub B (h14q9.set k14q13 ⟨[.int .i64 bf.e, .int .i64 bf.line, .int .i64 bf.col],0⟩));refine⟨_,Sub.refl _,tb,st2,ov,okF,hob,⟨hfew2,c3,es4,nb3,e2,hes4,?_⟩,rfl, .inr ⟨rfl,qbN s.reps out,hX,?_,by omega,w5,w6⟩⟩
       ·rw[<-e2.set_m (c:=c3) (es:=es4++[(b4,nm)])]
        exact Sub.set_both (Sub.trans_set hE19 z7) _ _
       ·rw[hov,<-hE1]
        exact(IsL.buf (hob.sub (qca _)) (by decide) o2 Ym (Sub.refl _)).clip
end Go.Proofs.YtlhhaagmakhilaaGreatDoor
namespace Go.Proofs.YtlhhaagmakhilaaGreatDoor
open Go.AM
open Go.Proofs
open Go.Col (Str FaultC okF)
open Go.Tok
open Go.Cop
open Go.RowKit (Below)
set_option maxRecDepth 100000
def qaD(h:AHeap):Option Buf->AHeap
 |none=>h
 |some b=>h.del b.blk
def WG(j:Nat):Option Buf->Prop
 |none=>True
 |some b=>j≠b.blk
theorem Uc{h:AHeap}{tb:Option Buf}{j:Nat}{c:Blk}(hj:h j=some c)(hn:WG j tb):qaD h tb j=some c:=by
 cases tb with
 |none=>exact hj
 |some b=>simp only[qaD,AHeap.del,show j≠b.blk from hn,if_false];exact hj
theorem YG{G:AHeap}{es j:Nat}{tb:Option Buf}{c:Blk}(hb:bufOk G es tb)(hj:G j=some c):WG j tb:=by
 cases tb with
 |none=>trivial
 |some b=>exact bufNe hb hj
theorem noBlk_new{h G:AHeap}{j:Nat}{tb:Option Buf}(hs:Sub (QS G tb) h)(hj:h j=none):WG j tb:=by
 cases tb with
 |none=>trivial
 |some b=>
  intro e;have:=hs b.blk _ (AHeap.set_same _ _ _);rw[<-e,hj]at this;cases this
theorem qch{A h:AHeap}{es:Nat}{tb:Option Buf}(hs:Sub A h)(hb:bufOk A es tb):Sub A (qaD h tb):=fun j c hj=>Uc (hs j c hj) (YG hb hj)
theorem offB_le(h:AHeap)(tb:Option Buf):Sub (qaD h tb) h:=by
 cases tb with
 |none=>exact Sub.refl _
 |some b=>
  intro j c hj;by_cases e:j=b.blk
  ·subst e;simp[qaD,AHeap.del]at hj
  ·simpa[qaD,AHeap.del,e]using hj
def UV(h:AHeap)(kx km:Nat)(nb:Option Buf):AHeap:=qaD ((h.del kx).del km) nb
theorem base_at{h:AHeap}{kx km:Nat}{nb:Option Buf}{j:Nat}{c:Blk}(hj:h j=some c)(hx:j≠kx)(hm:j≠km)(hn:WG j nb):UV h kx km nb j=some c:=Uc (by simp only[AHeap.del,hx,hm,if_false];exact hj) hn
section
variable {B h:AHeap} {kx km:Nat} {mv:AVal} {c cp:Nat} {es:List (Nat×Str)} {nb:Option Buf} {ns:List Str}
theorem base_ok(he:ExOk B kx km nb ns):ExOk (UV h kx km nb) kx km nb ns:=by
 have hk:∀j,(j=kx\/j=km)->UV h kx km nb j=none:=fun j hj=>by
  have:((h.del kx).del km) j=none:=by
   rcases hj with rfl|rfl
   ·by_cases e:j=km<;>simp[AHeap.del,e]
   ·simp[AHeap.del]
  cases hb:UV h kx km nb j with
  |none=>rfl
  |some d=>
   have:=offB_le _ _ j d hb;rw[‹((h.del kx).del km) j=none›]at this;cases this
 refine⟨hk km (.inr rfl),hk kx (.inl rfl),he.ne,fun M=>⟨(AHeap.set_ne _ _ he.ne.symm).trans (hk kx (.inl rfl)),fun X=>?_,(he.use M).eq⟩⟩;have h1:=(he.use M).ok X;cases nb with
 |none=>trivial
 |some b=>
  refine⟨?_,h1.2⟩;have h2:((B.set km M).set kx X) b.blk=none:=h1.1;have e1:b.blk≠kx:=fun e=>by rw[e,AHeap.set_same]at h2;cases h2
  rw[AHeap.set_ne _ _ e1]at h2;have e2:b.blk≠km:=fun e=>by rw[e,AHeap.set_same]at h2;cases h2
  refine(AHeap.set_ne _ _ e1).trans ((AHeap.set_ne _ _ e2).trans ?_);simp[UV,qaD,AHeap.del]
theorem qdH(he:ExOk B kx km nb ns){j:Nat}{d:Blk}(hj:B j=some d):j≠kx/\j≠km/\WG j nb:=by
 refine⟨(fun e=>by rw[e,he.bx]at hj;cases hj),(fun e=>by rw[e,he.bm]at hj;cases hj),?_⟩;have hne:j≠km:=fun e=>by rw[e,he.bm]at hj;cases hj
 have hnx:j≠kx:=fun e=>by rw[e,he.bx]at hj;cases hj
 exact YG ((he.use ⟨[],0⟩).ok ⟨[],0⟩) ((AHeap.set_ne _ _ hnx).trans ((AHeap.set_ne _ _ hne).trans hj))
theorem qdG(he:ExOk B kx km nb ns)(hs:Sub (ZA B kx km mv c es nb cp) h){j:Nat}(hj:h j=none):j≠kx/\j≠km/\WG j nb:=by
 refine⟨fun e=>?_,fun e=>?_,noBlk_new hs hj⟩
 ·have:=hs _ _ (he.x (mv:=mv) (c:=c) (es:=es) (cp:=cp))
  rw[<-e,hj]at this;cases this
 ·have:=hs _ _ (he.m (mv:=mv) (c:=c) (es:=es) (cp:=cp))
  rw[<-e,hj]at this;cases this
theorem base_above(he:ExOk B kx km nb ns){B':AHeap}(hb:∀j d,B' j=some d->j≠kx/\j≠km/\WG j nb)(hs:Sub B' h):Sub B' (UV h kx km nb):=fun j d hj=>by
 obtain⟨h1,h2,h3⟩:=hb j d hj;exact base_at (hs j d hj) h1 h2 h3
theorem base_sub(he:ExOk B kx km nb ns)(hs:Sub (ZA B kx km mv c es nb cp) h):Sub (ZA (UV h kx km nb) kx km mv c es nb cp) h:=by
 have hx:=hs _ _ (he.x (mv:=mv) (c:=c) (es:=es) (cp:=cp));have hm:=hs _ _ (he.m (mv:=mv) (c:=c) (es:=es) (cp:=cp));have hn:∀b,nb=some b->h b.blk=some ⟨b.cells,0⟩:=fun b e=>by
  subst e;exact hs _ _ (AHeap.set_same _ _ _)
 have hle:Sub (UV h kx km nb) h:=(offB_le _ _).trans fun j d hj=>by
  by_cases e1:j=km
  ·subst e1;simp[AHeap.del]at hj
  ·by_cases e2:j=kx
   ·subst e2;simp[AHeap.del]at hj
   ·simpa[AHeap.del,e1,e2]using hj
 have hG:Sub (((UV h kx km nb).set km (Xv c (es.map opC))).set kx ⟨[mv, .map km,QO 1 nb, .int .i64 cp],0⟩) h:=fun j d hj=>by
  by_cases e2:j=kx
  ·subst e2
   rw[AHeap.set_same]at hj;rw[<-hj];exact hx
  ·rw[AHeap.set_ne _ _ e2]at hj
   by_cases e1:j=km
   ·subst e1
    rw[AHeap.set_same]at hj;rw[<-hj];exact hm
   ·rw[AHeap.set_ne _ _ e1]at hj
    exact hle j d hj
 unfold ZA UH;cases nb with
 |none=>exact hG
 |some b=>
  intro j d hj;by_cases e:j=b.blk
  ·subst e
   rw[show QS (((UV h kx km (some b)).set km (Xv c (es.map opC))).set kx ⟨[mv, .map km,QO 1 (some b), .int .i64 cp],0⟩) (some b)=(((UV h kx km (some b)).set km (Xv c (es.map opC))).set kx ⟨[mv, .map km,QO 1 (some b), .int .i64 cp],0⟩).set b.blk ⟨b.cells,0⟩from rfl,AHeap.set_same]at hj;rw[<-hj];exact hn b rfl
  ·rw[show QS (((UV h kx km (some b)).set km (Xv c (es.map opC))).set kx ⟨[mv, .map km,QO 1 (some b), .int .i64 cp],0⟩) (some b)=(((UV h kx km (some b)).set km (Xv c (es.map opC))).set kx ⟨[mv, .map km,QO 1 (some b), .int .i64 cp],0⟩).set b.blk ⟨b.cells,0⟩from rfl,AHeap.set_ne _ _ e]at hj
   exact hG j d hj
end
section
variable {lim:Bool} {mem:List MemC} {op:List Str} {rec:List TokC->List Str->Xs->Xr} {l:List TokC}
theorem listGo_fuel:∀(f g i:Nat) (out:List TokC) (st:Xs),i<=l.length->l.length<f+i->l.length<g+i->qbo lim mem op rec l f i out st=qbo lim mem op rec l g i out st
 |0,g,i,out,st,hi,h1,_=>by omega
 |f+1,0,i,out,st,hi,_,h2=>by omega
 |f+1,g+1,i,out,st,hi,h1,h2=>by
  rw[qbo,qbo];simp only;split
  ·rfl
  ·rename_i hc
   have hcl:=qaZ hi;obtain⟨s1,s2,s3,s4⟩:=Wp (l:=l) (i:=Xo l i+1) (by omega);split
   ·rfl
   ·rename_i hok
    have h3:=s3 (by simpa using hok);cases qaK lim mem op rec (QT l (Xo l i+1)) st with
    |bad f'=>rfl
    |ok inner st'=>
     simp only;split
     ·rfl
     ·exact listGo_fuel f g _ _ _ s2 (by omega) (by omega)
def listR(lim:Bool)(mem:List MemC)(op:List Str)(rec:List TokC->List Str->Xs->Xr)(l:List TokC)(i:Nat)(out:List TokC)(st:Xs):Xr:=qbo lim mem op rec l (l.length+1-i) i out st
theorem listR_step{i:Nat}(hi:i<=l.length)(out:List TokC)(st:Xs):listR lim mem op rec l i out st=
 if l.length<=Xo l i then .ok (out++l.drop i) st
 else if (QT l (Xo l i+1)).ok=false then .bad (qaN l (Xo l i) (QT l (Xo l i+1)).at_)
 else match qaK lim mem op rec (QT l (Xo l i+1)) st with
  | .bad f=> .bad f
  | .ok inner st'=>if qcy lim (out++qbU l i (Xo l i)++inner)=true then .bad ⟨3,(QT l (Xo l i+1)).name.line,(QT l (Xo l i+1)).name.col⟩else listR lim mem op rec l (QT l (Xo l i+1)).at_ (out++qbU l i (Xo l i)++inner) st':=by
 unfold listR;rw[show l.length+1-i=(l.length-i)+1 by omega,qbo];simp only;split
 ·rfl
 ·rename_i hc
  have hcl:=qaZ hi;obtain⟨s1,s2,s3,s4⟩:=Wp (l:=l) (i:=Xo l i+1) (by omega);split
  ·rfl
  ·rename_i hok
   have h3:=s3 (by simpa using hok);cases qaK lim mem op rec (QT l (Xo l i+1)) st with
   |bad f'=>rfl
   |ok inner st'=>
    simp only;split
    ·rfl
    ·exact listGo_fuel _ _ _ _ _ s2 (by omega) (by omega)
end
end Go.Proofs.YtlhhaagmakhilaaGreatDoor
namespace Go.Proofs.YtlhhaagmakhilaaGreatDoor
open Go.AM
open Go.Proofs
open Go.Col (Str FaultC okF)
open Go.Tok
open Go.Cop
open Go.RowKit (Below)
set_option maxRecDepth 100000
theorem bufOk_same{H H':AHeap}{es:Nat}{b:Option Buf}(hb:bufOk H es b)(hn:∀j,H j=none->H' j=none):bufOk H' es b:=by
 cases b with
 |none=>trivial
 |some b=>exact⟨hn _ hb.1,hb.2⟩
theorem bufOk_at{H H':AHeap}{es:Nat}{b:Option Buf}(hb:bufOk H es b)(hn:∀b',b=some b'->H' b'.blk=none):bufOk H' es b:=by
 cases b with
 |none=>trivial
 |some b=>exact⟨hn _ rfl,hb.2⟩
theorem YM{B B':AHeap}(hn:∀j,B j=none->B' j=none)(k:Nat)(c:Blk):∀j,B.set k c j=none->B'.set k c j=none:=fun j hj=>by
 by_cases e:j=k
 ·subst e;rw[AHeap.set_same]at hj;cases hj
 ·rw[AHeap.set_ne _ _ e]at hj|-
  exact hn j hj
theorem ExOk.same{B B':AHeap}{kx km:Nat}{nb:Option Buf}{ns:List Str}(he:ExOk B kx km nb ns)(hn:∀j,B j=none->B' j=none):ExOk B' kx km nb ns:=
 ⟨hn _ he.bm,hn _ he.bx,he.ne,fun M=>⟨YM hn km M _ (he.use M).bx,fun X=>bufOk_same ((he.use M).ok X) (YM (YM hn km M) kx X),(he.use M).eq⟩⟩
theorem expH_same{B B':AHeap}{kx km:Nat}{mv:AVal}{c cp:Nat}{es:List (Nat×Str)}{nb:Option Buf}(hn:∀j,B j=none->B' j=none):∀j,ZA B kx km mv c es nb cp j=none->ZA B' kx km mv c es nb cp j=none:=by
 have h1:=YM (YM hn km (Xv c (es.map opC))) kx ⟨[mv, .map km,QO 1 nb, .int .i64 cp],0⟩;unfold ZA UH;cases nb with
 |none=>exact h1
 |some b=>exact YM h1 b.blk ⟨b.cells,0⟩
theorem swap_none{A:AHeap}{k:Nat}(X Y:Blk):∀j,A.set k X j=none->A.set k Y j=none:=fun j hj=>by
 by_cases e:j=k
 ·subst e;rw[AHeap.set_same]at hj;cases hj
 ·rw[AHeap.set_ne _ _ e]at hj|-
  exact hj
theorem qaf{A B:AHeap}{k:Nat}{c:Blk}(hs:Sub A B)(hk:B k=some c):Sub (A.set k c) B:=fun j d hj=>by
 by_cases e:j=k
 ·subst e;rw[AHeap.set_same]at hj;rw[<-hj];exact hk
 ·rw[AHeap.set_ne _ _ e]at hj;exact hs j d hj
def hasB(h:AHeap)(tb:Option Buf):Prop:=∀b,tb=some b->h b.blk=some ⟨b.cells,0⟩
theorem hasB.mono{h h':AHeap}{tb:Option Buf}(hh:hasB h tb)(hs:Sub h h'):hasB h' tb:=fun b e=>hs _ _ (hh b e)
theorem hasB_buf(H:AHeap)(tb:Option Buf):hasB (QS H tb) tb:=fun b e=>by subst e;exact AHeap.set_same _ _ _
theorem hasB.set{h:AHeap}{tb:Option Buf}{j:Nat}(hh:hasB h tb)(hn:WG j tb)(c:Blk):hasB (h.set j c) tb:=fun b e=>by
 subst e;rw[AHeap.set_ne _ _ (Ne.symm hn)];exact hh b rfl
theorem noBlk_has{h:AHeap}{tb:Option Buf}{j:Nat}(hh:hasB h tb)(hj:h j=none):WG j tb:=by
 cases tb with
 |none=>trivial
 |some b=>
  intro e;have:=hh b rfl;rw[<-e,hj]at this;cases this
theorem offB_has{G h:AHeap}{es:Nat}{tb:Option Buf}(hb:bufOk G es tb)(hh:hasB h tb):bufOk (qaD h tb) es tb/\Sub (QS (qaD h tb) tb) h:=by
 cases tb with
 |none=>exact⟨trivial,Sub.refl _⟩
 |some b=>
  refine⟨⟨by simp[qaD,AHeap.del],hb.2⟩,fun j c hj=>?_⟩;have h1:=hh b rfl;by_cases e:j=b.blk
  ·subst e
   rw[show QS (qaD h (some b)) (some b)=(qaD h (some b)).set b.blk ⟨b.cells,0⟩from rfl,AHeap.set_same]at hj;rw[<-hj];exact h1
  ·rw[show QS (qaD h (some b)) (some b)=(qaD h (some b)).set b.blk ⟨b.cells,0⟩from rfl,AHeap.set_ne _ _ e]at hj
   simpa[qaD,AHeap.del,e]using hj
theorem bufOk_newE{B H E:AHeap}{es:Nat}{tb:Option Buf}(hb:bufOk B es tb)(hE:NewE B H E)(hh:hasB H tb):bufOk E es tb:=by
 cases tb with
 |none=>trivial
 |some b=>exact⟨hE.none (hh b rfl) hb.1,hb.2⟩
theorem ExOk.newE{B H E:AHeap}{kx km:Nat}{mv:AVal}{c cp:Nat}{es:List (Nat×Str)}{nb:Option Buf}{ns:List Str}(he:ExOk B kx km nb ns)(hE:NewE B H E)(hs:Sub (ZA B kx km mv c es nb cp) H):ExOk E kx km nb ns:=by
 have e1:E km=none:=hE.none (hs _ _ he.m) he.bm;have e2:E kx=none:=hE.none (hs _ _ he.x) he.bx;refine⟨e1,e2,he.ne,fun M=>⟨(AHeap.set_ne _ _ he.ne.symm).trans e2,fun X=>?_,(he.use M).eq⟩⟩;refine bufOk_at ((he.use M).ok X) fun b hb=>?_;subst hb;have h2:((B.set km M).set kx X) b.blk=none:=((he.use M).ok X).1;have q1:b.blk≠kx:=fun e=>by rw[e,AHeap.set_same]at h2;cases h2
 rw[AHeap.set_ne _ _ q1]at h2;have q2:b.blk≠km:=fun e=>by rw[e,AHeap.set_same]at h2;cases h2
 rw[AHeap.set_ne _ _ q2]at h2;exact(AHeap.set_ne _ _ q1).trans ((AHeap.set_ne _ _ q2).trans (hE.none (hs b.blk _ (AHeap.set_same _ _ _)) h2))
structure LsG where
 i:Nat
 c:Nat
 es:List (Nat×Str)
 nb:Option Buf
 st:Xs
 tb:Option Buf
 out:List TokC
structure LsOk(B:AHeap)(kx km k0 k1:Nat)(mv:AVal)(op:List Str)(l:List TokC)(R:Nat->List TokC->Xs->Xr)(X:Xr)(s:LsG):Prop where
 i:s.i<=l.length
 ex:∀Y,ExOk ((B.set k0 ⟨[.int .i64 0, .int .i64 0, .int .i64 0],0⟩).set k1 Y) kx km s.nb s.st.names
 op:s.es.map (·.2)=op
 ok:∀Y,bufOk (ZA ((B.set k0 ⟨[.int .i64 0, .int .i64 0, .int .i64 0],0⟩).set k1 Y) kx km mv s.c s.es s.nb s.st.copies) 5 s.tb
 eq:Uf s.tb=(s.out.map Xw).flatten
 len:s.out.length<=65536
 nm:s.st.names.length<=s.st.copies
 cp:s.st.copies<=4096
 go:R s.i s.out s.st=X
end Go.Proofs.YtlhhaagmakhilaaGreatDoor
namespace Go.Proofs.YtlhhaagmakhilaaGreatDoor
open Go.AM
open Go.Proofs
open Go.Col (Str FaultC okF)
open Go.Tok
open Go.Cop
open Go.RowKit (Below)
set_option maxRecDepth 100000
set_option maxHeartbeats 4000000 in
theorem c_listS(w0:World)(h B:AHeap)(kx km:Nat)(mv:AVal)(mems:List MemC)(op:List Str)(st:Xs)(v:AVal)(l:List TokC)(rec:List TokC->List Str->Xs->Xr)(hx:ExpR B kx km mv op st h)(hms:IsMems w0 B mv mems)(hml:mems.length<=1000000)(hmt:∀m∈mems,m.toks.length<=100000)
 (hv:IsL w0 B 5 v (l.map Xw)) (hl:l.length<=100000) (hst:st.names.length<=st.copies) (hst2:st.copies<=4096) (hop8:op.length<=8)
 (hrec:op.length<8->∀nm,RecOk w0 kx km mv mems (op++[nm]) rec):
 ACall Tryz.prog w0 32 [.ptr (.own kx) 0,v] h (ListR w0 B kx km mv op (qbo true mems op rec l (l.length+1) 0 [] st)):=by
 obtain⟨hfew,c,es,nb,he,hes,hsh⟩:=hx;have hmvs:mv.scal=true:=by obtain⟨qs,-,q2,-⟩:=hms;exact q2.scal
 have hmvl:=ZW hmvs;have hlv:=hv.live;have hvs:=hv.scal;have hSv:Sc v=True:=eq_true (isL_Sc hv);have nv:=Zy hv;refine ACall.down hsh ?_;obtain⟨X,hX⟩:∃X,X=qbo true mems op rec l (l.length+1) 0 [] st:=⟨_,rfl⟩
 have hX0:listR true mems op rec l 0 [] st=X:=hX.symm;rw[<-hX];obtain⟨H,hH⟩:∃H,H=ZA B kx km mv c es nb st.copies:=⟨_,rfl⟩
 have hs_H:Sub B H:=by rw[hH];exact he.above
 have eb_x:H kx=some ⟨[mv, .map km,QO 1 nb, .int .i64 st.copies],0⟩:=by rw[hH];exact he.x
 have eb_m:H km=some (Xv c (es.map opC)):=by rw[hH];exact he.m
 have ne_x_m:kx≠km:=he.ne.symm;have hrvs:(AVal.bool true).scal=true:=rfl;have hrvl:(AVal.bool true).live=true:=rfl;have hbvl:(AVal.bool true).live=true:=rfl;have hbl:=Xj 5 none;have hbn:=Xj 1 nb;rw[<-hH];refine qR (n:=52) (rs:=[.tmp 4, .cell 5 35]) Tryz.func32 rfl rfl rfl rfl (Nat.le_of_ble_eq_true rfl) ?_;simp only[Qd];refine awp_rseq [0,1,5] (by rfl) fun K hK=>?_;simp+decide only[ev,qJ,qG,putD,Slots.put,if_false,true_and,↓qd,qb,Nat.zero_add];refine Qg qas (cs:=[.int .i64 0, .int .i64 0, .int .i64 0]) (by rfl) fun k0q1 hk0q1=>?_;have hn_0q1:H k0q1=none:=by first|assumption|(simp only[AHeap.set_none]at hk0q1;simp only[hk0q1])
 have hf_0q1:B k0q1=none:=Sub.none hs_H hn_0q1;have ne_0q1_x:k0q1≠kx:=AHeap.ne_some hn_0q1 eb_x;have ne_0q1_m:k0q1≠km:=AHeap.ne_some hn_0q1 eb_m;simp+decide only[qa,putD,Slots.put,Slots.keep,if_true,if_false];apply hK;clear hK K;refine awp_rseq [0,5,6] (by rfl) fun K hK=>?_;simp+decide only[ev,qJ,qG,putD,Slots.put,Slots.get,if_true,if_false,true_and,↓qj,qf,↓Qn,↓qU,bld89_0,evP,List.map_cons,List.map_nil,hSv];refine Qg ze89 (cs:=[.nilSlice, .int .i64 0]) (by rfl) fun k1q2 hk1q2=>?_;have ne_1q2_0q1:k1q2≠k0q1:=by simp only[AHeap.set_none]at hk1q2;simp only[hk1q2,ne_eq,not_false_eq_true]
 have hn_1q2:H k1q2=none:=by first|assumption|(simp only[AHeap.set_none]at hk1q2;simp only[hk1q2])
 have hf_1q2:B k1q2=none:=Sub.none hs_H hn_1q2;have ne_1q2_x:k1q2≠kx:=AHeap.ne_some hn_1q2 eb_x;have ne_1q2_m:k1q2≠km:=AHeap.ne_some hn_1q2 eb_m;refine qo (by rfl) (by rfl) (by repeat (first|exact AHeap.set_same _ _ _|assumption|refine(AHeap.set_ne _ _ (by first|assumption|exact Ne.symm (by assumption))).trans ?_)) sz89 (by rfl) (by rfl) (by first|exact Nat.le_refl _|decide|(simp;done)|(simp;omega)) (Nat.zero_le _) (by first|rfl|(simp+decide only[ev,putD,Slots.put,Slots.get,if_true,if_false,AVal.cells,Qz,Bool.and_true,hvs,XA])) ?_;simp only[AHeap.set_set,AVal.cells];simp+decide only[qa,ev,putD,Slots.put,Slots.get,Slots.keep,if_true,if_false,setAt,List.set_cons_zero,List.set_cons_succ,Nat.zero_add];apply hK;clear hK K;obtain⟨y1,y2⟩:=he.lay (mv:=mv) (c:=c) (es:=es) (cp:=st.copies) (j:=k0q1) (by rw[<-hH];exact hn_0q1) ⟨[.int .i64 0, .int .i64 0, .int .i64 0],0⟩;obtain⟨y3,y4⟩:=y2.lay (mv:=mv) (c:=c) (es:=es) (cp:=st.copies) (j:=k1q2) (by rw[<-y1,<-hH];exact(AHeap.set_ne _ _ ne_1q2_0q1).trans hn_1q2) ⟨[v, .int .i64 0],0⟩;refine awp_rseq [0,5,6,7] (by rfl) fun K hK=>?_;simp+decide only[qa,ev,qJ,qG,putD,Slots.put,Slots.keep,if_true,if_false,true_and,↓qd,qb];apply hK;clear hK K;refine Qv ?_;refine XE [0,5,6,7] (fun s:LsG=>[(0, .ptr (.own kx) 0),(5, .ptr (.own k0q1) 0),(6, .ptr (.own k1q2) 0),(7,QO 5 s.tb)]) (fun s:LsG=>QS (ZA ((B.set k0q1 ⟨[.int .i64 0, .int .i64 0, .int .i64 0],0⟩).set k1q2 ⟨[v, .int .i64 s.i],0⟩) kx km mv s.c s.es s.nb s.st.copies) s.tb) (fun s:LsG=>LsOk B kx km k0q1 k1q2 mv op l (listR true mems op rec l) X s) (fun s:LsG=>l.length-s.i) ⟨0,c,es,nb,st,none,[]⟩ (by rfl) (by(show Sub (ZA _ _ _ _ _ _ _ _) _);rw[show((((0:Nat):Int)))=(0:Int)from rfl,<-y3,<-y1,<-hH];exact Sub.refl _) ⟨Nat.zero_le _,fun Y=>y4.same (swap_none _ _),hes,fun Y=>trivial,rfl,Nat.zero_le _,hst,hst2,hX0⟩ ?_;rintro⟨i,c,es,nb,st,tb,out⟩ ⟨g1,g2,g3,g4,g5,g6,g7,g8,g9⟩;simp only at g1 g2 g3 g4 g5 g6 g7 g8 g9|-
 have g2i:=g2 ⟨[v, .int .i64 i],0⟩;have g4i:=g4 ⟨[v, .int .i64 i],0⟩;obtain⟨G,hG⟩:∃G,G=(B.set k0q1 ⟨[.int .i64 0, .int .i64 0, .int .i64 0],0⟩).set k1q2 ⟨[v, .int .i64 i],0⟩:=⟨_,rfl⟩
 rw[<-hG]at g2i g4i|-
 have hBG:Sub B G:=by rw[hG];exact(by repeat (first|exact Sub.refl _|assumption|refine Sub.set_both ?_ _ _|refine Sub.trans_set ?_ (by repeat (first|assumption|refine(AHeap.set_ne _ _ (by first|assumption|exact Ne.symm (by assumption))).trans ?_))))
 have gb_0:G k0q1=some ⟨[.int .i64 0, .int .i64 0, .int .i64 0],0⟩:=by rw[hG];exact(by repeat (first|exact AHeap.set_same _ _ _|assumption|refine(AHeap.set_ne _ _ (by first|assumption|exact Ne.symm (by assumption))).trans ?_))
 have gb_1:G k1q2=some ⟨[v, .int .i64 i],0⟩:=by rw[hG];exact AHeap.set_same _ _ _
 obtain⟨H1,hH1⟩:∃H1,H1=QS (ZA G kx km mv c es nb st.copies) tb:=⟨_,rfl⟩
 have hbuf:Sub (ZA G kx km mv c es nb st.copies) H1:=by rw[hH1];exact Sub.buf g4i
 have hs_H1:Sub B H1:=(hBG.trans g2i.above).trans hbuf;have eb_x:H1 kx=some ⟨[mv, .map km,QO 1 nb, .int .i64 st.copies],0⟩:=hbuf _ _ g2i.x;have eb_m:H1 km=some (Xv c (es.map opC)):=hbuf _ _ g2i.m;have eb_0q1:H1 k0q1=some ⟨[.int .i64 0, .int .i64 0, .int .i64 0],0⟩:=hbuf _ _ (g2i.above _ _ gb_0);have eb_1q2:H1 k1q2=some ⟨[v, .int .i64 i],0⟩:=hbuf _ _ (g2i.above _ _ gb_1);have has1:hasB H1 tb:=by rw[hH1];exact hasB_buf _ _
 have heB:ExOk B kx km nb st.names:=g2i.down hBG;have hokB:bufOk (ZA B kx km mv c es nb st.copies) 5 tb:=g4i.sub (qck hBG);have hokB0:bufOk B 5 tb:=hokB.sub heB.above;have hEB1:Sub (ZA B kx km mv c es nb st.copies) H1:=(qck hBG).trans hbuf;have zB0:ZA B kx km mv c es nb st.copies k0q1=none:=g2i.off gb_0 hf_0q1;have zB1:ZA B kx km mv c es nb st.copies k1q2=none:=g2i.off gb_1 hf_1q2;have hbl:=Xj 5 tb;have hbn:=Xj 1 nb;have hstp:=listR_step (lim:=true) (mem:=mems) (op:=op) (rec:=rec) g1 out st;rw[g9]at hstp;rw[<-hH1];refine Qv ?_;refine awp_rseq [0,5,6,7,8,9,10,11] (by rfl) fun K hK=>?_;refine QH (by rfl) (by rfl) (c_nextP w0 H1 B k1q2 v l i eb_1q2 hs_H1 hf_1q2 hv (by omega) g1) fun x3q0 h3q0 hx3q0=>?_;obtain⟨hsub3,j,eb_1q2,hj,hcase⟩:=hx3q0;have hcl:=qaZ g1;have hstm:Xo l i<l.length->_:=fun hc=>Wp (l:=l) (i:=Xo l i+1) (by omega);have hrps:=statement_reps l (Xo l i+1);obtain⟨ci,hci⟩:∃ci,ci=Xo l i:=⟨_,rfl⟩
 rw[<-hci]at hcase hcl hstm hrps hstp;obtain⟨sm,hsm⟩:∃sm,sm=QT l (ci+1):=⟨_,rfl⟩
 rw[<-hsm]at hcase hstm hrps hstp;obtain⟨bv,t,rv,more,f,E,rfl,hbvl,hrvs,hE3,hE3s,hcase⟩:∃bv t rv more f E,x3q0=nextV bv t rv more f/\bv.live=true/\rv.scal=true/\NewE B H1 E/\Sub E h3q0/\
  ((f≠okF/\X= .bad f)\/(f=okF/\more=false/\X= .ok (out++l.drop i) st/\IsL w0 B 5 bv ((l.drop i).map Xw))\/
   (f=okF/\more=true/\ci<l.length/\sm.ok=true/\t=sm.name/\j=sm.at_/\IsL w0 B 5 bv ((qbU l i ci).map Xw)/\IsReps w0 E rv sm.reps)):=by
  have hle:Sub B (H1.del k1q2):=qaJ hs_H1 hf_1q2;rcases hcase with⟨z1,bv,rfl,z2⟩|⟨z1,z2,rfl⟩|⟨z1,z2,z3,bv,rv,E,rfl,z4,z5,z6,z7⟩
  ·rw[if_pos z1]at hstp
   exact⟨bv,_,_,_,_,B,rfl,z2.live,rfl,NewE.refl _ _,hle.trans hsub3, .inr (.inl ⟨rfl,rfl,hstp,z2⟩)⟩
  ·rw[if_neg (by omega),if_pos z2]at hstp
   exact⟨.nilSlice,_,_,_,_,B,rfl,rfl,rfl,NewE.refl _ _,hle.trans hsub3, .inl ⟨faultAt_ne _ _ _,hstp⟩⟩
  ·exact⟨bv,_,rv,_,_,E,rfl,z4.live,(by obtain⟨qs,-,q2,-⟩:=z7;exact q2.scal),z5,z6, .inr (.inr ⟨rfl,rfl,z1,z2,rfl,z3,z4,z7⟩)⟩
 have hrvl:=ZW hrvs;have hd:∀k d,H1 k=some d->k≠k1q2->h3q0 k=some d:=fun k d hk hn=>hsub3 k d (by simp only[AHeap.del,hn,if_false];exact hk);have eb_x:h3q0 kx=some ⟨[mv, .map km,QO 1 nb, .int .i64 st.copies],0⟩:=hd _ _ eb_x ne_1q2_x.symm;have eb_m:h3q0 km=some (Xv c (es.map opC)):=hd _ _ eb_m ne_1q2_m.symm;have eb_0q1:h3q0 k0q1=some ⟨[.int .i64 0, .int .i64 0, .int .i64 0],0⟩:=hd _ _ eb_0q1 ne_1q2_0q1.symm;have hs_h3q0:Sub B h3q0:=(qaJ hs_H1 hf_1q2).trans hsub3;have hEB3:Sub (ZA B kx km mv c es nb st.copies) h3q0:=(qaJ hEB1 zB1).trans hsub3;have has3:hasB h3q0 tb:=fun b e=>hd _ _ (has1 b e) (by subst e;exact Ne.symm (bufNe g4i (g2i.above _ _ gb_1)));unfold nextV stmC;simp+decide only[ev,putD,Slots.put,Slots.get,if_true,if_false,true_and,↓qj,qf,↓QJ,QC,QG,List.length_cons,List.length_nil,List.getD_cons_zero,List.getD_cons_succ,List.getD_cons_zero,List.getD_cons_succ,Nat.zero_add,Nat.reduceAdd,QN];refine Qg ze91 (cs:=[.int .u8 0, .str [], .int .i64 0, .int .i64 0, .bool false, .nilSlice]) (by rfl) fun k3q6 hk3q6=>?_;have hn_3q6:h3q0 k3q6=none:=by first|assumption|(simp only[AHeap.set_none]at hk3q6;simp only[hk3q6])
 have hf_3q6:B k3q6=none:=Sub.none hs_h3q0 hn_3q6;have ne_3q6_x:k3q6≠kx:=AHeap.ne_some hn_3q6 eb_x;have ne_3q6_m:k3q6≠km:=AHeap.ne_some hn_3q6 eb_m;have ne_3q6_0q1:k3q6≠k0q1:=AHeap.ne_some hn_3q6 eb_0q1;have ne_3q6_1q2:k3q6≠k1q2:=AHeap.ne_some hn_3q6 eb_1q2;refine Qg qas (cs:=[.int .i64 0, .int .i64 0, .int .i64 0]) (by rfl) fun k3q7 hk3q7=>?_;have ne_3q7_3q6:k3q7≠k3q6:=by simp only[AHeap.set_none]at hk3q7;simp only[hk3q7,ne_eq,not_false_eq_true]
 have hn_3q7:h3q0 k3q7=none:=by first|assumption|(simp only[AHeap.set_none]at hk3q7;simp only[hk3q7])
 have hf_3q7:B k3q7=none:=Sub.none hs_h3q0 hn_3q7;have ne_3q7_x:k3q7≠kx:=AHeap.ne_some hn_3q7 eb_x;have ne_3q7_m:k3q7≠km:=AHeap.ne_some hn_3q7 eb_m;have ne_3q7_0q1:k3q7≠k0q1:=AHeap.ne_some hn_3q7 eb_0q1;have ne_3q7_1q2:k3q7≠k1q2:=AHeap.ne_some hn_3q7 eb_1q2;simp+decide only[ev,putD,Slots.put,Slots.get,if_true,if_false,true_and,↓qd,qb];refine qo (by rfl) (by rfl) (by repeat (first|exact AHeap.set_same _ _ _|assumption|refine(AHeap.set_ne _ _ (by first|assumption|exact Ne.symm (by assumption))).trans ?_)) Uw (by rfl) (by rfl) (by first|exact Nat.le_refl _|decide|(simp;done)|(simp;omega)) (Nat.zero_le _) (by first|rfl|(simp+decide only[ev,Slots.get,if_true,if_false,AVal.cells,Qz,Bool.and_true,hrvs,XA,XF,Xn])) ?_;simp only[AVal.cells];simp+decide only[ev,putD,Slots.put,Slots.get,if_true,if_false,true_and,↓qd,qb,setAt,List.set_cons_zero,List.set_cons_succ,Nat.zero_add,Nat.reduceAdd];refine qo (by rfl) (by rfl) (by repeat (first|exact AHeap.set_same _ _ _|assumption|refine(AHeap.set_ne _ _ (by first|assumption|exact Ne.symm (by assumption))).trans ?_)) QA (by rfl) (by rfl) (by first|exact Nat.le_refl _|decide|(simp;done)|(simp;omega)) (Nat.zero_le _) (by first|rfl|(simp+decide only[ev,putD,Slots.put,Slots.get,if_true,if_false,AVal.cells,Qz,Bool.and_true,Bool.true_and,hvs,hrvs,XA,XF,Xn])) ?_;simp only[AVal.cells];simp+decide only[qa,ev,putD,Slots.get,Slots.keep,if_true,if_false,setAt,List.set_cons_zero,List.set_cons_succ,Nat.zero_add,Nat.reduceAdd];apply hK;clear hK K;refine qO ?_;refine awp_rseq [0,5,6,7,8,9,10,11,23] (by rfl) fun K hK=>?_;simp+decide only[qa,ev,qJ,qG,putD,Slots.put,Slots.get,Slots.keep,if_true,if_false,true_and,↓qF,Qa,qg Xf QA,↓Qn,↓qU,Zk,evP,List.map_nil,↓qB,qm,qV,cond_false,ZO,ne35,QV,qc,List.getD_cons_zero,List.getD_cons_succ,Nat.zero_add,Nat.reduceAdd,qh,allLive,Bool.and_true,Wh];apply hK;clear hK K;refine qK (b:=_) rfl (fun hb1=>?_) (fun hb1=>?_)
 ·try simp only[decide_eq_false_iff_not,Bool.not_eq_true']at hb1
  have hXb:X= .bad f:=by
   rcases hcase with⟨-,z⟩|⟨z,-⟩|⟨z,-⟩
   ·exact z
   ·exact absurd z hb1
   ·exact absurd z hb1
  refine XL 2 [4,5] mixed (by kernel_rfl) (by rfl) (by rfl) fun K hK=>?_;simp+decide only[ev,qJ,qG,putD,Slots.put,Slots.get,if_true,if_false,true_and,↓qF,Qa,qg Xf QA,↓qd,qb,QV,qc,List.getD_cons_zero,List.getD_cons_succ,Nat.zero_add,Nat.reduceAdd,qh,allLive,Bool.and_true];refine qo (by rfl) (by rfl) (by repeat (first|exact AHeap.set_same _ _ _|assumption|refine(AHeap.set_ne _ _ (by first|assumption|exact Ne.symm (by assumption))).trans ?_)) QA (by rfl) (by rfl) (by first|exact Nat.le_refl _|decide|(simp;done)|(simp;omega)) (Nat.zero_le _) (by first|rfl|(simp+decide only[ev,putD,Slots.put,Slots.get,if_true,if_false,AVal.cells,Qz,Bool.and_true,Bool.true_and,hvs,hrvs,XA,XF,Xn])) ?_;simp only[AVal.cells];simp+decide only[qa,ev,putD,Slots.get,Slots.keep,if_true,if_false,setAt,List.set_cons_zero,List.set_cons_succ,Nat.zero_add,Nat.reduceAdd];apply hK;clear hK K;refine qN ?_;try simp only[Qf,Qp]
  refine QM (?_) ?_
  ·simp+decide only[Qy,qp,qi,Slots.get,if_true,if_false,and_true,qp,qi,qg Xf QA,qZ,qc,List.getD_cons_zero,List.getD_cons_succ,Nat.zero_add,Nat.reduceAdd,qh,allLive,Bool.and_true,qc,List.getD_cons_zero,List.getD_cons_succ,Nat.zero_add,Nat.reduceAdd,qh,allLive,Bool.and_true]
  simp+decide only[Slots.get,if_true,if_false,QW,qp,qi,qg Xf QA,qZ,qc,List.getD_cons_zero,List.getD_cons_succ,Nat.zero_add,Nat.reduceAdd,qh,allLive,Bool.and_true,qc,List.getD_cons_zero,List.getD_cons_succ,Nat.zero_add,Nat.reduceAdd,qh,allLive,Bool.and_true];have z36:=hEB3.none hn_3q6;have z37:=hEB3.none hn_3q7;exact⟨_,Sub.refl _,none,st, .nilSlice,f,trivial,⟨by omega,c,es,nb,heB,g3,(by repeat (first|exact Sub.refl _|assumption|refine Sub.set_both ?_ _ _|refine Sub.trans_set ?_ (by repeat (first|assumption|refine(AHeap.set_ne _ _ (by first|assumption|exact Ne.symm (by assumption))).trans ?_))))⟩,rfl, .inl ⟨hb1,hXb,rfl⟩⟩
 ·try simp only[decide_eq_true_eq,Bool.not_eq_false']at hb1
  obtain⟨hf0,bl,hbl5,hbll,hcase⟩:f=okF/\∃bl,IsL w0 B 5 bv (bl.map Xw)/\bl.length<=l.length/\((more=false/\X= .ok (out++bl) st)\/(more=true/\ci<l.length/\sm.ok=true/\t=sm.name/\j=sm.at_/\bl=qbU l i ci/\IsReps w0 E rv sm.reps)):=by
   rcases hcase with⟨z,-⟩|⟨z1,z2,z3,z4⟩|⟨z1,z2,z3,z4,z5,z6,z7,z8⟩
   ·exact absurd (by simpa using hb1) z
   ·exact⟨z1,_,z4,by rw[List.length_drop];omega, .inl ⟨z2,z3⟩⟩
   ·exact⟨z1,_,z7,cutT_len _ _ _, .inr ⟨z2,z3,z4,z5,z6,rfl,z8⟩⟩
  refine qW ?_;change Awp _ _ _ _ _ _ _;obtain⟨C6,hC6⟩:∃C6,C6=(h3q0.set k3q6 ⟨[.int .u8 t.kind.toNat, .str t.text, .int .i64 t.line, .int .i64 t.col, .bool t.left,rv],0⟩).set k3q7 ⟨[.int .i64 f.e, .int .i64 f.line, .int .i64 f.col],0⟩:=⟨_,rfl⟩
  refine Awp.forget (h':=C6) (by rw[hC6];exact Sub.set_both (Sub.set_both (Sub.trans_set (Sub.set hn_3q6) hn_3q7) _ _) _ _) ?_;have h36:Sub h3q0 C6:=by rw[hC6];exact Sub.trans_set (Sub.set hn_3q6) hn_3q7
  have hs_C6:Sub B C6:=hs_h3q0.trans h36;have eb_x:C6 kx=some ⟨[mv, .map km,QO 1 nb, .int .i64 st.copies],0⟩:=h36 _ _ eb_x;have eb_m:C6 km=some (Xv c (es.map opC)):=h36 _ _ eb_m;have eb_0q1:C6 k0q1=some ⟨[.int .i64 0, .int .i64 0, .int .i64 0],0⟩:=h36 _ _ eb_0q1;have eb_1q2:C6 k1q2=some ⟨[v, .int .i64 j],0⟩:=h36 _ _ eb_1q2;have eb_3q6:C6 k3q6=some ⟨[.int .u8 t.kind.toNat, .str t.text, .int .i64 t.line, .int .i64 t.col, .bool t.left,rv],0⟩:=by rw[hC6];exact(by repeat (first|exact AHeap.set_same _ _ _|assumption|refine(AHeap.set_ne _ _ (by first|assumption|exact Ne.symm (by assumption))).trans ?_))
  have eb_3q7:C6 k3q7=some ⟨[.int .i64 f.e, .int .i64 f.line, .int .i64 f.col],0⟩:=by rw[hC6];exact AHeap.set_same _ _ _
  have has6:=has3.mono h36;obtain⟨of1,of2⟩:=offB_has g4i has6;have nb_x:WG kx tb:=YG g4i g2i.x;have nb_m:WG km tb:=YG g4i g2i.m;have nb_0:WG k0q1 tb:=YG g4i (g2i.above _ _ gb_0);have nb_1:WG k1q2 tb:=YG g4i (g2i.above _ _ gb_1);have nb_6:WG k3q6 tb:=noBlk_has has3 hn_3q6;have nb_7:WG k3q7 tb:=noBlk_has has3 hn_3q7;have of_x:=Uc eb_x nb_x;have of_m:=Uc eb_m nb_m;have of_0:=Uc eb_0q1 nb_0;have of_1:=Uc eb_1q2 nb_1;have of_6:=Uc eb_3q6 nb_6;have of_7:=Uc eb_3q7 nb_7;have of_B:Sub B (qaD C6 tb):=qch hs_C6 hokB0;have of_E:Sub E (qaD C6 tb):=qch (hE3s.trans h36) (bufOk_newE hokB0 hE3 has1);have of_X:Sub (ZA B kx km mv c es nb st.copies) (qaD C6 tb):=qch (hEB3.trans h36) hokB;refine awp_rseq [0,5,6,7,9,10,11] (by rfl) fun K hK=>?_;simp+decide only[ev,putD,Slots.put,Slots.get,if_true,if_false,true_and,↓qj,qf];refine XY (es:=5) (zs:=out.map Xw) (xs:=bl.map Xw) (hZ:=qaD C6 tb) (b:=tb) (by rfl) (by rfl) Tryz.underlying26 Tryz.underlying26 (fun k e=>by cases e) Xk by54 qbV (by rfl) (by decide) (by rfl) of1 g5 Ym of2 (by rfl) (hbl5.mono hs_C6) (by rw[Uu];intro z hz;obtain⟨t,_,rfl⟩:=List.mem_map.1 hz;rfl) (by simp;omega) (by simp;omega) fun tb2 h6 o1 o2 o3=>?_;have sub6:Sub (qaD C6 tb) h6:=(Sub.buf o1).trans o3;have hs_h6:Sub B h6:=of_B.trans sub6;have eb_x:=sub6 _ _ of_x;have eb_m:=sub6 _ _ of_m;have eb_0q1:=sub6 _ _ of_0;have eb_1q2:=sub6 _ _ of_1;have eb_3q6:=sub6 _ _ of_6;have eb_3q7:=sub6 _ _ of_7;have hbl:=Xj 5 tb2;simp+decide only[qa,ev,putD,Slots.put,Slots.get,Slots.keep,if_true,if_false,true_and,↓qd,qb];apply hK;clear hK K;refine qO ?_;refine awp_rseq [0,5,6,7,9,11,29] (by rfl) fun K hK=>?_;simp+decide only[qa,ev,putD,Slots.put,Slots.get,Slots.keep,if_true,if_false,true_and,↓qj,qf,↓ZY,XG,ZN];apply hK;clear hK K;refine qK (b:=_) rfl (fun hb2=>?_) (fun hb2=>?_)
  ·try simp only[Bool.not_eq_true']at hb2
   have hXo:X= .ok (out++bl) st:=by
    rcases hcase with⟨-,z⟩|⟨z,-⟩
    ·exact z
    ·rw[z]at hb2;cases hb2
   refine awp_rseq [4,5] (by rfl) fun K hK=>?_;simp+decide only[ev,qJ,qG,putD,Slots.put,Slots.get,if_true,if_false,true_and,↓qj,qf,↓Qn,↓qU,Zk,evP,List.map_nil,↓qd,qb];refine qo (by rfl) (by rfl) (by repeat (first|exact AHeap.set_same _ _ _|assumption|refine(AHeap.set_ne _ _ (by first|assumption|exact Ne.symm (by assumption))).trans ?_)) QA (by rfl) (by rfl) (by first|exact Nat.le_refl _|decide|(simp;done)|(simp;omega)) (Nat.zero_le _) (by first|rfl|(simp+decide only[ev,putD,Slots.put,Slots.get,if_true,if_false,AVal.cells,Qz,Bool.and_true,Bool.true_and,hvs,hrvs,XA,XF,Xn])) ?_;simp only[AVal.cells];simp+decide only[qa,ev,putD,Slots.get,Slots.keep,if_true,if_false,setAt,List.set_cons_zero,List.set_cons_succ,Nat.zero_add,Nat.reduceAdd];apply hK;clear hK K;refine qN ?_;try simp only[Qf,Qp]
   refine QM (?_) ?_
   ·simp+decide only[Qy,qp,qi,Slots.get,if_true,if_false,and_true,qp,qi,qg Xf QA,qZ,qc,List.getD_cons_zero,List.getD_cons_succ,Nat.zero_add,Nat.reduceAdd,qh,allLive,Bool.and_true,qc,List.getD_cons_zero,List.getD_cons_succ,Nat.zero_add,Nat.reduceAdd,qh,allLive,Bool.and_true]
   simp+decide only[Slots.get,if_true,if_false,QW,qp,qi,qg Xf QA,qZ,qc,List.getD_cons_zero,List.getD_cons_succ,Nat.zero_add,Nat.reduceAdd,qh,allLive,Bool.and_true,qc,List.getD_cons_zero,List.getD_cons_succ,Nat.zero_add,Nat.reduceAdd,qh,allLive,Bool.and_true];obtain⟨e1,e2⟩:=heB.buf of_X o1;have hob:bufOk B 5 tb2:=o1.sub of_B;refine⟨_,Sub.refl _,tb2,st,QO 5 tb2,okF,hob,⟨by omega,c,es,nb,e2,g3,Sub.trans_set (by rw[e1];exact(Sub.bufBoth of_X).trans o3) (by rw[e1];exact bufH_off zB0 of_0 o1)⟩,rfl, .inr ⟨rfl,out++bl,hXo,?_,by rw[List.length_append];omega,g7,g8⟩⟩;exact IsL.buf (hob.sub (qca _)) (by decide) (by rw[o2,List.map_append,List.flatten_append]) Ym (Sub.refl _)
  ·try simp only[Bool.not_eq_false']at hb2
   obtain⟨m2,m3,rfl,m5,m6,hrp⟩:ci<l.length/\sm.ok=true/\t=sm.name/\j=sm.at_/\bl=qbU l i ci/\IsReps w0 E rv sm.reps:=by
    rcases hcase with⟨z,-⟩|⟨-,z⟩
    ·rw[z]at hb2;cases hb2
    ·exact z
   have hm0:=hstm m2;rw[if_neg (by omega),if_neg (by rw[m3];decide)]at hstp;obtain⟨Bc,hBc⟩:∃Bc,Bc=UV h6 kx km nb:=⟨_,rfl⟩
   have heBc:ExOk Bc kx km nb st.names:=by rw[hBc];exact base_ok heB
   have hsBc:Sub (ZA Bc kx km mv c es nb st.copies) h6:=by rw[hBc];exact base_sub heB (of_X.trans sub6)
   have bc_B:Sub B Bc:=by rw[hBc];exact base_above heB (fun j d hj=>qdH heB hj) hs_h6
   have bc_E:Sub E Bc:=by rw[hBc];exact base_above heB (fun j d hj=>qdH (heB.newE hE3 hEB1) hj) (of_E.trans sub6)
   have bc_0:Bc k0q1=some ⟨[.int .i64 0, .int .i64 0, .int .i64 0],0⟩:=by
    obtain⟨a1,a2,a3⟩:=qdH g2i gb_0;rw[hBc];exact base_at eb_0q1 a1 a2 a3
   have bc_1:Bc k1q2=some ⟨[v, .int .i64 j],0⟩:=by
    obtain⟨a1,a2,a3⟩:=qdH g2i gb_1;rw[hBc];exact base_at eb_1q2 a1 a2 a3
   have bc_6:Bc k3q6=some ⟨[.int .u8 sm.name.kind.toNat, .str sm.name.text, .int .i64 sm.name.line, .int .i64 sm.name.col, .bool sm.name.left,rv],0⟩:=by
    obtain⟨a1,a2,a3⟩:=qdG heB hEB3 hn_3q6;rw[hBc];exact base_at eb_3q6 a1 a2 a3
   have bc_7:Bc k3q7=some ⟨[.int .i64 f.e, .int .i64 f.line, .int .i64 f.col],0⟩:=by
    obtain⟨a1,a2,a3⟩:=qdG heB hEB3 hn_3q7;rw[hBc];exact base_at eb_3q7 a1 a2 a3
   have bc_tb:hasB Bc tb2:=fun b e=>by
    subst e;obtain⟨a1,a2,a3⟩:=qdG heB of_X o1.1;rw[hBc];exact base_at (o3 _ _ (AHeap.set_same _ _ _)) a1 a2 a3
   have nb2_x:WG kx tb2:=YG o1 of_x;have nb2_m:WG km tb2:=YG o1 of_m;have nb2_0:WG k0q1 tb2:=YG o1 of_0;have nb2_1:WG k1q2 tb2:=YG o1 of_1;have nb2_6:WG k3q6 tb2:=YG o1 of_6;have nb2_7:WG k3q7 tb2:=YG o1 of_7;refine qW ?_;change Awp _ _ _ _ _ _ _;refine awp_rseq [0,5,6,7,9,11,12] (by rfl) fun K hK=>?_;simp+decide only[ev,putD,Slots.put,Slots.get,if_true,if_false,true_and,↓qj,qf,↓qF,Qa,qg qde Uw,Qr w0 eb_3q6,qc,List.getD_cons_zero,List.getD_cons_succ,Nat.zero_add,Nat.reduceAdd,qC,qh,qE,allLive,Bool.and_true,hrvl];refine QH (by rfl) (by rfl) (c_member w0 h6 Bc kx km mv mems op st sm rv rec ⟨by omega,c,es,nb,heBc,g3,hsBc⟩ (hms.mono bc_B) hml hmt (hrp.mono bc_E) (fun x hx=>by have:=hrps.1 x hx;omega) (by have:=hrps.2;omega) hm0.2.2.2 g7 g8 hop8 (fun h8=>hrec h8 sm.name.text)) fun x9q2 h9q2 hx9q2=>?_;obtain⟨tb0,st2,bv2,bf,htb0,hxr,rfl,hcase2⟩:=hx9q2;obtain⟨B2,hB2⟩:∃B2,B2=QS Bc tb0:=⟨_,rfl⟩
   rw[<-hB2]at hxr;obtain⟨hfew2,c2,es2,nb2,he2,hop2,hs2⟩:=hxr;have hsB2:Sub Bc B2:=by rw[hB2];exact Sub.buf htb0
   have bB2:Sub B B2:=bc_B.trans hsB2;have hs2h:Sub B2 h9q2:=he2.above.trans hs2;have hs_h9q2:Sub B h9q2:=bB2.trans hs2h;have eb_x:h9q2 kx=some ⟨[mv, .map km,QO 1 nb2, .int .i64 st2.copies],0⟩:=hs2 _ _ he2.x;have eb_m:h9q2 km=some (Xv c2 (es2.map opC)):=hs2 _ _ he2.m;have eb_0q1:=hs2h _ _ (hsB2 _ _ bc_0);have eb_1q2:=hs2h _ _ (hsB2 _ _ bc_1);have eb_3q6:=hs2h _ _ (hsB2 _ _ bc_6);have eb_3q7:=hs2h _ _ (hsB2 _ _ bc_7);have heB2:ExOk B kx km nb2 st2.names:=he2.down bB2;have hEB9:Sub (ZA B kx km mv c2 es2 nb2 st2.copies) h9q2:=(qck bB2).trans hs2;have y0:ZA B kx km mv c2 es2 nb2 st2.copies k0q1=none:=he2.off (hsB2 _ _ bc_0) hf_0q1;have y7:ZA B kx km mv c2 es2 nb2 st2.copies k3q7=none:=he2.off (hsB2 _ _ bc_7) hf_3q7;have has9:hasB h9q2 tb2:=bc_tb.mono (hsB2.trans hs2h);have hbv2l:bv2.live=true:=by
    rcases hcase2 with⟨-,-,w3⟩|⟨-,inn,-,w3,-⟩
    ·rw[w3];rfl
    ·exact w3.live
   simp+decide only[ev,putD,Slots.put,Slots.get,if_true,if_false,true_and,↓qj,qf,↓QJ,QC,QG,List.length_cons,List.length_nil,List.getD_cons_zero,List.getD_cons_succ,↓qd,qb,List.getD_cons_zero,List.getD_cons_succ,Nat.zero_add,Nat.reduceAdd,QN];refine qo (by rfl) (by rfl) (by repeat (first|exact AHeap.set_same _ _ _|assumption|refine(AHeap.set_ne _ _ (by first|assumption|exact Ne.symm (by assumption))).trans ?_)) QA (by rfl) (by rfl) (by first|exact Nat.le_refl _|decide|(simp;done)|(simp;omega)) (Nat.zero_le _) (by first|rfl|(simp+decide only[ev,putD,Slots.put,Slots.get,if_true,if_false,AVal.cells,Qz,Bool.and_true,Bool.true_and,hvs,hrvs,XA,XF,Xn])) ?_;simp only[AVal.cells];simp+decide only[qa,ev,putD,Slots.get,Slots.keep,if_true,if_false,setAt,List.set_cons_zero,List.set_cons_succ,Nat.zero_add,Nat.reduceAdd];apply hK;clear hK K;refine qO ?_;refine awp_rseq [0,5,6,7,9,11,12,40] (by rfl) fun K hK=>?_;simp+decide only[qa,ev,qJ,qG,putD,Slots.put,Slots.get,Slots.keep,if_true,if_false,true_and,↓qF,Qa,qg Xf QA,↓Qn,↓qU,Zk,evP,List.map_nil,↓qB,qm,qV,cond_false,ZO,ne35,QV,qc,List.getD_cons_zero,List.getD_cons_succ,Nat.zero_add,Nat.reduceAdd,qh,allLive,Bool.and_true,Wh];apply hK;clear hK K;refine qK (b:=_) rfl (fun hb3=>?_) (fun hb3=>?_)
   ·try simp only[decide_eq_false_iff_not,Bool.not_eq_true']at hb3
    obtain⟨w1,w2,w3⟩:bf≠okF/\qaK true mems op rec sm st= .bad bf/\bv2= .nilSlice:=by
     rcases hcase2 with z|⟨z,-⟩
     ·exact z
     ·exact absurd z hb3
    rw[w2]at hstp;simp only at hstp;refine XL 2 [4,5] mixed (by kernel_rfl) (by rfl) (by rfl) fun K hK=>?_;simp+decide only[ev,qJ,qG,putD,Slots.put,Slots.get,if_true,if_false,true_and,↓qF,Qa,qg Xf QA,↓qd,qb,QV,qc,List.getD_cons_zero,List.getD_cons_succ,Nat.zero_add,Nat.reduceAdd,qh,allLive,Bool.and_true];refine qo (by rfl) (by rfl) (by repeat (first|exact AHeap.set_same _ _ _|assumption|refine(AHeap.set_ne _ _ (by first|assumption|exact Ne.symm (by assumption))).trans ?_)) QA (by rfl) (by rfl) (by first|exact Nat.le_refl _|decide|(simp;done)|(simp;omega)) (Nat.zero_le _) (by first|rfl|(simp+decide only[ev,putD,Slots.put,Slots.get,if_true,if_false,AVal.cells,Qz,Bool.and_true,Bool.true_and,hvs,hrvs,XA,XF,Xn])) ?_;simp only[AVal.cells];simp+decide only[qa,ev,putD,Slots.get,Slots.keep,if_true,if_false,setAt,List.set_cons_zero,List.set_cons_succ,Nat.zero_add,Nat.reduceAdd];apply hK;clear hK K;refine qN ?_;try simp only[Qf,Qp]
    refine QM (?_) ?_
    ·simp+decide only[Qy,qp,qi,Slots.get,if_true,if_false,and_true,qp,qi,qg Xf QA,qZ,qc,List.getD_cons_zero,List.getD_cons_succ,Nat.zero_add,Nat.reduceAdd,qh,allLive,Bool.and_true,qc,List.getD_cons_zero,List.getD_cons_succ,Nat.zero_add,Nat.reduceAdd,qh,allLive,Bool.and_true]
    simp+decide only[Slots.get,if_true,if_false,QW,qp,qi,qg Xf QA,qZ,qc,List.getD_cons_zero,List.getD_cons_succ,Nat.zero_add,Nat.reduceAdd,qh,allLive,Bool.and_true,qc,List.getD_cons_zero,List.getD_cons_succ,Nat.zero_add,Nat.reduceAdd,qh,allLive,Bool.and_true];exact⟨_,Sub.refl _,none,st2, .nilSlice,bf,trivial,⟨hfew2,c2,es2,nb2,heB2,hop2,Sub.trans_set (Sub.trans_set hEB9 y7) y0⟩,rfl, .inl ⟨w1,hstp,rfl⟩⟩
   ·try simp only[decide_eq_true_eq,Bool.not_eq_false']at hb3
    obtain⟨w1,inn,w2,w3,w4,w5,w6⟩:bf=okF/\∃inn,qaK true mems op rec sm st= .ok inn st2/\IsL w0 (QS (fun _=>none) tb0) 5 bv2 (inn.map Xw)/\inn.length<=200000/\st2.names.length<=st2.copies/\st2.copies<=4096:=by
     rcases hcase2 with⟨z,-⟩|z
     ·exact absurd (by simpa using hb3) z
     ·exact z
    rw[w2]at hstp;simp only at hstp;refine qW ?_;change Awp _ _ _ _ _ _ _;obtain⟨C12,hC12⟩:∃C12,C12=h9q2.set k3q7 ⟨[.int .i64 bf.e, .int .i64 bf.line, .int .i64 bf.col],0⟩:=⟨_,rfl⟩
    refine Awp.forget (h':=C12) (by rw[hC12];exact Sub.refl _) ?_;have hs_C12:Sub B C12:=by rw[hC12];exact(by repeat (first|exact Sub.refl _|assumption|refine Sub.set_both ?_ _ _|refine Sub.trans_set ?_ (by repeat (first|assumption|refine(AHeap.set_ne _ _ (by first|assumption|exact Ne.symm (by assumption))).trans ?_))))
    have eb_x:C12 kx=some ⟨[mv, .map km,QO 1 nb2, .int .i64 st2.copies],0⟩:=by rw[hC12];exact(by repeat (first|exact AHeap.set_same _ _ _|assumption|refine(AHeap.set_ne _ _ (by first|assumption|exact Ne.symm (by assumption))).trans ?_))
    have eb_m:C12 km=some (Xv c2 (es2.map opC)):=by rw[hC12];exact(by repeat (first|exact AHeap.set_same _ _ _|assumption|refine(AHeap.set_ne _ _ (by first|assumption|exact Ne.symm (by assumption))).trans ?_))
    have eb_0q1:C12 k0q1=some ⟨[.int .i64 0, .int .i64 0, .int .i64 0],0⟩:=by rw[hC12];exact(by repeat (first|exact AHeap.set_same _ _ _|assumption|refine(AHeap.set_ne _ _ (by first|assumption|exact Ne.symm (by assumption))).trans ?_))
    have eb_1q2:C12 k1q2=some ⟨[v, .int .i64 j],0⟩:=by rw[hC12];exact(by repeat (first|exact AHeap.set_same _ _ _|assumption|refine(AHeap.set_ne _ _ (by first|assumption|exact Ne.symm (by assumption))).trans ?_))
    have eb_3q6:C12 k3q6=some ⟨[.int .u8 sm.name.kind.toNat, .str sm.name.text, .int .i64 sm.name.line, .int .i64 sm.name.col, .bool sm.name.left,rv],0⟩:=by rw[hC12];exact(AHeap.set_ne _ _ ne_3q7_3q6.symm).trans eb_3q6
    have has12:hasB C12 tb2:=by rw[hC12];exact has9.set nb2_7 _
    obtain⟨p1,p2⟩:=offB_has o1 has12;have pf_x:=Uc eb_x nb2_x;have pf_m:=Uc eb_m nb2_m;have pf_0:=Uc eb_0q1 nb2_0;have pf_1:=Uc eb_1q2 nb2_1;have pf_6:=Uc eb_3q6 nb2_6;have w3':IsL w0 C12 5 bv2 (inn.map Xw):=w3.mono (fun j d hj=>by
     cases tb0 with
     |none=>cases hj
     |some b=>
      have hjb:j=b.blk:=by
       rcases Nat.decEq j b.blk with e|e
       ·rw[show QS (fun _=>none) (some b)=AHeap.set (fun _=>none) b.blk ⟨b.cells,0⟩from rfl,AHeap.set_ne _ _ e]at hj
        cases hj
       ·exact e
      have h7:j≠k3q7:=fun e=>by
       have:=htb0.1;rw[<-hjb,e,bc_7]at this;cases this
      rw[hC12,AHeap.set_ne _ _ h7];refine hs2h _ _ ?_;rw[hB2];exact Sub.bufBoth (qca _) _ _ hj)
    refine awp_rseq [0,5,6,7,9] (by rfl) fun K hK=>?_;simp+decide only[ev,putD,Slots.put,Slots.get,if_true,if_false,true_and,↓qj,qf];refine XY (es:=5) (zs:=(out++bl).map Xw) (xs:=inn.map Xw) (hZ:=qaD C12 tb2) (b:=tb2) (by rfl) (by rfl) Tryz.underlying26 Tryz.underlying26 (fun k e=>by cases e) Xk by54 qbV (by rfl) (by decide) (by rfl) p1 (by rw[o2,List.map_append]) Ym p2 (by rfl) w3' (by rw[Uu];intro z hz;obtain⟨t,_,rfl⟩:=List.mem_map.1 hz;rfl) (by simp;omega) (by simp;omega) fun tb3 h12 o4 o5 o6=>?_;have sub12:Sub (qaD C12 tb2) h12:=(Sub.buf o4).trans o6;have hs_h12:Sub B h12:=(qch hs_C12 (o1.sub of_B)).trans sub12;have eb_x:=sub12 _ _ pf_x;have eb_m:=sub12 _ _ pf_m;have eb_0q1:=sub12 _ _ pf_0;have eb_1q2:=sub12 _ _ pf_1;have eb_3q6:=sub12 _ _ pf_6;have hbl:=Xj 5 tb3;have nbl3:=Zy (l:=out++bl++inn) (IsL.buf (w0:=w0) o4 (by decide) (by rw[o5,List.map_append (l₁:=out++bl)]) Ym (Sub.refl _));simp+decide only[qa,ev,putD,Slots.put,Slots.get,Slots.keep,if_true,if_false,true_and,↓qd,qb];apply hK;clear hK K;refine awp_rseq [0,5,6,7,9,47] (by rfl) fun K hK=>?_;simp+decide only[qa,ev,qJ,qG,putD,Slots.put,Slots.get,Slots.keep,if_true,if_false,true_and,↓qj,qf,↓Xz,QK,↓qB,qm,qD,cond_false,qz,UO,nbl3];apply hK;clear hK K;refine qK (b:=_) rfl (fun hb4=>?_) (fun hb4=>?_)
    ·try simp only[decide_eq_true_eq]at hb4
     rw[<-m6,if_pos (by unfold qcy;rw[Bool.true_and,decide_eq_true_eq];omega)]at hstp;refine XL 5 [4,5] mixed (by kernel_rfl) (by rfl) (by rfl) fun K hK=>?_;simp+decide only[ev,qJ,qG,putD,Slots.put,Slots.get,if_true,if_false,true_and,↓qA,ql,fa91_0,fa54_2,↓qF,Qa,qg ag33 qbe,↓Qn,↓qU,Ug,evP,List.map_cons,List.map_nil,↓qd,qb,Qr w0 eb_3q6,qc,List.getD_cons_zero,List.getD_cons_succ,Nat.zero_add,Nat.reduceAdd,qh,allLive,Bool.and_true];refine qo (by rfl) (by rfl) (by repeat (first|exact AHeap.set_same _ _ _|assumption|refine(AHeap.set_ne _ _ (by first|assumption|exact Ne.symm (by assumption))).trans ?_)) QA (by rfl) (by rfl) (by first|exact Nat.le_refl _|decide|(simp;done)|(simp;omega)) (Nat.zero_le _) (by first|rfl|(simp+decide only[ev,putD,Slots.put,Slots.get,if_true,if_false,AVal.cells,Qz,Bool.and_true,Bool.true_and,hvs,hrvs,XA,XF,Xn])) ?_;simp only[AVal.cells];simp+decide only[qa,ev,putD,Slots.get,Slots.keep,if_true,if_false,setAt,List.set_cons_zero,List.set_cons_succ,Nat.zero_add,Nat.reduceAdd];apply hK;clear hK K;refine qN ?_;try simp only[Qf,Qp]
     refine QM (?_) ?_
     ·simp+decide only[Qy,qp,qi,Slots.get,if_true,if_false,and_true,qp,qi,qg Xf QA,qZ,qc,List.getD_cons_zero,List.getD_cons_succ,Nat.zero_add,Nat.reduceAdd,qh,allLive,Bool.and_true,qc,List.getD_cons_zero,List.getD_cons_succ,Nat.zero_add,Nat.reduceAdd,qh,allLive,Bool.and_true]
     simp+decide only[Slots.get,if_true,if_false,QW,qp,qi,qg Xf QA,qZ,qc,List.getD_cons_zero,List.getD_cons_succ,Nat.zero_add,Nat.reduceAdd,qh,allLive,Bool.and_true,qc,List.getD_cons_zero,List.getD_cons_succ,Nat.zero_add,Nat.reduceAdd,qh,allLive,Bool.and_true];have hEB12:Sub (ZA B kx km mv c2 es2 nb2 st2.copies) (qaD C12 tb2):=qch (by rw[hC12];exact Sub.trans_set hEB9 y7) (bufOk_at o1 fun b e=>he2.off (hsB2 _ _ (bc_tb b e)) (by subst e;exact of_B.none o1.1));exact⟨_,Sub.refl _,none,st2, .nilSlice,⟨3,sm.name.line,sm.name.col⟩,trivial,⟨hfew2,c2,es2,nb2,heB2,hop2,Sub.trans_set (hEB12.trans sub12) y0⟩,rfl, .inl ⟨fun e=>absurd (congrArg FaultC.e e) (by simp[okF]),hstp,rfl⟩⟩
    ·try simp only[decide_eq_false_iff_not]at hb4
     rw[<-m6,if_neg (by unfold qcy;rw[Bool.true_and,decide_eq_true_eq];omega),<-m5]at hstp;refine qW ?_;try simp only[Qj,Yc]
     have hG2:Sub ((B.set k0q1 ⟨[.int .i64 0, .int .i64 0, .int .i64 0],0⟩).set k1q2 ⟨[v, .int .i64 j],0⟩) B2:=qaf (qaf bB2 (hsB2 _ _ bc_0)) (hsB2 _ _ bc_1);have hGC:Sub (ZA ((B.set k0q1 ⟨[.int .i64 0, .int .i64 0, .int .i64 0],0⟩).set k1q2 ⟨[v, .int .i64 j],0⟩) kx km mv c2 es2 nb2 st2.copies) (qaD C12 tb2):=by
      refine qch (by rw[hC12];exact Sub.trans_set ((qck hG2).trans hs2) (he2.off (hsB2 _ _ bc_7) ((AHeap.set_ne _ _ ne_3q7_1q2).trans ((AHeap.set_ne _ _ ne_3q7_0q1).trans hf_3q7)))) (bufOk_at o1 fun b e=>he2.off (hsB2 _ _ (bc_tb b e)) ?_);subst e;exact(AHeap.set_ne _ _ (Ne.symm nb2_1)).trans ((AHeap.set_ne _ _ (Ne.symm nb2_0)).trans (of_B.none o1.1))
     exact⟨⟨j,c2,es2,nb2,st2,tb3,out++bl++inn⟩,rfl,(Sub.bufBoth hGC).trans o6,⟨hj,fun Y=>(he2.down hG2).same (swap_none _ _),hop2,fun Y=>bufOk_same (o4.sub hGC) (expH_same (swap_none _ _)),by rw[o5,List.map_append (l₁:=out++bl)],by simp only;omega,w5,w6,hstp.symm⟩,by simp only;omega⟩
end Go.Proofs.YtlhhaagmakhilaaGreatDoor
namespace Go.Proofs.YtlhhaagmakhilaaGreatDoor
open Go.AM
open Go.Proofs
open Go.Col (Str FaultC okF)
open Go.Tok
open Go.Cop
open Go.RowKit (Below)
set_option maxRecDepth 100000
theorem c_list(w0:World)(kx km:Nat)(mv:AVal)(mems:List MemC)(hml:mems.length<=1000000)(hmt:∀m∈mems,m.toks.length<=100000):∀(d:Nat) (op:List Str),8<=d+op.length->RecOk w0 kx km mv mems op (listE true mems d)
 |0,op,hd=>fun h8 h B v l st hx hms hv hl h1 h2=>c_listS w0 h B kx km mv mems op st v l (fun _ _ st=> .ok [] st) hx hms hml hmt hv hl h1 h2 h8 (fun hlt=>by omega)
 |d+1,op,hd=>fun h8 h B v l st hx hms hv hl h1 h2=>c_listS w0 h B kx km mv mems op st v l (listE true mems d) hx hms hml hmt hv hl h1 h2 h8 (fun hlt nm=>c_list w0 kx km mv mems hml hmt d (op++[nm]) (by rw[List.length_append,List.length_singleton];omega))
theorem okCapG{w0:World}{h:AHeap}{es:Nat}{v:AVal}{xs:List (List AVal)}(hes:0<es)(hb:IsL w0 h es v xs):(ZJ v).okIn (fun k=>(h k).isSome):=by
 cases hb with
 |nil=>simp only[ZJ,AVal.okIn]
 |mk l o n c xs hn hw hc hl hcap=>
  cases l with
  |base b=>simp only[ZJ,AVal.okIn]
  |own k=>
   simp only[ZJ,AVal.okIn];intro h0;cases hk:h k with
   |some b=>rfl
   |none=>
    obtain⟨m,rfl⟩:∃m,n=m+1:=⟨n-1,by omega⟩
    obtain⟨e,rfl⟩:∃e,es=e+1:=⟨es-1,by omega⟩
    rw[show(m+1)*(e+1)=(m*(e+1)+e)+1 by rw[Nat.succ_mul];omega,qc]at hc;rw[<-hc]at hl;simp[allLive,rd,hk,AVal.live]at hl
theorem qcb{H:AHeap}{tb:Option Buf}(hh:hasB H tb):Sub (QS (fun _=>none) tb) H:=fun j d hj=>by
 cases tb with
 |none=>cases hj
 |some b=>
  rcases Nat.decEq j b.blk with e|e
  ·rw[show QS (fun _=>none) (some b)=AHeap.set (fun _=>none) b.blk ⟨b.cells,0⟩from rfl,AHeap.set_ne _ _ e]at hj
   cases hj
  ·subst e
   rw[show QS (fun _=>none) (some b)=AHeap.set (fun _=>none) b.blk ⟨b.cells,0⟩from rfl,AHeap.set_same]at hj;rw[<-hj];exact hh b rfl
theorem nam_len{w0:World}{h:AHeap}{v:AVal}{l:List Str}(hv:IsL w0 h 1 v (l.map qci)):∀H:AHeap,ZU Tryz.prog H 30 v=⟨True, .int .i64 l.length⟩:=by
 have:=hv.len Tryz.underlying30
 rwa [List.length_map]at this
theorem c_clipN(w0:World)(h:AHeap)(v:AVal)(l:List Str)(hv:IsL w0 h 1 v (l.map qci)):ACall Tryz.prog w0 34 [v] h (fun r h'=>r=ZJ v/\h'=h):=by
 have hlen:=nam_len hv;have h3:=hv.slice3 Tryz.underlying30 sz9 .i64 .i64 none rfl;rw[List.length_map]at h3;have hlv:=hv.live;refine qR (n:=9) (rs:=[.tmp 2]) Tryz.func34 rfl rfl rfl rfl (Nat.le_of_ble_eq_true rfl) ?_;simp only[Qd];refine awp_rseq [0] (by rfl) fun K hK=>?_;simp+decide only[qa,ev,qJ,qG,putD,Slots.put,Slots.keep,if_true,if_false,true_and,↓qd,qb];apply hK;clear hK K;refine awp_rseq [2] (by rfl) fun K hK=>?_;simp+decide only[qa,ev,putD,Slots.put,Slots.get,Slots.keep,if_true,if_false,true_and,↓qj,qf,↓Xz,QK,↓WY,Zo,evO,↓qd,qb,hlen,h3];apply hK;clear hK K;refine qN ?_;refine qY _ (Sub.refl _) (Qb (Qe)) ?_;simp+decide only[Slots.get,if_true,and_true,Qw];all_goals first|rfl|exact⟨rfl,rfl⟩|(simp+decide only[if_true,if_false, *];done)|(trace_state;fail)
def ExpandR(w0:World)(h:AHeap)(x:Xr)(r:AVal)(h':AHeap):Prop:=
 ∃(ov nv:AVal) (f:FaultC),r= .tuple [ov,nv,QN f]/\Sub h h'/\ZJ ov=ov/\ZJ nv=nv/\((f≠okF/\x= .bad f/\ov= .nilSlice/\nv= .nilSlice)\/(f=okF/\∃out st,x= .ok out st/\IsL w0 h' 5 ov (out.map Xw)/\IsL w0 h' 1 nv (st.names.map qci)/\out.length<=200000/\st.names.length<=4096))
set_option maxHeartbeats 2000000 in
theorem c_Expand(w0:World)(h:AHeap)(lv mv:AVal)(l:List TokC)(mems:List MemC)(hlv:IsL w0 h 5 lv (l.map Xw))(hms:IsMems w0 h mv mems)(hl:l.length<=100000)(hml:mems.length<=1000000)(hmt:∀m∈mems,m.toks.length<=100000):
 ACall Tryz.prog w0 13 [lv,mv] h (ExpandR w0 h (WJ true l mems)):=by
 have hll:=hlv.live;obtain⟨qs,hqs,hq2,hq3⟩:=hms;have hmvs:=hq2.scal;have hmvl:=ZW hmvs;have hSm:Sc mv=True:=eq_true (isL_Sc hq2);have hSk:∀k,Sc (.map k)=True:=fun k=>eq_true trivial;have hbvl:(AVal.bool true).live=true:=rfl;have hbnl:(AVal.bool true).live=true:=rfl;have hccl:∀v:AVal,v.live=true->(ZJ v).live=true:=fun v hv=>by cases v<;>exact hv
 have hc1:(AVal.bool true).live=true:=rfl;have hc2:(AVal.bool true).live=true:=rfl;obtain⟨X,hX⟩:∃X,X=WJ true l mems:=⟨_,rfl⟩
 rw[<-hX];refine qR (n:=28) (rs:=[.tmp 4, .tmp 5, .cell 6 35]) Tryz.func13 rfl rfl rfl rfl (Nat.le_of_ble_eq_true rfl) ?_;simp only[Qd];refine awp_rseq [0,1,6] (by rfl) fun K hK=>?_;simp+decide only[ev,qJ,qG,putD,Slots.put,if_false,true_and,↓qd,qb,Nat.zero_add];refine Qg qas (cs:=[.int .i64 0, .int .i64 0, .int .i64 0]) (by rfl) fun k0q2 hk0q2=>?_;try have hf_0q2:h k0q2=none:=by first|assumption|(simp only[AHeap.set_none]at hk0q2;simp only[hk0q2])
 simp+decide only[qa,putD,Slots.put,Slots.keep,if_true,if_false];apply hK;clear hK K;refine awp_rseq [0,6,7] (by rfl) fun K hK=>?_;simp+decide only[ev,putD,Slots.put,Slots.get,if_true,if_false,true_and,↓qj,qf];refine aOps_makeMap fun k1q1 hk1q1=>?_;have ne_1q1_0q2:k1q1≠k0q2:=by simp only[AHeap.set_none]at hk1q1;simp only[hk1q1,ne_eq,not_false_eq_true]
 try have hf_1q1:h k1q1=none:=by first|assumption|(simp only[AHeap.set_none]at hk1q1;simp only[hk1q1])
 simp+decide only[ev,qJ,qG,putD,Slots.put,Slots.get,if_true,if_false,true_and,↓Qn,↓qU,bld76_0_1,evP,List.map_cons,List.map_nil,hSm,hSk];refine Qg ze76 (cs:=[.nilSlice, .nilMap, .nilSlice, .int .i64 0]) (by rfl) fun k1q3 hk1q3=>?_;have ne_1q3_0q2:k1q3≠k0q2:=by simp only[AHeap.set_none]at hk1q3;simp only[hk1q3,ne_eq,not_false_eq_true]
 have ne_1q3_1q1:k1q3≠k1q1:=by simp only[AHeap.set_none]at hk1q3;simp only[hk1q3,ne_eq,not_false_eq_true]
 try have hf_1q3:h k1q3=none:=by first|assumption|(simp only[AHeap.set_none]at hk1q3;simp only[hk1q3])
 refine qo (by rfl) (by rfl) (by repeat (first|exact AHeap.set_same _ _ _|assumption|refine(AHeap.set_ne _ _ (by first|assumption|exact Ne.symm (by assumption))).trans ?_)) sz76 (by rfl) (by rfl) (by first|exact Nat.le_refl _|decide|(simp;done)|(simp;omega)) (Nat.zero_le _) (by first|rfl|(simp+decide only[ev,putD,Slots.put,Slots.get,if_true,if_false,AVal.cells,Qz,Bool.and_true,Bool.true_and,hmvs,XA,sc_map])) ?_;simp only[AHeap.set_set,AVal.cells];simp+decide only[qa,ev,putD,Slots.put,Slots.get,Slots.keep,if_true,if_false,setAt,List.set_cons_zero,List.set_cons_succ,Nat.zero_add,Nat.reduceAdd];apply hK;clear hK K;obtain⟨B,hB⟩:∃B,B=h.set k0q2 ⟨[.int .i64 0, .int .i64 0, .int .i64 0],0⟩:=⟨_,rfl⟩
 have hs_hB:Sub h B:=by rw[hB];exact Sub.set hf_0q2
 have b_m:B k1q1=none:=by rw[hB];exact(AHeap.set_ne _ _ ne_1q1_0q2).trans hf_1q1
 have b_x:B k1q3=none:=by rw[hB];exact(AHeap.set_ne _ _ ne_1q3_0q2).trans hf_1q3
 have b_0:B k0q2=some ⟨[.int .i64 0, .int .i64 0, .int .i64 0],0⟩:=by rw[hB];exact AHeap.set_same _ _ _
 have heB:ExOk B k1q3 k1q1 none []:=⟨b_m,b_x,ne_1q3_1q1.symm,fun M=>⟨(AHeap.set_ne _ _ ne_1q3_1q1).trans b_x,fun _=>trivial,rfl⟩⟩
 rw[<-hB];have hlist:=c_list w0 k1q3 k1q1 mv mems hml hmt 8 [] (by simp) (by simp);refine awp_rseq [6,7,8,9] (by rfl) fun K hK=>?_;simp+decide only[ev,putD,Slots.put,Slots.get,if_true,if_false,true_and,↓qj,qf];refine QH (by rfl) (by rfl) (hlist _ B lv l ⟨[],0⟩ ⟨Nat.zero_le _,0,[],none,heB,rfl,Sub.refl _⟩ ⟨qs,hqs,hq2.mono hs_hB,fun q hq=>(hq3 q hq).mono hs_hB⟩ (hlv.mono hs_hB) hl (Nat.le_refl _) (by decide)) fun x2q1 h2q1 hx2q1=>?_;obtain⟨tb,st,bv,bf,htb,⟨hfew,c2,es2,nb,he2,hop2,hs2⟩,rfl,hcase⟩:=hx2q1;rw[show listE true mems 8 l [] ⟨[],0⟩=X from hX.symm]at hcase;have hs2h:Sub (QS B tb) h2q1:=he2.above.trans hs2;have hs_h2q1:Sub h h2q1:=(hs_hB.trans (Sub.buf htb)).trans hs2h;have eb_1q3:h2q1 k1q3=some ⟨[mv, .map k1q1,QO 1 nb, .int .i64 st.copies],0⟩:=hs2 _ _ he2.x;have eb_0q2:h2q1 k0q2=some ⟨[.int .i64 0, .int .i64 0, .int .i64 0],0⟩:=hs2h _ _ (ZL htb b_0);have hbvl:bv.live=true:=by
  rcases hcase with⟨-,-,w3⟩|⟨-,inn,-,w3,-⟩
  ·rw[w3];rfl
  ·exact w3.live
 have hbnl:=Xj 1 nb;have hc1:=hccl bv hbvl;have hc2:=hccl _ hbnl;simp+decide only[ev,putD,Slots.put,Slots.get,if_true,if_false,true_and,↓qj,qf,↓QJ,QC,QG,List.length_cons,List.length_nil,List.getD_cons_zero,List.getD_cons_succ,List.getD_cons_zero,List.getD_cons_succ,Nat.zero_add,Nat.reduceAdd,QN];refine Qg qas (cs:=[.int .i64 0, .int .i64 0, .int .i64 0]) (by rfl) fun k2q5 hk2q5=>?_;have hn_2q5:h2q1 k2q5=none:=by first|assumption|(simp only[AHeap.set_none]at hk2q5;simp only[hk2q5])
 have hf_2q5:h k2q5=none:=Sub.none hs_h2q1 hn_2q5;have ne_2q5_1q3:k2q5≠k1q3:=AHeap.ne_some hn_2q5 eb_1q3;have ne_2q5_0q2:k2q5≠k0q2:=AHeap.ne_some hn_2q5 eb_0q2;simp+decide only[ev,putD,Slots.put,Slots.get,if_true,if_false,true_and,↓qd,qb];refine qo (by rfl) (by rfl) (by repeat (first|exact AHeap.set_same _ _ _|assumption|refine(AHeap.set_ne _ _ (by first|assumption|exact Ne.symm (by assumption))).trans ?_)) QA (by rfl) (by rfl) (by first|exact Nat.le_refl _|decide|(simp;done)|(simp;omega)) (Nat.zero_le _) (by first|rfl|(simp+decide only[ev,putD,Slots.put,Slots.get,if_true,if_false,AVal.cells,Qz,Bool.and_true,Bool.true_and,hmvs,XA,XF,Xn,sc_map])) ?_;simp only[AHeap.set_set,AVal.cells];simp+decide only[qa,ev,putD,Slots.get,Slots.keep,if_true,if_false,setAt,List.set_cons_zero,List.set_cons_succ,Nat.zero_add,Nat.reduceAdd];apply hK;clear hK K;refine qO ?_;refine awp_rseq [6,7,8,9,20] (by rfl) fun K hK=>?_;simp+decide only[qa,ev,qJ,qG,putD,Slots.put,Slots.get,Slots.keep,if_true,if_false,true_and,↓qF,Qa,qg Xf QA,↓Qn,↓qU,Zk,evP,List.map_nil,↓qB,qm,qV,cond_false,ZO,ne35,QV,qc,List.getD_cons_zero,List.getD_cons_succ,Nat.zero_add,Nat.reduceAdd,qh,allLive,Bool.and_true,Wh];apply hK;clear hK K;refine qK (b:=_) rfl (fun hb1=>?_) (fun hb1=>?_)
 ·try simp only[decide_eq_false_iff_not,Bool.not_eq_true']at hb1
  have hXb:X= .bad bf:=by
   rcases hcase with⟨-,z,-⟩|⟨z,-⟩
   ·exact z
   ·exact absurd z hb1
  refine XL 3 [4,5,6] mixed (by kernel_rfl) (by rfl) (by rfl) fun K hK=>?_;simp+decide only[ev,qJ,qG,putD,Slots.put,Slots.get,if_true,if_false,true_and,↓qF,Qa,qg Xf QA,↓qd,qb,QV,qc,List.getD_cons_zero,List.getD_cons_succ,Nat.zero_add,Nat.reduceAdd,qh,allLive,Bool.and_true];refine qo (by rfl) (by rfl) (by repeat (first|exact AHeap.set_same _ _ _|assumption|refine(AHeap.set_ne _ _ (by first|assumption|exact Ne.symm (by assumption))).trans ?_)) QA (by rfl) (by rfl) (by first|exact Nat.le_refl _|decide|(simp;done)|(simp;omega)) (Nat.zero_le _) (by first|rfl|(simp+decide only[ev,putD,Slots.put,Slots.get,if_true,if_false,AVal.cells,Qz,Bool.and_true,Bool.true_and,hmvs,XA,XF,Xn,sc_map])) ?_;simp only[AVal.cells];simp+decide only[qa,ev,putD,Slots.get,Slots.keep,if_true,if_false,setAt,List.set_cons_zero,List.set_cons_succ,Nat.zero_add,Nat.reduceAdd];apply hK;clear hK K;refine qN ?_;try simp only[Qf]
  refine QM (?_) ?_
  ·simp+decide only[Qy,qp,qi,Slots.get,if_true,if_false,and_true,qp,qi,qg Xf QA,qZ,qc,List.getD_cons_zero,List.getD_cons_succ,Nat.zero_add,Nat.reduceAdd,qh,allLive,Bool.and_true,qc,List.getD_cons_zero,List.getD_cons_succ,Nat.zero_add,Nat.reduceAdd,qh,allLive,Bool.and_true]
  simp+decide only[Slots.get,if_true,if_false,QB,qp,qi,qg Xf QA,qZ,qc,List.getD_cons_zero,List.getD_cons_succ,Nat.zero_add,Nat.reduceAdd,qh,allLive,Bool.and_true,qc,List.getD_cons_zero,List.getD_cons_succ,Nat.zero_add,Nat.reduceAdd,qh,allLive,Bool.and_true];exact⟨_,Sub.refl _, .nilSlice, .nilSlice,bf,rfl,(by repeat (first|exact Sub.refl _|assumption|refine Sub.set_both ?_ _ _|refine Sub.trans_set ?_ (by repeat (first|assumption|refine(AHeap.set_ne _ _ (by first|assumption|exact Ne.symm (by assumption))).trans ?_)))),rfl,rfl, .inl ⟨hb1,hXb,rfl,rfl⟩⟩
 ·try simp only[decide_eq_true_eq,Bool.not_eq_false']at hb1
  obtain⟨hf0,inn,w2,w3,w4,w5,w6⟩:bf=okF/\∃inn,X= .ok inn st/\IsL w0 (QS (fun _=>none) tb) 5 bv (inn.map Xw)/\inn.length<=200000/\st.names.length<=st.copies/\st.copies<=4096:=by
   rcases hcase with⟨z,-⟩|z
   ·exact absurd (by simpa using hb1) z
   ·exact z
  have hasT:hasB h2q1 tb:=(hasB_buf B tb).mono hs2h;have hasN:hasB h2q1 nb:=(hasB_buf _ nb).mono hs2;have nT:WG k0q2 tb:=YG htb b_0;have nN:WG k0q2 nb:=(qdH he2 (ZL htb b_0)).2.2;have hun:=he2.use ⟨[],0⟩;have w7:IsL w0 (QS (fun _=>none) nb) 1 (QO 1 nb) (st.names.map qci):=IsL.buf ((hun.ok ⟨[],0⟩).sub (qca _)) (by decide) hun.eq namC_wide (Sub.refl _);have w3h:=w3.mono (qcb hasT);have w7h:=w7.mono (qcb hasN);refine qW ?_;change Awp _ _ _ _ _ _ _;obtain⟨C5,hC5⟩:∃C5,C5=h2q1.set k2q5 ⟨[.int .i64 bf.e, .int .i64 bf.line, .int .i64 bf.col],0⟩:=⟨_,rfl⟩
  refine Awp.forget (h':=C5) (by rw[hC5];exact Sub.refl _) ?_;have hs_C5:Sub h C5:=by rw[hC5];exact(by repeat (first|exact Sub.refl _|assumption|refine Sub.set_both ?_ _ _|refine Sub.trans_set ?_ (by repeat (first|assumption|refine(AHeap.set_ne _ _ (by first|assumption|exact Ne.symm (by assumption))).trans ?_))))
  have eb_1q3:C5 k1q3=some ⟨[mv, .map k1q1,QO 1 nb, .int .i64 st.copies],0⟩:=by rw[hC5];exact(by repeat (first|exact AHeap.set_same _ _ _|assumption|refine(AHeap.set_ne _ _ (by first|assumption|exact Ne.symm (by assumption))).trans ?_))
  have eb_0q2:C5 k0q2=some ⟨[.int .i64 0, .int .i64 0, .int .i64 0],0⟩:=by rw[hC5];exact(by repeat (first|exact AHeap.set_same _ _ _|assumption|refine(AHeap.set_ne _ _ (by first|assumption|exact Ne.symm (by assumption))).trans ?_))
  have hs25:Sub h2q1 C5:=by rw[hC5];exact Sub.set hn_2q5
  have hok1:(ZJ bv).okIn (fun k=>(C5 k).isSome):=okCapG (by decide) (w3h.mono hs25);have hok2:(ZJ (QO 1 nb)).okIn (fun k=>(C5 k).isSome):=okCapG (by decide) (w7h.mono hs25);refine Ww 8 [] [4,5,6] mixed (by kernel_rfl) (by rfl) fun K hK=>?_;simp only[List.take_succ_cons,List.take_zero,List.drop_succ_cons,List.drop_zero];simp+decide only[ev,putD,Slots.put,Slots.get,if_true,if_false,true_and,↓Us,qf];refine qbs (V:=ZJ bv) (by rfl) (by rfl) (by first|trivial|(simp+decide only[AVal.okIn,WO,and_true,true_and,QN,posA,AHeap.set_same,Option.isSome_some];done)|(simp[AVal.okIn,WO,AHeap.set];done)) (fun g hg=>c_clipT w0 _ _ (inn.map Xw) (w3h.mono (Sub.trans hs25 hg))) ?_;simp+decide only[ev,putD,Slots.put,Slots.get,if_true,if_false,true_and,↓Zr,ql,fa76_2,↓WH,Zp,qw ag30,Qr w0 eb_1q3,List.getD_cons_zero,List.getD_cons_succ,Nat.zero_add,hbnl];refine qbs (V:=ZJ (QO 1 nb)) (by rfl) (by rfl) (by first|trivial|(simp+decide only[AVal.okIn,WO,and_true,true_and,QN,posA,AHeap.set_same,Option.isSome_some];done)|(simp[AVal.okIn,WO,AHeap.set];done)) (fun g hg=>c_clipN w0 _ _ st.names (w7h.mono (Sub.trans hs25 hg))) ?_;simp+decide only[YJ,ev,qJ,qG,putD,Slots.put,Slots.get,if_true,if_false,true_and,↓qat,↓qU,Zk,evP,List.map_nil,↓fp_assign,qb];refine qo (by rfl) (by rfl) (by repeat (first|exact AHeap.set_same _ _ _|assumption|refine(AHeap.set_ne _ _ (by first|assumption|exact Ne.symm (by assumption))).trans ?_)) QA (by rfl) (by rfl) (by first|exact Nat.le_refl _|decide|(simp;done)|(simp;omega)) (Nat.zero_le _) (by first|rfl|(simp+decide only[ev,putD,Slots.put,Slots.get,if_true,if_false,AVal.cells,Qz,Bool.and_true,Bool.true_and,hmvs,XA,XF,Xn,sc_map])) ?_;simp only[AVal.cells];simp+decide only[qa,ev,putD,Slots.get,Slots.keep,if_true,if_false,setAt,List.set_cons_zero,List.set_cons_succ,Nat.zero_add,Nat.reduceAdd];apply hK;clear hK K;refine qN ?_;refine QM (?_) ?_
  ·simp+decide only[Qy,qp,qi,Slots.get,if_true,if_false,and_true,qp,qi,qg Xf QA,qZ,qc,List.getD_cons_zero,List.getD_cons_succ,Nat.zero_add,Nat.reduceAdd,qh,allLive,Bool.and_true,qc,List.getD_cons_zero,List.getD_cons_succ,Nat.zero_add,Nat.reduceAdd,qh,allLive,Bool.and_true]
  simp+decide only[Slots.get,if_true,if_false,QB,qp,qi,qg Xf QA,qZ,qc,List.getD_cons_zero,List.getD_cons_succ,Nat.zero_add,Nat.reduceAdd,qh,allLive,Bool.and_true,qc,List.getD_cons_zero,List.getD_cons_succ,Nat.zero_add,Nat.reduceAdd,qh,allLive,Bool.and_true];refine⟨_,Sub.refl _,ZJ bv,ZJ (QO 1 nb),okF,rfl,(by repeat (first|exact Sub.refl _|assumption|refine Sub.set_both ?_ _ _|refine Sub.trans_set ?_ (by repeat (first|assumption|refine(AHeap.set_ne _ _ (by first|assumption|exact Ne.symm (by assumption))).trans ?_)))),qcZ _,qcZ _, .inr ⟨rfl,inn,st,w2,?_,?_,w4,by omega⟩⟩
  ·exact(w3.mono (qcb ((hasT.mono hs25).set nT _))).clip
  ·exact(w7.mono (qcb ((hasN.mono hs25).set nN _))).clip
end Go.Proofs.YtlhhaagmakhilaaGreatDoor
namespace Go.Proofs.YtlhhaagmakhilaaGreatDoor
open Go.AM
open Go.Proofs
open Go.Col (Str FaultC okF)
open Go.Tok
open Go.Cop
open Go.RowKit (Below)
set_option maxRecDepth 100000
theorem usesGo_fuel{l:List TokC}:∀(f g i:Nat) (ns:List Str),i<=l.length->l.length<f+i->l.length<g+i->qdm l f i ns=qdm l g i ns
 |0,g,i,ns,hi,h1,_=>by omega
 |f+1,0,i,ns,hi,_,h2=>by omega
 |f+1,g+1,i,ns,hi,h1,h2=>by
  rw[qdm,qdm];simp only;split
  ·rfl
  ·rename_i hc
   have hcl:=qaZ hi;obtain⟨s1,s2,s3,s4⟩:=Wp (l:=l) (i:=Xo l i+1) (by omega);split
   ·rfl
   ·rename_i hok
    have h3:=s3 (by simpa using hok);exact usesGo_fuel f g _ _ s2 (by omega) (by omega)
def usesR(l:List TokC)(i:Nat)(ns:List Str):List Str×FaultC:=qdm l (l.length+1-i) i ns
theorem usesR_step{l:List TokC}{i:Nat}(hi:i<=l.length)(ns:List Str):usesR l i ns=
 if l.length<=Xo l i then(ns,okF)
 else if (QT l (Xo l i+1)).ok=false then([],qaN l (Xo l i) (QT l (Xo l i+1)).at_)
 else usesR l (QT l (Xo l i+1)).at_ (Cop.addE ns (QT l (Xo l i+1)).name.text):=by
 unfold usesR;rw[show l.length+1-i=(l.length-i)+1 by omega,qdm];simp only;split
 ·rfl
 ·rename_i hc
  have hcl:=qaZ hi;obtain⟨s1,s2,s3,s4⟩:=Wp (l:=l) (i:=Xo l i+1) (by omega);split
  ·rfl
  ·rename_i hok
   have h3:=s3 (by simpa using hok);exact usesGo_fuel _ _ _ _ s2 (by omega) (by omega)
theorem sub_use{G h:AHeap}{kx:Nat}{mv mo:AVal}{nb:Option Buf}{cp:Int}(hs:Sub G h)(hx:h kx=some ⟨[mv,mo,QO 1 nb, .int .i64 cp],0⟩)(hn:hasB h nb):Sub (UH G kx mv mo nb cp) h:=by
 have h1:=qaf hs hx;unfold UH;cases nb with
 |none=>exact h1
 |some b=>exact qaf h1 (hn b rfl)
structure UsG where
 i:Nat
 nb:Option Buf
 ns:List Str
structure UsOk(h:AHeap)(k0 k1 kx:Nat)(l:List TokC)(X:List Str×FaultC)(s:UsG):Prop where
 i:s.i<=l.length
 ok:∀Y,UseOk ((h.set k0 ⟨[.int .i64 0, .int .i64 0, .int .i64 0],0⟩).set k1 Y) kx s.nb s.ns
 few:s.ns.length<=s.i
 go:usesR l s.i s.ns=X
theorem UseOk.same{G G':AHeap}{kx:Nat}{nb:Option Buf}{ns:List Str}(hu:UseOk G kx nb ns)(hn:∀j,G j=none->G' j=none):UseOk G' kx nb ns:=⟨hn _ hu.bx,fun X=>bufOk_same (hu.ok X) (YM hn kx X),hu.eq⟩
set_option maxHeartbeats 2000000 in
theorem c_Uses(w0:World)(h:AHeap)(v:AVal)(l:List TokC)(hv:IsL w0 h 5 v (l.map Xw))(hl:l.length<=100000):
 ACall Tryz.prog w0 21 [v] h (fun r h'=>∃nv,r= .tuple [nv,QN (usesE l).2]/\Sub h h'/\ZJ nv=nv/\IsL w0 h' 1 nv ((usesE l).1.map qci)):=by
 have hlv:=hv.live;have hvs:=hv.scal;have hSv:Sc v=True:=eq_true (isL_Sc hv);have nv:=Zy hv;obtain⟨X,hX⟩:∃X,X=usesE l:=⟨_,rfl⟩
 have hX0:usesR l 0 []=X:=hX.symm;rw[<-hX];have hrvs:(AVal.bool true).scal=true:=rfl;have hrvl:(AVal.bool true).live=true:=rfl;have hbn:=Xj 1 none;have hccl:∀v:AVal,v.live=true->(ZJ v).live=true:=fun v hv=>by cases v<;>exact hv
 have hc2:=hccl _ hbn;refine qR (n:=32) (rs:=[.tmp 2, .cell 3 35]) Tryz.func21 rfl rfl rfl rfl (Nat.le_of_ble_eq_true rfl) ?_;simp only[Qd];refine awp_rseq [0,3] (by rfl) fun K hK=>?_;simp+decide only[ev,qJ,qG,putD,Slots.put,if_false,true_and,↓qd,qb];refine Qg qas (cs:=[.int .i64 0, .int .i64 0, .int .i64 0]) (by rfl) fun k0q1 hk0q1=>?_;try have hf_0q1:h k0q1=none:=by first|assumption|(simp only[AHeap.set_none]at hk0q1;simp only[hk0q1])
 simp+decide only[qa,putD,Slots.put,Slots.keep,if_true,if_false];apply hK;clear hK K;refine awp_rseq [3,4] (by rfl) fun K hK=>?_;simp+decide only[ev,qJ,qG,putD,Slots.put,Slots.get,if_true,if_false,true_and,↓qj,qf,↓Qn,↓qU,bld89_0,evP,List.map_cons,List.map_nil,hSv];refine Qg ze89 (cs:=[.nilSlice, .int .i64 0]) (by rfl) fun k1q2 hk1q2=>?_;have ne_1q2_0q1:k1q2≠k0q1:=by simp only[AHeap.set_none]at hk1q2;simp only[hk1q2,ne_eq,not_false_eq_true]
 try have hf_1q2:h k1q2=none:=by first|assumption|(simp only[AHeap.set_none]at hk1q2;simp only[hk1q2])
 refine qo (by rfl) (by rfl) (by repeat (first|exact AHeap.set_same _ _ _|assumption|refine(AHeap.set_ne _ _ (by first|assumption|exact Ne.symm (by assumption))).trans ?_)) sz89 (by rfl) (by rfl) (by first|exact Nat.le_refl _|decide|(simp;done)|(simp;omega)) (Nat.zero_le _) (by first|rfl|(simp+decide only[ev,putD,Slots.put,Slots.get,if_true,if_false,AVal.cells,Qz,Bool.and_true,hvs,XA])) ?_;simp only[AHeap.set_set,AVal.cells];simp+decide only[qa,ev,putD,Slots.put,Slots.get,Slots.keep,if_true,if_false,setAt,List.set_cons_zero,List.set_cons_succ,Nat.zero_add];apply hK;clear hK K;refine awp_rseq [3,4,5] (by rfl) fun K hK=>?_;refine Qg ze76 (cs:=[.nilSlice, .nilMap, .nilSlice, .int .i64 0]) (by rfl) fun k2q0 hk2q0=>?_;have ne_2q0_0q1:k2q0≠k0q1:=by simp only[AHeap.set_none]at hk2q0;simp only[hk2q0,ne_eq,not_false_eq_true]
 have ne_2q0_1q2:k2q0≠k1q2:=by simp only[AHeap.set_none]at hk2q0;simp only[hk2q0,ne_eq,not_false_eq_true]
 try have hf_2q0:h k2q0=none:=by first|assumption|(simp only[AHeap.set_none]at hk2q0;simp only[hk2q0])
 simp+decide only[qa,putD,Slots.put,Slots.keep,if_true,if_false];apply hK;clear hK K;refine Qv ?_;refine XE [3,4,5] (fun s:UsG=>[(3, .ptr (.own k0q1) 0),(4, .ptr (.own k1q2) 0),(5, .ptr (.own k2q0) 0)]) (fun s:UsG=>UH ((h.set k0q1 ⟨[.int .i64 0, .int .i64 0, .int .i64 0],0⟩).set k1q2 ⟨[v, .int .i64 s.i],0⟩) k2q0 .nilSlice .nilMap s.nb 0) (fun s:UsG=>UsOk h k0q1 k1q2 k2q0 l X s) (fun s:UsG=>l.length-s.i) ⟨0,none,[]⟩ (by rfl) (Sub.refl _) ⟨Nat.zero_le _,fun Y=>⟨(AHeap.set_ne _ _ ne_2q0_1q2).trans ((AHeap.set_ne _ _ ne_2q0_0q1).trans hf_2q0),fun _=>trivial,rfl⟩,Nat.le_refl _,hX0⟩ ?_;rintro⟨i,nb,ns⟩ ⟨g1,g2,g3,g4⟩;simp only at g1 g2 g3 g4|-
 have g2i:=g2 ⟨[v, .int .i64 i],0⟩;obtain⟨G,hG⟩:∃G,G=(h.set k0q1 ⟨[.int .i64 0, .int .i64 0, .int .i64 0],0⟩).set k1q2 ⟨[v, .int .i64 i],0⟩:=⟨_,rfl⟩
 rw[<-hG]at g2i|-
 have hBG:Sub h G:=by rw[hG];exact(by repeat (first|exact Sub.refl _|assumption|refine Sub.set_both ?_ _ _|refine Sub.trans_set ?_ (by repeat (first|assumption|refine(AHeap.set_ne _ _ (by first|assumption|exact Ne.symm (by assumption))).trans ?_))))
 have gb_0:G k0q1=some ⟨[.int .i64 0, .int .i64 0, .int .i64 0],0⟩:=by rw[hG];exact(by repeat (first|exact AHeap.set_same _ _ _|assumption|refine(AHeap.set_ne _ _ (by first|assumption|exact Ne.symm (by assumption))).trans ?_))
 have gb_1:G k1q2=some ⟨[v, .int .i64 i],0⟩:=by rw[hG];exact AHeap.set_same _ _ _
 obtain⟨H1,hH1⟩:∃H1,H1=UH G k2q0 .nilSlice .nilMap nb 0:=⟨_,rfl⟩
 have hGH:Sub G H1:=by rw[hH1];exact g2i.above
 have hs_H1:Sub h H1:=hBG.trans hGH;have eb_2q0:H1 k2q0=some ⟨[.nilSlice, .nilMap,QO 1 nb, .int .i64 0],0⟩:=by rw[hH1];exact g2i.at
 have eb_0q1:H1 k0q1=some ⟨[.int .i64 0, .int .i64 0, .int .i64 0],0⟩:=hGH _ _ gb_0;have eb_1q2:H1 k1q2=some ⟨[v, .int .i64 i],0⟩:=hGH _ _ gb_1;have hbn:=Xj 1 nb;have hc2:=hccl _ hbn;have hstp:=usesR_step g1 ns;rw[g4]at hstp;rw[<-hH1];refine Qv ?_;refine awp_rseq [3,4,5,7,8,9] (by rfl) fun K hK=>?_;refine QH (by rfl) (by rfl) (c_nextP w0 H1 h k1q2 v l i eb_1q2 hs_H1 hf_1q2 hv (by omega) g1) fun x3q0 h3q0 hx3q0=>?_;obtain⟨hsub3,j,eb_1q2,hj,hcase⟩:=hx3q0;have hcl:=qaZ g1;have hstm:Xo l i<l.length->_:=fun hc=>Wp (l:=l) (i:=Xo l i+1) (by omega);obtain⟨ci,hci⟩:∃ci,ci=Xo l i:=⟨_,rfl⟩
 rw[<-hci]at hcase hcl hstm hstp;obtain⟨sm,hsm⟩:∃sm,sm=QT l (ci+1):=⟨_,rfl⟩
 rw[<-hsm]at hcase hstm hstp;obtain⟨bv,t,rv,more,f,rfl,hrvs,hcase⟩:∃bv t rv more f,x3q0=nextV bv t rv more f/\rv.scal=true/\
  ((f≠okF/\X=([],f))\/(f=okF/\more=false/\X=(ns,okF))\/(f=okF/\more=true/\ci<l.length/\sm.ok=true/\t=sm.name/\j=sm.at_)):=by
  rcases hcase with⟨z1,bv,rfl,z2⟩|⟨z1,z2,rfl⟩|⟨z1,z2,z3,bv,rv,E,rfl,z4,z5,z6,z7⟩
  ·rw[if_pos z1]at hstp
   exact⟨bv,_,_,_,_,rfl,rfl, .inr (.inl ⟨rfl,rfl,hstp⟩)⟩
  ·rw[if_neg (by omega),if_pos z2]at hstp
   exact⟨.nilSlice,_,_,_,_,rfl,rfl, .inl ⟨faultAt_ne _ _ _,hstp⟩⟩
  ·exact⟨bv,_,rv,_,_,rfl,(by obtain⟨qs,-,q2,-⟩:=z7;exact q2.scal), .inr (.inr ⟨rfl,rfl,z1,z2,rfl,z3⟩)⟩
 have hrvl:=ZW hrvs;have hd:∀k d,H1 k=some d->k≠k1q2->h3q0 k=some d:=fun k d hk hn=>hsub3 k d (by simp only[AHeap.del,hn,if_false];exact hk);have eb_2q0:h3q0 k2q0=some ⟨[.nilSlice, .nilMap,QO 1 nb, .int .i64 0],0⟩:=hd _ _ eb_2q0 ne_2q0_1q2;have eb_0q1:h3q0 k0q1=some ⟨[.int .i64 0, .int .i64 0, .int .i64 0],0⟩:=hd _ _ eb_0q1 ne_1q2_0q1.symm;have hs_h3q0:Sub h h3q0:=(qaJ hs_H1 hf_1q2).trans hsub3;have hasN:hasB h3q0 nb:=fun b e=>hd _ _ (by rw[hH1];exact hasB_buf _ nb b e) (by
  subst e;have h1:(G.set k2q0 ⟨[],0⟩) b.blk=none:=(g2i.ok ⟨[],0⟩).1;intro z;rw[z,AHeap.set_ne _ _ ne_2q0_1q2.symm,gb_1]at h1;cases h1)
 unfold nextV stmC;simp+decide only[ev,putD,Slots.put,Slots.get,if_true,if_false,true_and,↓qj,qf,↓QJ,QC,QG,List.length_cons,List.length_nil,List.getD_cons_zero,List.getD_cons_succ,List.getD_cons_zero,List.getD_cons_succ,Nat.zero_add,Nat.reduceAdd,QN];refine Qg ze91 (cs:=[.int .u8 0, .str [], .int .i64 0, .int .i64 0, .bool false, .nilSlice]) (by rfl) fun k3q6 hk3q6=>?_;have hn_3q6:h3q0 k3q6=none:=by first|assumption|(simp only[AHeap.set_none]at hk3q6;simp only[hk3q6])
 have hf_3q6:h k3q6=none:=Sub.none hs_h3q0 hn_3q6;have ne_3q6_2q0:k3q6≠k2q0:=AHeap.ne_some hn_3q6 eb_2q0;have ne_3q6_0q1:k3q6≠k0q1:=AHeap.ne_some hn_3q6 eb_0q1;have ne_3q6_1q2:k3q6≠k1q2:=AHeap.ne_some hn_3q6 eb_1q2;refine Qg qas (cs:=[.int .i64 0, .int .i64 0, .int .i64 0]) (by rfl) fun k3q7 hk3q7=>?_;have ne_3q7_3q6:k3q7≠k3q6:=by simp only[AHeap.set_none]at hk3q7;simp only[hk3q7,ne_eq,not_false_eq_true]
 have hn_3q7:h3q0 k3q7=none:=by first|assumption|(simp only[AHeap.set_none]at hk3q7;simp only[hk3q7])
 have hf_3q7:h k3q7=none:=Sub.none hs_h3q0 hn_3q7;have ne_3q7_2q0:k3q7≠k2q0:=AHeap.ne_some hn_3q7 eb_2q0;have ne_3q7_0q1:k3q7≠k0q1:=AHeap.ne_some hn_3q7 eb_0q1;have ne_3q7_1q2:k3q7≠k1q2:=AHeap.ne_some hn_3q7 eb_1q2;simp+decide only[ev,putD,Slots.put,Slots.get,if_true,if_false,true_and,↓qd,qb];refine qo (by rfl) (by rfl) (by repeat (first|exact AHeap.set_same _ _ _|assumption|refine(AHeap.set_ne _ _ (by first|assumption|exact Ne.symm (by assumption))).trans ?_)) Uw (by rfl) (by rfl) (by first|exact Nat.le_refl _|decide|(simp;done)|(simp;omega)) (Nat.zero_le _) (by first|rfl|(simp+decide only[ev,Slots.get,if_true,if_false,AVal.cells,Qz,Bool.and_true,hrvs,XA,XF,Xn])) ?_;simp only[AVal.cells];simp+decide only[ev,putD,Slots.put,Slots.get,if_true,if_false,true_and,↓qd,qb,setAt,List.set_cons_zero,List.set_cons_succ,Nat.zero_add,Nat.reduceAdd];refine qo (by rfl) (by rfl) (by repeat (first|exact AHeap.set_same _ _ _|assumption|refine(AHeap.set_ne _ _ (by first|assumption|exact Ne.symm (by assumption))).trans ?_)) QA (by rfl) (by rfl) (by first|exact Nat.le_refl _|decide|(simp;done)|(simp;omega)) (Nat.zero_le _) (by first|rfl|(simp+decide only[ev,putD,Slots.put,Slots.get,if_true,if_false,AVal.cells,Qz,Bool.and_true,Bool.true_and,hvs,hrvs,XA,XF,Xn])) ?_;simp only[AVal.cells];simp+decide only[qa,ev,putD,Slots.get,Slots.keep,if_true,if_false,setAt,List.set_cons_zero,List.set_cons_succ,Nat.zero_add,Nat.reduceAdd];apply hK;clear hK K;refine qO ?_;obtain⟨C4,hC4⟩:∃C4,C4=(h3q0.set k3q6 ⟨[.int .u8 t.kind.toNat, .str t.text, .int .i64 t.line, .int .i64 t.col, .bool t.left,rv],0⟩).set k3q7 ⟨[.int .i64 f.e, .int .i64 f.line, .int .i64 f.col],0⟩:=⟨_,rfl⟩
 refine Awp.forget (h':=C4) (by rw[hC4];exact Sub.set_both (Sub.set_both (Sub.trans_set (Sub.set hn_3q6) hn_3q7) _ _) _ _) ?_;have h34:Sub h3q0 C4:=by rw[hC4];exact Sub.trans_set (Sub.set hn_3q6) hn_3q7
 have hs_C4:Sub h C4:=hs_h3q0.trans h34;have eb_2q0:=h34 _ _ eb_2q0;have eb_0q1:=h34 _ _ eb_0q1;have eb_1q2:=h34 _ _ eb_1q2;have eb_3q6:C4 k3q6=some ⟨[.int .u8 t.kind.toNat, .str t.text, .int .i64 t.line, .int .i64 t.col, .bool t.left,rv],0⟩:=by rw[hC4];exact(by repeat (first|exact AHeap.set_same _ _ _|assumption|refine(AHeap.set_ne _ _ (by first|assumption|exact Ne.symm (by assumption))).trans ?_))
 have eb_3q7:C4 k3q7=some ⟨[.int .i64 f.e, .int .i64 f.line, .int .i64 f.col],0⟩:=by rw[hC4];exact AHeap.set_same _ _ _
 have w7:IsL w0 (QS (fun _=>none) nb) 1 (QO 1 nb) (ns.map qci):=IsL.buf ((g2i.ok ⟨[],0⟩).sub (qca _)) (by decide) g2i.eq namC_wide (Sub.refl _);have nN:WG k0q1 nb:=YG (g2i.ok ⟨[],0⟩) ((AHeap.set_ne _ _ ne_2q0_0q1.symm).trans gb_0);refine awp_rseq [3,4,5,7,8,9,20] (by rfl) fun K hK=>?_;simp+decide only[qa,ev,qJ,qG,putD,Slots.put,Slots.get,Slots.keep,if_true,if_false,true_and,↓qF,Qa,qg Xf QA,↓Qn,↓qU,Zk,evP,List.map_nil,↓qB,qm,qV,cond_false,ZO,ne35,Qr w0 eb_3q7,qc,List.getD_cons_zero,List.getD_cons_succ,Nat.zero_add,Nat.reduceAdd,qh,allLive,Bool.and_true,Wh];apply hK;clear hK K;refine qK (b:=_) rfl (fun hb1=>?_) (fun hb1=>?_)
 ·try simp only[decide_eq_false_iff_not,Bool.not_eq_true']at hb1
  have hXb:X=([],f):=by
   rcases hcase with⟨-,z⟩|⟨z,-⟩|⟨z,-⟩
   ·exact z
   ·exact absurd z hb1
   ·exact absurd z hb1
  refine XL 2 [2,3] mixed (by kernel_rfl) (by rfl) (by rfl) fun K hK=>?_;simp+decide only[ev,qJ,qG,putD,Slots.put,Slots.get,if_true,if_false,true_and,↓qF,Qa,qg Xf QA,↓qd,qb,Qr w0 eb_3q7,qc,List.getD_cons_zero,List.getD_cons_succ,Nat.zero_add,Nat.reduceAdd,qh,allLive,Bool.and_true];refine qo (by rfl) (by rfl) (by repeat (first|exact AHeap.set_same _ _ _|assumption|refine(AHeap.set_ne _ _ (by first|assumption|exact Ne.symm (by assumption))).trans ?_)) QA (by rfl) (by rfl) (by first|exact Nat.le_refl _|decide|(simp;done)|(simp;omega)) (Nat.zero_le _) (by first|rfl|(simp+decide only[ev,putD,Slots.put,Slots.get,if_true,if_false,AVal.cells,Qz,Bool.and_true,Bool.true_and,hvs,hrvs,XA,XF,Xn])) ?_;simp only[AVal.cells];simp+decide only[qa,ev,putD,Slots.get,Slots.keep,if_true,if_false,setAt,List.set_cons_zero,List.set_cons_succ,Nat.zero_add,Nat.reduceAdd];apply hK;clear hK K;refine qN ?_;try simp only[Qf,Qp]
  refine QM (?_) ?_
  ·simp+decide only[Qy,qp,qi,Slots.get,if_true,if_false,and_true,qp,qi,qg Xf QA,qZ,qc,List.getD_cons_zero,List.getD_cons_succ,Nat.zero_add,Nat.reduceAdd,qh,allLive,Bool.and_true,qc,List.getD_cons_zero,List.getD_cons_succ,Nat.zero_add,Nat.reduceAdd,qh,allLive,Bool.and_true]
  simp+decide only[Slots.get,if_true,if_false,QW,qp,qi,qg Xf QA,qZ,qc,List.getD_cons_zero,List.getD_cons_succ,Nat.zero_add,Nat.reduceAdd,qh,allLive,Bool.and_true,qc,List.getD_cons_zero,List.getD_cons_succ,Nat.zero_add,Nat.reduceAdd,qh,allLive,Bool.and_true,QN];rw[hXb];exact⟨_,Sub.refl _, .nilSlice,rfl,(by repeat (first|exact Sub.refl _|assumption|refine Sub.set_both ?_ _ _|refine Sub.trans_set ?_ (by repeat (first|assumption|refine(AHeap.set_ne _ _ (by first|assumption|exact Ne.symm (by assumption))).trans ?_)))),rfl, .nil⟩
 ·try simp only[decide_eq_true_eq,Bool.not_eq_false']at hb1
  obtain⟨hf0,hcase⟩:f=okF/\((more=false/\X=(ns,okF))\/(more=true/\ci<l.length/\sm.ok=true/\t=sm.name/\j=sm.at_)):=by
   rcases hcase with⟨z,-⟩|⟨z1,z2⟩|⟨z1,z2⟩
   ·exact absurd (by simpa using hb1) z
   ·exact⟨z1, .inl z2⟩
   ·exact⟨z1, .inr z2⟩
  refine qW ?_;change Awp _ _ _ _ _ _ _;refine qO ?_;refine awp_rseq [3,4,5,7,23] (by rfl) fun K hK=>?_;simp+decide only[qa,ev,putD,Slots.put,Slots.get,Slots.keep,if_true,if_false,true_and,↓qj,qf,↓ZY,XG,ZN];apply hK;clear hK K;refine qK (b:=_) rfl (fun hb2=>?_) (fun hb2=>?_)
  ·try simp only[Bool.not_eq_true']at hb2
   have hXo:X=(ns,okF):=by
    rcases hcase with⟨-,z⟩|⟨z,-⟩
    ·exact z
    ·rw[z]at hb2;cases hb2
   refine awp_rseq [2,3] (by rfl) fun K hK=>?_;simp+decide only[ev,putD,Slots.put,Slots.get,if_true,if_false,true_and,↓qA,ql,fa76_2,↓qF,Qa,qw ag30,Qr w0 eb_2q0,List.getD_cons_zero,List.getD_cons_succ,Nat.zero_add,hbn];refine qM (V:=ZJ (QO 1 nb)) (by rfl) (by rfl) (c_clipN w0 _ _ ns (w7.mono (qcb (hasN.mono h34)))) ?_;simp+decide only[ev,qJ,qG,putD,Slots.put,Slots.get,if_true,if_false,true_and,↓Qn,↓qU,Zk,evP,List.map_nil,↓qd,qb];refine qo (by rfl) (by rfl) (by repeat (first|exact AHeap.set_same _ _ _|assumption|refine(AHeap.set_ne _ _ (by first|assumption|exact Ne.symm (by assumption))).trans ?_)) QA (by rfl) (by rfl) (by first|exact Nat.le_refl _|decide|(simp;done)|(simp;omega)) (Nat.zero_le _) (by first|rfl|(simp+decide only[ev,putD,Slots.put,Slots.get,if_true,if_false,AVal.cells,Qz,Bool.and_true,Bool.true_and,hvs,hrvs,XA,XF,Xn])) ?_;simp only[AVal.cells];simp+decide only[qa,ev,putD,Slots.get,Slots.keep,if_true,if_false,setAt,List.set_cons_zero,List.set_cons_succ,Nat.zero_add,Nat.reduceAdd];apply hK;clear hK K;refine qN ?_;try simp only[Qf,Qp]
   refine QM (?_) ?_
   ·simp+decide only[Qy,qp,qi,Slots.get,if_true,if_false,and_true,qp,qi,qg Xf QA,qZ,qc,List.getD_cons_zero,List.getD_cons_succ,Nat.zero_add,Nat.reduceAdd,qh,allLive,Bool.and_true,qc,List.getD_cons_zero,List.getD_cons_succ,Nat.zero_add,Nat.reduceAdd,qh,allLive,Bool.and_true]
   simp+decide only[Slots.get,if_true,if_false,QW,qp,qi,qg Xf QA,qZ,qc,List.getD_cons_zero,List.getD_cons_succ,Nat.zero_add,Nat.reduceAdd,qh,allLive,Bool.and_true,qc,List.getD_cons_zero,List.getD_cons_succ,Nat.zero_add,Nat.reduceAdd,qh,allLive,Bool.and_true,QN];rw[hXo];exact⟨_,Sub.refl _,ZJ (QO 1 nb),rfl,(by repeat (first|exact Sub.refl _|assumption|refine Sub.set_both ?_ _ _|refine Sub.trans_set ?_ (by repeat (first|assumption|refine(AHeap.set_ne _ _ (by first|assumption|exact Ne.symm (by assumption))).trans ?_)))),qcZ _,(w7.mono (qcb ((hasN.mono h34).set nN _))).clip⟩
  ·try simp only[Bool.not_eq_false']at hb2
   obtain⟨m2,m3,rfl,m5⟩:ci<l.length/\sm.ok=true/\t=sm.name/\j=sm.at_:=by
    rcases hcase with⟨z,-⟩|⟨-,z⟩
    ·rw[z]at hb2;cases hb2
    ·exact z
   have hm0:=hstm m2;rw[if_neg (by omega),if_neg (by rw[m3];decide),<-m5]at hstp;have hsu:Sub (UH ((h.set k0q1 ⟨[.int .i64 0, .int .i64 0, .int .i64 0],0⟩).set k1q2 ⟨[v, .int .i64 j],0⟩) k2q0 .nilSlice .nilMap nb 0) C4:=sub_use (qaf (qaf hs_C4 eb_0q1) eb_1q2) eb_2q0 (hasN.mono h34);have hal:=addE_len ns sm.name.text;refine qW ?_;change Awp _ _ _ _ _ _ _;refine XI [3,4,5] (by rfl) ?_;simp+decide only[ev,putD,Slots.put,Slots.get,if_true,if_false,true_and,↓qA,ql,fa91_0,UD,↓qF,Qa,qw ag9,Qr w0 eb_3q6,List.getD_cons_zero,List.getD_cons_succ,Nat.zero_add,qE,QN];refine QH (by rfl) (by rfl) (ACall.down hsu (c_use w0 _ k2q0 .nilSlice .nilMap nb 0 ns sm.name.text (g2 ⟨[v, .int .i64 j],0⟩) (by omega) rfl rfl)) fun x8q3 h8q3 hx8q3=>?_;obtain⟨-,nb2,hu2,hh8⟩:=hx8q3;simp+decide only[qa,putD,Slots.put,Slots.keep,if_true,if_false];try simp only[Qj,Yc]
   exact⟨⟨j,nb2,Cop.addE ns sm.name.text⟩,rfl,by(rw[hh8];exact Sub.refl _),⟨hj,fun Y=>hu2.same (swap_none _ _),by simp only;omega,hstp.symm⟩,by simp only;omega⟩
end Go.Proofs.YtlhhaagmakhilaaGreatDoor
namespace Go.Proofs.YtlhhaagmakhilaaGreatDoor
open Go.AM
open Go.Proofs
open Go.Col
open Go.Tok
open Go.RowKit (Below)
set_option maxRecDepth 100000
def qcp:Str->Str
 |[]=>[]
 |b::s=>if b=34 then 34::34::qcp s else b::qcp s
theorem dblE_app:∀a b:Str,qcp (a++b)=qcp a++qcp b
 |[],_=>rfl
 |x::a,b=>by
  rw[List.cons_append,qcp,qcp,dblE_app a b];split<;>rfl
theorem dblE_none:∀{a:Str},(34:UInt8)∉a->qcp a=a
 |[],_=>rfl
 |x::a,h=>by
  simp only[List.mem_cons,not_or]at h;rw[qcp,if_neg (fun e=>h.1 e.symm),dblE_none h.2]
theorem dblE_len(s:Str):(qcp s).length<=2*s.length:=by
 induction s with
 |nil=>exact Nat.le_refl _
 |cons b s ih=>
  rw[qcp];split<;>simp only[List.length_cons]<;>omega
theorem repl_eq:∀(n:Nat) (s:Str),s.length<=n->Lib.replaceK [34] [34,34] (Lib.count s [34]) s=qcp s
 |0,s,h=>by
  have:s=[]:=List.eq_nil_of_length_eq_zero (by omega);subst this;rfl
 |n+1,s,h=>by
  rcases index_one s 34 with⟨h1,h2⟩|⟨i,h1,h2,h3,h4⟩
  ·rw[Lib.count_miss h1,dblE_none h2]
   rfl
  ·have hc:Lib.count s [34]=Lib.count (s.drop (i+1)) [34]+1:=by
    have:=Lib.count_hit (s:=s) (sub:=[34]) (i:=i) (by decide) h1;rw[this,Nat.add_comm];rfl
   rw[hc,Lib.replaceK_hit _ _ _ _ i h1];have ih:=repl_eq n (s.drop (i+1)) (by rw[List.length_drop];omega);show s.take i++[34,34]++Lib.replaceK [34] [34,34] (Lib.count (s.drop (i+1)) [34]) (s.drop (i+1))=_
   rw[ih];conv=>rhs;rw[h3,dblE_app,dblE_none h4,qcp,if_pos rfl]
   simp
theorem repl_len(s:Str):Lib.count s [34]<=s.length:=by
 have:∀(n:Nat) (s:Str),s.length<=n->Lib.count s [34]<=s.length:=by
  intro n;induction n with
  |zero=>
   intro s h;have:s=[]:=List.eq_nil_of_length_eq_zero (by omega);subst this;exact Nat.le_refl _
  |succ n ih=>
   intro s h;rcases index_one s 34 with⟨h1,h2⟩|⟨i,h1,h2,h3,h4⟩
   ·rw[Lib.count_miss h1];exact Nat.zero_le _
   ·rw[Lib.count_hit (s:=s) (sub:=[34]) (i:=i) (by decide) h1]
    have:=ih (s.drop (i+[34].length)) (by rw[List.length_drop];simp;omega);rw[List.length_drop]at this;simp only[List.length_cons,List.length_nil]at this|-
    omega
 exact this _ s (Nat.le_refl _)
theorem c_dbl(w0:World)(hm:MaxL w0)(h:AHeap)(s:Str)(hl:s.length<=100000000):ACall Tryz.prog w0 54 [.str s, .str [34], .str [34,34]] h (fun v h'=>v= .str (qcp s)/\h'=h):=by
 obtain⟨m,hm⟩:=hm;have hlt:0<w0.heap.size:=cell_lt hm;refine acall_of_callsB (vals:=[.string ⟨⟨s⟩⟩, .string ⟨⟨[34]⟩⟩, .string ⟨⟨[34,34]⟩⟩]) (val:= .string ⟨⟨qcp s⟩⟩) Tryz.func54 rfl rfl (fun fi vs hv=>?_) (fun fi=>rfl) fun w hb=>?_
 ·simp only[VRs,VR]at hv
  obtain⟨v,vs',rfl,rfl,v2,vs2,rfl,rfl,v3,vs3,rfl,rfl,rfl⟩:=hv;rfl
 ·have hw:w.cell? ⟨0,0,none⟩=some (.int .i64 m):=(hb.cell (p:=⟨0,0,none⟩) hlt).trans hm
  have hcn:Lib.countB ⟨⟨s⟩⟩ ⟨⟨[34]⟩⟩<=s.length:=by
   have h1:=repl_len s;exact h1
  refine(Tryz.strings_ReplaceAll ⟨⟨s⟩⟩ ⟨⟨[34]⟩⟩ ⟨⟨[34,34]⟩⟩ m w (by show s.length<_;omega) hw (by decide) (by show s.length+_*2<=_;omega)).mono fun e w' ⟨e1,e2⟩=>⟨?_,e2⟩
  rw[e1];show Ending.returned (.string ⟨⟨Lib.replaceAll s [34] [34,34]⟩⟩)=_
  unfold Lib.replaceAll Lib.replace Lib.replaceNum;rw[if_neg (by decide),if_pos (.inl (by decide)),repl_eq _ _ (Nat.le_refl _)]
def UW(t:TokC):Str:=if t.kind=3 then 34::qcp t.text++[34]else if t.kind=6 then[46]else if t.kind=7 then[61,61]else t.text
def textE(l:List TokC):Str:=Lib.join (l.map UW) [32]
theorem textT_len(t:TokC):(UW t).length<=2*t.text.length+2:=by
 have:=dblE_len t.text;unfold UW;split
 ·simp;omega
 split
 ·simp
 split
 ·simp
 ·omega
def strT(s:Str):List AVal:=[.str s]
structure TxtOk(h:AHeap)(l:List TokC)(g:Nat×Option Buf):Prop where
 i:g.1<=l.length
 ok:bufOk h 1 g.2
 eq:Uf g.2=((l.take g.1).map fun t=>strT (UW t)).flatten
theorem join_lenT{sep:Str}{m:Nat}:∀{l:List Str},(∀x∈l,x.length<=m)->(Lib.join l sep).length<=l.length*(m+sep.length)
 |[],_=>by simp[Lib.join]
 |[x],h=>by
  have:=h x (by simp);simp[Lib.join];omega
 |x::y::l,h=>by
  have ih:=join_lenT (sep:=sep) (l:=y::l) fun z hz=>h z (by simp[hz]);have hx:=h x (by simp);have e:Lib.join (x::y::l) sep=x++sep++Lib.join (y::l) sep:=by
   unfold Lib.join;rw[List.intercalate_cons_cons]
  rw[e];simp only[List.length_append];have:(x::y::l).length*(m+sep.length)=(y::l).length*(m+sep.length)+(m+sep.length):=by
   rw[List.length_cons,Nat.add_mul,Nat.one_mul]
  omega
set_option maxHeartbeats 1000000 in
theorem c_Text(w0:World)(hm:MaxL w0)(h:AHeap)(v:AVal)(l:List TokC)(hv:IsL w0 h 5 v (l.map Xw))(hl:l.length<=65536)(hb:∀t∈l,t.text.length<=100000000):
 ACall Tryz.prog w0 45 [v] h (fun r h'=>r= .str (textE l)/\h'=h):=by
 have hlv:=hv.live;have hlen:=Zy hv;refine qR (n:=42) (rs:=[.tmp 2]) Tryz.func45 rfl rfl rfl rfl (Nat.le_of_ble_eq_true rfl) ?_;simp only[Qd];refine awp_rseq [0] (by rfl) fun K hK=>?_;simp+decide only[qa,ev,qJ,qG,putD,Slots.put,Slots.keep,if_true,if_false,true_and,↓qd,qb];apply hK;clear hK K;refine awp_rseq [0,3] (by rfl) fun K hK=>?_;simp+decide only[qa,ev,qJ,qG,putD,Slots.put,Slots.keep,if_true,if_false,true_and,↓qd,qb];apply hK;clear hK K;refine qO ?_;refine awp_rseq [3,6,7,8] (by rfl) fun K hK=>?_;simp+decide only[qa,ev,qJ,qG,putD,Slots.put,Slots.get,Slots.keep,if_true,if_false,true_and,↓qj,qf,↓Xz,QK,hlen];apply hK;clear hK K;refine Qv ?_;refine XE [3,6,7,8] (fun g:Nat×Option Buf=>[(3,QO 1 g.2),(6,v),(7, .int .i64 l.length),(8, .int .i64 g.1)]) (fun g:Nat×Option Buf=>QS h g.2) (fun g:Nat×Option Buf=>TxtOk h l g) (fun g:Nat×Option Buf=>l.length-g.1) (0,none) (by rfl) (Sub.refl _) ⟨Nat.zero_le _,trivial,rfl⟩ ?_;rintro⟨i,b⟩ ⟨g1,g2,g3⟩;simp only at g1 g2 g3|-
 have hbs:=Sub.buf g2;refine awp_rseq [3,6,7,8,9] (by rfl) fun K hK=>?_;simp+decide only[qa,ev,putD,Slots.put,Slots.get,Slots.keep,if_true,if_false,true_and,↓qB,qm,qV,cond_false,qz,XZ];apply hK;clear hK K;refine qO (qK (b:=_) rfl (fun hb1=>?_) (fun hb1=>?_))
 ·try simp only[decide_eq_true_eq]at hb1
  have hi:i<l.length:=by omega
  obtain⟨lc,o,c,rfl⟩:=UI hv (by omega);obtain⟨e0,e1,e2,e3,e4⟩:=qbd (hv.mono hbs) hi;obtain⟨t,ht⟩:∃t,t=l.getD i Uh:=⟨_,rfl⟩
  have htk:l.take (i+1)=l.take i++[t]:=by rw[List.take_add_one,List.getElem?_eq_getElem hi,ht];simp[List.getD,hi]
  rw[<-ht]at e0 e1 e2 e3 e4;have htb:=hb t (by rw[ht,List.getD,List.getElem?_eq_getElem hi];exact List.getElem_mem hi);have hdl:=dblE_len t.text;refine qW ?_;change Awp _ _ _ _ _ _ _;refine qO ?_;refine Qv ?_;refine awp_rseq [3,5,6,7,8] (by rfl) fun K hK=>?_;simp+decide only[ev,putD,Slots.put,Slots.get,if_true,if_false,true_and,↓Xg,Qa,Qk Tryz.underlying26 Xk,↓qF,qg Zw Xk,qc,qC,qh,qE,allLive,Bool.and_true,e0,e1,e2,e3,e4,Int.toNat_natCast];repeat (with_reducible refine And.intro ?_ ?_;· first|trivial|omega|(intro hg;simp only[Bool.and_eq_true,Bool.or_eq_true,Bool.not_eq_true',Bool.and_eq_false_iff,Bool.or_eq_false_iff,Bool.not_eq_false',decide_eq_true_eq,decide_eq_false_iff_not,Zd]at hg;omega)|(simp only[List.length_append,List.length_map,List.length_range,List.length_replicate,List.length_take,List.length_drop,List.length_cons,List.length_nil,List.length_set,List.length_reverse];omega))
  refine Qg qbV (cs:=[.int .u8 0, .str [], .int .i64 0, .int .i64 0, .bool false]) (by rfl) fun k4q2 hk4q2=>?_;try have hf_4q2:h k4q2=none:=by first|assumption|(simp only[AHeap.set_none]at hk4q2;simp only[hk4q2])
  refine qo (by rfl) (by rfl) (by repeat (first|exact AHeap.set_same _ _ _|assumption|refine(AHeap.set_ne _ _ (by first|assumption|exact Ne.symm (by assumption))).trans ?_)) Xk (by rfl) (by rfl) (by first|exact Nat.le_refl _|decide|(simp;done)|(simp;omega)) (Nat.zero_le _) (by rfl) ?_;simp only[AHeap.set_set,AVal.cells];simp+decide only[qa,ev,putD,Slots.put,Slots.get,Slots.keep,if_true,if_false,setAt,List.set_cons_zero,List.set_cons_succ,Nat.zero_add,Nat.reduceAdd];apply hK;clear hK K;refine awp_rseq [3,5,6,7,8,13] (by rfl) fun K hK=>?_;simp+decide only[qa,ev,putD,Slots.put,Slots.get,Slots.keep,if_true,if_false,true_and,↓qA,ql,fa54_0,↓qF,Qa,qw ag52,QV,List.getD_cons_zero,Nat.zero_add,qh];apply hK;clear hK K;refine Qv ?_;refine awp_rseq [3,5,6,7,8,13,19] (by rfl) fun K hK=>?_;simp+decide only[qa,ev,qJ,qG,putD,Slots.put,Slots.get,Slots.keep,if_true,if_false,true_and,↓qB,qm,qD,cond_false,qz,XB,↓qd,qb];apply hK;clear hK K;refine qK (b:=_) rfl (fun hb2=>?_) (fun hb2=>?_)
  ·try simp only[decide_eq_true_eq]at hb2
   have hk:t.kind=3:=(XT _ 3).mp hb2;have htx:UW t=[34]++qcp t.text++[34]:=by unfold UW;rw[if_pos hk];rfl
   refine XI [3,6,7,8] (by rfl) ?_;simp+decide only[ev,putD,Slots.put,Slots.get,if_true,if_false,true_and,↓qj,qf,↓qA,ql,UD,↓qF,Qa,qw ag9,QV,List.getD_cons_zero,List.getD_cons_succ,Nat.zero_add,qE];refine qM (V:= .str (qcp t.text)) (by rfl) (by rfl) (c_dbl w0 hm _ t.text htb) ?_;simp+decide only[ev,qJ,qG,putD,Slots.put,Slots.get,if_true,if_false,↓qB,qm,qV,cond_false,XN,qdD,Yb];repeat (with_reducible refine And.intro ?_ ?_;· first|trivial|omega|(intro hg;simp only[Bool.and_eq_true,Bool.or_eq_true,Bool.not_eq_true',Bool.and_eq_false_iff,Bool.or_eq_false_iff,Bool.not_eq_false',decide_eq_true_eq,decide_eq_false_iff_not,Zd]at hg;omega)|(simp only[List.length_append,List.length_cons,List.length_nil];omega))
   refine QD (cs:=[.str ([34]++qcp t.text++[34])]) (by kernel_rfl) fun k8q6 hk8q6=>?_;have ne_8q6_4q2:k8q6≠k4q2:=by simp only[AHeap.set_none]at hk8q6;simp only[hk8q6,ne_eq,not_false_eq_true]
   try have hf_8q6:h k8q6=none:=by first|assumption|(simp only[AHeap.set_none]at hk8q6;simp only[hk8q6])
   refine XY (es:=1) (zs:=(l.take i).map fun t=>strT (UW t)) (xs:=[strT ([34]++qcp t.text++[34])]) (hZ:=h) (b:=b) (by rfl) (by rfl) Tryz.underlying30 Tryz.underlying30 (fun k e=>by cases e) sz9 by9 ze9 (by rfl) (by decide) (by rfl) g2 g3 (fun y hy=>by obtain⟨d,_,rfl⟩:=List.mem_map.1 hy;rfl) ((Sub.set hk4q2).trans (Sub.set hk8q6)) (by rfl) (IsL.own (AHeap.set_same _ _ _) (by simp[strT]) (by rfl) (by rfl) (.exact 1) (Nat.le_refl _)) (by rfl) (by simp;omega) (by simp;omega) fun b' h5 o1 o2 o3=>?_;have hbl':=Xj 1 b';simp+decide only[qa,ev,putD,Slots.put,Slots.get,Slots.keep,if_true,if_false,true_and,↓qd,qb];change Awp _ _ _ _ _ _ _;refine XI [3,6,7,8] (by rfl) ?_;simp+decide only[qa,ev,qJ,qG,putD,Slots.put,Slots.get,Slots.keep,if_true,if_false,true_and,↓qB,qm,qD,cond_false,qz,Xa,↓qj,qf];try simp(disch:=omega)only[wrap_i64]
   try simp only[Qj]
   exact⟨(i+1,b'),rfl,o3,⟨hi,o1,by simp only;rw[o2,htk,List.map_append,List.map_cons,List.map_nil,htx]⟩,by simp only;omega⟩
  ·try simp only[decide_eq_false_iff_not]at hb2
   have hk3:¬t.kind=3:=fun q=>hb2 ((XT _ 3).mpr q);refine awp_rseq [3,5,6,7,8,13,29] (by rfl) fun K hK=>?_;simp+decide only[qa,ev,qJ,qG,putD,Slots.put,Slots.get,Slots.keep,if_true,if_false,true_and,↓qB,qm,qD,cond_false,qz,XB,↓qd,qb];apply hK;clear hK K;refine qK (b:=_) rfl (fun hb3=>?_) (fun hb3=>?_)
   ·try simp only[decide_eq_true_eq]at hb3
    have hk:t.kind=6:=(XT _ 6).mp hb3;have htx:UW t=[46]:=by unfold UW;rw[if_neg hk3,if_pos hk]
    refine XI [3,6,7,8] (by rfl) ?_;simp+decide only[ev,putD,Slots.put,Slots.get,if_true,if_false,true_and,↓qj,qf];refine QD (cs:=[.str ([46])]) (by kernel_rfl) fun k10q1 hk10q1=>?_;have ne_10q1_4q2:k10q1≠k4q2:=by simp only[AHeap.set_none]at hk10q1;simp only[hk10q1,ne_eq,not_false_eq_true]
    try have hf_10q1:h k10q1=none:=by first|assumption|(simp only[AHeap.set_none]at hk10q1;simp only[hk10q1])
    refine XY (es:=1) (zs:=(l.take i).map fun t=>strT (UW t)) (xs:=[strT ([46])]) (hZ:=h) (b:=b) (by rfl) (by rfl) Tryz.underlying30 Tryz.underlying30 (fun k e=>by cases e) sz9 by9 ze9 (by rfl) (by decide) (by rfl) g2 g3 (fun y hy=>by obtain⟨d,_,rfl⟩:=List.mem_map.1 hy;rfl) ((Sub.set hk4q2).trans (Sub.set hk10q1)) (by rfl) (IsL.own (AHeap.set_same _ _ _) (by simp[strT]) (by rfl) (by rfl) (.exact 1) (Nat.le_refl _)) (by rfl) (by simp;omega) (by simp;omega) fun b' h5 o1 o2 o3=>?_;have hbl':=Xj 1 b';simp+decide only[qa,ev,putD,Slots.put,Slots.get,Slots.keep,if_true,if_false,true_and,↓qd,qb];change Awp _ _ _ _ _ _ _;refine XI [3,6,7,8] (by rfl) ?_;simp+decide only[qa,ev,qJ,qG,putD,Slots.put,Slots.get,Slots.keep,if_true,if_false,true_and,↓qB,qm,qD,cond_false,qz,Xa,↓qj,qf];try simp(disch:=omega)only[wrap_i64]
    try simp only[Qj]
    exact⟨(i+1,b'),rfl,o3,⟨hi,o1,by simp only;rw[o2,htk,List.map_append,List.map_cons,List.map_nil,htx]⟩,by simp only;omega⟩
   ·try simp only[decide_eq_false_iff_not]at hb3
    have hk6:¬t.kind=6:=fun q=>hb3 ((XT _ 6).mpr q);refine awp_rseq [3,5,6,7,8,34] (by rfl) fun K hK=>?_;simp+decide only[qa,ev,qJ,qG,putD,Slots.put,Slots.get,Slots.keep,if_true,if_false,true_and,↓qB,qm,qD,cond_false,qz,XB,↓qd,qb];apply hK;clear hK K;refine qK (b:=_) rfl (fun hb4=>?_) (fun hb4=>?_)
    ·try simp only[decide_eq_true_eq]at hb4
     have hk:t.kind=7:=(XT _ 7).mp hb4;have htx:UW t=[61,61]:=by unfold UW;rw[if_neg hk3,if_neg hk6,if_pos hk]
     refine XI [3,6,7,8] (by rfl) ?_;simp+decide only[ev,putD,Slots.put,Slots.get,if_true,if_false,true_and,↓qj,qf];refine QD (cs:=[.str ([61,61])]) (by kernel_rfl) fun k12q1 hk12q1=>?_;have ne_12q1_4q2:k12q1≠k4q2:=by simp only[AHeap.set_none]at hk12q1;simp only[hk12q1,ne_eq,not_false_eq_true]
     try have hf_12q1:h k12q1=none:=by first|assumption|(simp only[AHeap.set_none]at hk12q1;simp only[hk12q1])
     refine XY (es:=1) (zs:=(l.take i).map fun t=>strT (UW t)) (xs:=[strT ([61,61])]) (hZ:=h) (b:=b) (by rfl) (by rfl) Tryz.underlying30 Tryz.underlying30 (fun k e=>by cases e) sz9 by9 ze9 (by rfl) (by decide) (by rfl) g2 g3 (fun y hy=>by obtain⟨d,_,rfl⟩:=List.mem_map.1 hy;rfl) ((Sub.set hk4q2).trans (Sub.set hk12q1)) (by rfl) (IsL.own (AHeap.set_same _ _ _) (by simp[strT]) (by rfl) (by rfl) (.exact 1) (Nat.le_refl _)) (by rfl) (by simp;omega) (by simp;omega) fun b' h5 o1 o2 o3=>?_;have hbl':=Xj 1 b';simp+decide only[qa,ev,putD,Slots.put,Slots.get,Slots.keep,if_true,if_false,true_and,↓qd,qb];change Awp _ _ _ _ _ _ _;refine XI [3,6,7,8] (by rfl) ?_;simp+decide only[qa,ev,qJ,qG,putD,Slots.put,Slots.get,Slots.keep,if_true,if_false,true_and,↓qB,qm,qD,cond_false,qz,Xa,↓qj,qf];try simp(disch:=omega)only[wrap_i64]
     try simp only[Qj]
     exact⟨(i+1,b'),rfl,o3,⟨hi,o1,by simp only;rw[o2,htk,List.map_append,List.map_cons,List.map_nil,htx]⟩,by simp only;omega⟩
    ·try simp only[decide_eq_false_iff_not]at hb4
     have hk7:¬t.kind=7:=fun q=>hb4 ((XT _ 7).mpr q);have htx:UW t=t.text:=by unfold UW;rw[if_neg hk3,if_neg hk6,if_neg hk7]
     refine XI [3,6,7,8] (by rfl) ?_;simp+decide only[ev,putD,Slots.put,Slots.get,if_true,if_false,true_and,↓qj,qf,↓qA,ql,UD,↓qF,Qa,qw ag9,QV,List.getD_cons_zero,List.getD_cons_succ,Nat.zero_add,qE];refine QD (cs:=[.str (t.text)]) (by kernel_rfl) fun k6q3 hk6q3=>?_;have ne_6q3_4q2:k6q3≠k4q2:=by simp only[AHeap.set_none]at hk6q3;simp only[hk6q3,ne_eq,not_false_eq_true]
     try have hf_6q3:h k6q3=none:=by first|assumption|(simp only[AHeap.set_none]at hk6q3;simp only[hk6q3])
     refine XY (es:=1) (zs:=(l.take i).map fun t=>strT (UW t)) (xs:=[strT (t.text)]) (hZ:=h) (b:=b) (by rfl) (by rfl) Tryz.underlying30 Tryz.underlying30 (fun k e=>by cases e) sz9 by9 ze9 (by rfl) (by decide) (by rfl) g2 g3 (fun y hy=>by obtain⟨d,_,rfl⟩:=List.mem_map.1 hy;rfl) ((Sub.set hk4q2).trans (Sub.set hk6q3)) (by rfl) (IsL.own (AHeap.set_same _ _ _) (by simp[strT]) (by rfl) (by rfl) (.exact 1) (Nat.le_refl _)) (by rfl) (by simp;omega) (by simp;omega) fun b' h5 o1 o2 o3=>?_;have hbl':=Xj 1 b';simp+decide only[qa,ev,putD,Slots.put,Slots.get,Slots.keep,if_true,if_false,true_and,↓qd,qb];change Awp _ _ _ _ _ _ _;refine XI [3,6,7,8] (by rfl) ?_;simp+decide only[qa,ev,qJ,qG,putD,Slots.put,Slots.get,Slots.keep,if_true,if_false,true_and,↓qB,qm,qD,cond_false,qz,Xa,↓qj,qf];try simp(disch:=omega)only[wrap_i64]
     try simp only[Qj]
     exact⟨(i+1,b'),rfl,o3,⟨hi,o1,by simp only;rw[o2,htk,List.map_append,List.map_cons,List.map_nil,htx]⟩,by simp only;omega⟩
 ·try simp only[decide_eq_false_iff_not]at hb1
  refine XJ ?_;change Awp _ _ _ _ _ _ _;have hie:i=l.length:=by omega
  rw[hie,List.take_length]at g3;have hst:IsStrs w0 (QS h b) (QO 1 b) (l.map UW):=by
   have:=IsL.buf (w0:=w0) g2 (by decide) g3 (by simp[strT]) (h:=QS h b) (Sub.refl _);unfold IsStrs;rw[List.map_map];exact this
  have hjl:(Lib.join (l.map UW) [32]).length<=140737488355328:=by
   refine Nat.le_trans (join_lenT (m:=200000002) fun y hy=>?_) ?_
   ·obtain⟨d,hd,rfl⟩:=List.mem_map.1 hy
    have h1:=textT_len d;have h2:=hb d hd;omega
   ·rw[List.length_map]
    exact Nat.le_trans (Nat.mul_le_mul_right _ hl) (by decide)
  refine awp_rseq [2] (by rfl) fun K hK=>?_;simp+decide only[ev,putD,Slots.put,Slots.get,if_true,if_false,true_and,↓qj,qf];refine qM (V:= .str (textE l)) (by rfl) (by rfl) (c_join w0 _ _ _ _ hst (by simp;omega) hjl) ?_;simp+decide only[qa,ev,putD,Slots.put,Slots.get,Slots.keep,if_true,if_false,true_and,↓qd,qb];apply hK;clear hK K;refine qN ?_;refine qY h hbs (Qb (Qe)) ?_;simp+decide only[Slots.get,if_true,and_true,Qw];all_goals first|rfl|exact⟨rfl,rfl⟩|(simp+decide only[if_true,if_false, *];done)|(trace_state;fail)
end Go.Proofs.YtlhhaagmakhilaaGreatDoor
namespace Go.Proofs.YtlhhaagmakhilaaGreatDoor
open Go.AM
open Go.Proofs
open Go.Col (Str FaultC okF sp)
open Go.Tok
open Go.Cop
open Go.RowKit (Below)
set_option maxRecDepth 100000
theorem qcs(tb:Option Buf):(ZJ (QO 5 tb)).live=true:=by cases tb<;>rfl
theorem capV_scal(tb:Option Buf):(ZJ (QO 5 tb)).scal=true:=by cases tb<;>rfl
theorem capV_Sc(tb:Option Buf):Sc (ZJ (QO 5 tb))=True:=by cases tb<;>exact eq_true trivial
theorem qda(w0:World)(hm:MaxL w0)(h:AHeap)(s:Str)(hl:s.length<=1000000):ACall Tryz.prog w0 20 [.str s] h (fun r h'=>OutR h (YT s) r h'):=by
 have hsp:(sp 11++s).length<=9223372036854775807:=by simp[sp];omega
 have hcl:=qcs none;refine qR (n:=12) (rs:=[.tmp 2]) Tryz.func20 rfl rfl rfl rfl (Nat.le_of_ble_eq_true rfl) ?_;simp only[Qd];refine awp_rseq [0] (by rfl) fun K hK=>?_;simp+decide only[qa,ev,qJ,qG,putD,Slots.put,Slots.keep,if_true,if_false,true_and,↓qd,qb];apply hK;clear hK K;refine awp_rseq [3] (by rfl) fun K hK=>?_;simp+decide only[ev,qJ,qG,putD,Slots.put,Slots.get,if_true,if_false,true_and,↓qj,qf,↓qB,qm,qV,cond_false,XN,qdD];repeat (with_reducible refine And.intro ?_ ?_;· first|trivial|omega|(intro hg;simp only[Bool.and_eq_true,Bool.or_eq_true,Bool.not_eq_true',Bool.and_eq_false_iff,Bool.or_eq_false_iff,Bool.not_eq_false',decide_eq_true_eq,decide_eq_false_iff_not,Zd]at hg;omega)|(simp only[List.length_cons,List.length_nil];omega))
 refine QH (by rfl) (by rfl) (c_Source w0 hm _ (sp 11++s) false hsp) fun x1q2 h1q2 hx1q2=>?_;obtain⟨tb,rfl,o1,o2,hh1⟩:=hx1q2;have hs1:Sub h h1q2:=by rw[hh1];exact Sub.buf o1
 have hcl:=qcs tb;have hs_h1q2:Sub h h1q2:=Sub.trans (by repeat (first|exact Sub.refl _|assumption|refine Sub.trans_set ?_ (by assumption))) hs1;have hr_h1q2:=hs_h1q2;simp+decide only[ev,putD,Slots.put,Slots.get,if_true,if_false,true_and,↓qj,qf,↓QJ,QC,QG,List.length_cons,List.length_nil,List.getD_cons_zero,List.getD_cons_succ,List.getD_cons_zero,List.getD_cons_succ,Nat.zero_add,Nat.reduceAdd,QN];refine Qg qas (cs:=[.int .i64 0, .int .i64 0, .int .i64 0]) (by rfl) fun k1q6 hk1q6=>?_;have hn_1q6:h1q2 k1q6=none:=by first|assumption|(simp only[AHeap.set_none]at hk1q6;simp only[hk1q6])
 have hf_1q6:h k1q6=none:=Sub.none hs_h1q2 hn_1q6;simp+decide only[ev,putD,Slots.put,Slots.get,if_true,if_false,true_and,↓qd,qb];refine qo (by rfl) (by rfl) (by repeat (first|exact AHeap.set_same _ _ _|assumption|refine(AHeap.set_ne _ _ (by first|assumption|exact Ne.symm (by assumption))).trans ?_)) QA (by rfl) (by rfl) (by first|exact Nat.le_refl _|decide|(simp;done)|(simp;omega)) (Nat.zero_le _) (by rfl) ?_;simp only[AHeap.set_set,AVal.cells];simp+decide only[qa,ev,putD,Slots.get,Slots.keep,if_true,if_false,setAt,List.set_cons_zero,List.set_cons_succ,Nat.zero_add,Nat.reduceAdd];apply hK;clear hK K;refine awp_rseq [2] (by rfl) fun K hK=>?_;simp+decide only[qa,ev,putD,Slots.put,Slots.get,Slots.keep,if_true,if_false,true_and,↓qj,qf,↓qd,qb];apply hK;clear hK K;refine qN ?_;refine QM (Qb (Qe)) ?_;simp+decide only[Slots.get,if_true,Qw];exact⟨QS h tb,by rw[<-hh1];exact Sub.set hn_1q6,tb,rfl,o1,o2,rfl⟩
theorem c_membersL(w0:World)(hm:MaxL w0)(h:AHeap):ACall Tryz.prog w0 24 [] h (fun r h'=>IsMems w0 h' r qcl/\Sub h h'):=by
 refine qR (n:=6) (rs:=[.tmp 0]) Tryz.func24 rfl rfl rfl rfl (Nat.le_of_ble_eq_true rfl) ?_;simp only[Qd];refine awp_rseq [] (by rfl) fun K hK=>?_;simp+decide only[qa,ev,qJ,qG,putD,Slots.put,Slots.keep,if_false,true_and,↓qd,qb];apply hK;clear hK K;refine awp_rseq [0] (by rfl) fun K hK=>?_;refine QH (by rfl) (by rfl) (qda w0 hm _ _ (by decide)) fun x1q0 h1q0 hx1q0=>?_;have ht1:=hx1q0.toks (w0:=w0);obtain⟨tb1,hv1,a1,a2,a3⟩:=hx1q0;have hcl1:=qcs tb1;have hcS1:=capV_Sc tb1;subst hv1;have hs_h1q0:Sub h h1q0:=Sub.trans (by repeat (first|exact Sub.refl _|assumption|refine Sub.trans_set ?_ (by assumption))) ht1.2.2;have hr_h1q0:=hs_h1q0;simp+decide only[ev,qJ,qG,putD,Slots.put,Slots.get,if_true,if_false,true_and,↓Qn,↓qU,bld57_0_1,evP,List.map_cons,List.map_nil,hcS1];refine QH (by rfl) (by rfl) (qda w0 hm _ _ (by decide)) fun x1q2 h1q2 hx1q2=>?_;have ht2:=hx1q2.toks (w0:=w0);obtain⟨tb2,hv2,b1,b2,b3⟩:=hx1q2;have hcl2:=qcs tb2;have hcS2:=capV_Sc tb2;subst hv2;have hs_h1q2:Sub h h1q2:=Sub.trans (by repeat (first|exact Sub.refl _|assumption|refine Sub.trans_set ?_ (by assumption))) ht2.2.2;have hr_h1q2:Sub h1q0 h1q2:=Sub.trans (by repeat (first|exact Sub.refl _|assumption|refine Sub.trans_set ?_ (by assumption))) ht2.2.2;simp+decide only[ev,qJ,qG,putD,Slots.put,Slots.get,if_true,if_false,true_and,↓Qn,↓qU,bld57_0_1,evP,List.map_cons,List.map_nil,hcS2];refine QD (cs:=[.str [65],ZJ (QO 5 tb1), .str [66],ZJ (QO 5 tb2)]) (by cases tb1<;>cases tb2<;>rfl) fun k1q4 hk1q4=>?_;have hn_1q4:h1q2 k1q4=none:=by first|assumption|(simp only[AHeap.set_none]at hk1q4;simp only[hk1q4])
 have hf_1q4:h k1q4=none:=Sub.none hs_h1q2 hn_1q4;simp+decide only[qa,ev,putD,Slots.put,Slots.get,Slots.keep,if_true,if_false,true_and,↓qd,qb];apply hK;clear hK K;refine qN ?_;refine QM (Qb (Qe)) ?_;simp+decide only[Slots.get,if_true,Qw];have hs4:Sub h1q2 (h1q2.set k1q4 ⟨[.str [65],ZJ (QO 5 tb1), .str [66],ZJ (QO 5 tb2)],0⟩):=Sub.set hn_1q4;refine⟨_,Sub.refl _,⟨[(⟨[65],YT [48,53,32,88,32,80,73,67,32,57,40,51,41,46]⟩,ZJ (QO 5 tb1)),(⟨[66],YT [48,49,32,82,46,32,67,79,80,89,32,65,32,82,69,80,76,65,67,73,78,71,32,88,32,66,89,32,89,46]⟩,ZJ (QO 5 tb2))],rfl,?_,?_⟩,(by repeat (first|exact Sub.refl _|assumption|refine Sub.set_both ?_ _ _|refine Sub.trans_set ?_ (by repeat (first|assumption|refine(AHeap.set_ne _ _ (by first|assumption|exact Ne.symm (by assumption))).trans ?_))))⟩
 ·exact IsL.own (w0:=w0) (es:=2) (xs:=[[.str [65],ZJ (QO 5 tb1)],[.str [66],ZJ (QO 5 tb2)]]) (AHeap.set_same _ _ _) (by simp) rfl (by simp[allLive,qE,hcl1,hcl2]) (.exact 2) (Nat.le_refl _)
 ·intro q hq
  simp only[List.mem_cons,List.not_mem_nil,or_false]at hq;rcases hq with rfl|rfl
  ·exact(ht1.1.mono ht2.2.2).mono hs4
  ·exact ht2.1.mono hs4
theorem Uy(s:Str):(YT s).length<=65536:=(source_small (sp 11++s) false).1
theorem exLib_small:∀m∈qcl,m.toks.length<=100000:=by
 intro m hm;simp only[qcl,List.mem_cons,List.not_mem_nil,or_false]at hm;rcases hm with rfl|rfl<;>(have:=Uy;exact Nat.le_trans (this _) (by decide))
def giveOk(s want:Str):Bool:=match WJ true (YT s) qcl with
 | .ok out _=>decide (0<out.length) && (decide (out.length<=65536) && (out.all (fun t=>decide (t.text.length<=100000000)) && decide (textE out=want)))
 | .bad _=>false
def failOk(s:Str)(e col:Int):Bool:=match WJ true (YT s) qcl with
 | .ok _ _=>false
 | .bad f=>decide (f=⟨e,1,col⟩)
theorem c_gives(w0:World)(hm:MaxL w0)(h:AHeap)(s want:Str)(hs:s.length<=1000000)(hg:giveOk s want=true):ACall Tryz.prog w0 25 [.str s, .str want] h (fun r h'=>r= .bool true/\h'=h):=by
 have hovl:(AVal.bool true).live=true:=rfl;have hnvl:(AVal.bool true).live=true:=rfl;refine qR (n:=30) (rs:=[.tmp 4]) Tryz.func25 rfl rfl rfl rfl (Nat.le_of_ble_eq_true rfl) ?_;simp only[Qd];refine awp_rseq [0,1] (by rfl) fun K hK=>?_;simp+decide only[qa,ev,qJ,qG,putD,Slots.put,Slots.keep,if_true,if_false,true_and,↓qd,qb,Nat.zero_add];apply hK;clear hK K;refine awp_rseq [1,5,7] (by rfl) fun K hK=>?_;simp+decide only[ev,putD,Slots.put,Slots.get,if_true,if_false,true_and,↓qj,qf];refine QH (by rfl) (by rfl) (qda w0 hm _ s hs) fun x1q1 h1q1 hx1q1=>?_;have ht1:=hx1q1.toks (w0:=w0);have hs1:=ht1.2.2;have hs_h1q1:Sub h h1q1:=Sub.trans (by repeat (first|exact Sub.refl _|assumption|refine Sub.trans_set ?_ (by assumption))) hs1;have hr_h1q1:=hs_h1q1;refine QH (by rfl) (by rfl) (c_membersL w0 hm _) fun x1q2 h1q2 hx1q2=>?_;obtain⟨hms,hs2⟩:=hx1q2;have hs_h1q2:Sub h h1q2:=Sub.trans (by repeat (first|exact Sub.refl _|assumption|refine Sub.trans_set ?_ (by assumption))) hs2;have hr_h1q2:Sub h1q1 h1q2:=Sub.trans (by repeat (first|exact Sub.refl _|assumption|refine Sub.trans_set ?_ (by assumption))) hs2;refine QH (by rfl) (by rfl) (c_Expand w0 _ x1q1 x1q2 (YT s) qcl (ht1.1.mono hs2) hms (by have:=Uy s;omega) (by decide) exLib_small) fun x1q3 h1q3 hx1q3=>?_;obtain⟨ov,nv,f,rfl,hs3,hc1,hc2,hcase⟩:=hx1q3;obtain⟨rfl,out,st,hX,hov,hnv,hl1,hl2⟩:f=okF/\∃out st,WJ true (YT s) qcl= .ok out st/\IsL w0 h1q3 5 ov (out.map Xw)/\IsL w0 h1q3 1 nv (st.names.map qci)/\out.length<=200000/\st.names.length<=4096:=by
  rcases hcase with⟨-,z,-⟩|z
  ·unfold giveOk at hg
   rw[z]at hg;cases hg
  ·exact z
 unfold giveOk at hg;rw[hX]at hg;simp only[Bool.and_eq_true,decide_eq_true_eq,List.all_eq_true]at hg;obtain⟨g1,g2,g3,g4⟩:=hg;have hovl:=hov.live;have hnvl:=hnv.live;have nov:=Zy hov;have hpos:(0:Int)<out.length:=by omega
 have hs_h1q3:Sub h h1q3:=Sub.trans (by repeat (first|exact Sub.refl _|assumption|refine Sub.trans_set ?_ (by assumption))) hs3;have hr_h1q3:Sub h1q2 h1q3:=Sub.trans (by repeat (first|exact Sub.refl _|assumption|refine Sub.trans_set ?_ (by assumption))) hs3;simp+decide only[ev,putD,Slots.put,Slots.get,if_true,if_false,true_and,↓qj,qf,↓QJ,QC,QG,List.length_cons,List.length_nil,List.getD_cons_zero,List.getD_cons_succ,List.getD_cons_zero,List.getD_cons_succ,Nat.zero_add,Nat.reduceAdd,QN];refine Qg qas (cs:=[.int .i64 0, .int .i64 0, .int .i64 0]) (by rfl) fun k1q8 hk1q8=>?_;have hn_1q8:h1q3 k1q8=none:=by first|assumption|(simp only[AHeap.set_none]at hk1q8;simp only[hk1q8])
 have hf_1q8:h k1q8=none:=Sub.none hs_h1q3 hn_1q8;simp+decide only[ev,putD,Slots.put,Slots.get,if_true,if_false,true_and,↓qd,qb];refine qo (by rfl) (by rfl) (by repeat (first|exact AHeap.set_same _ _ _|assumption|refine(AHeap.set_ne _ _ (by first|assumption|exact Ne.symm (by assumption))).trans ?_)) QA (by rfl) (by rfl) (by first|exact Nat.le_refl _|decide|(simp;done)|(simp;omega)) (Nat.zero_le _) (by rfl) ?_;simp only[AHeap.set_set,AVal.cells];simp+decide only[qa,ev,putD,Slots.get,Slots.keep,if_true,if_false,setAt,List.set_cons_zero,List.set_cons_succ,Nat.zero_add,Nat.reduceAdd];apply hK;clear hK K;refine awp_rseq [4] (by rfl) fun K hK=>?_;simp+decide only[ev,qJ,qG,putD,Slots.put,Slots.get,if_true,if_false,true_and,↓qF,Qa,qg Xf QA,↓Qn,↓qU,Zk,evP,List.map_nil,↓qB,qm,qV,cond_false,ZO,eq35,↓qj,qf,↓Xc,agP,Qu,qI,qH,qy,implies_true,decide_true,Qo,Bool.and_true,↓qbA,QK,↓Xd,qD,qz,UO,↓QP,Qt,Qh,decide_true,Qo,Bool.and_true,Yo,cond_true,cond_false,QV,qc,List.getD_cons_zero,List.getD_cons_succ,Nat.zero_add,Nat.reduceAdd,qh,allLive,Bool.and_true,nov,hpos];refine Ye (by rfl) ?_;refine qM (V:= .str want) (by rfl) (by rfl) (by rw[<-g4];exact c_Text w0 hm _ ov out (hov.mono (by repeat (first|exact Sub.refl _|assumption|refine Sub.set_both ?_ _ _|refine Sub.trans_set ?_ (by repeat (first|assumption|refine(AHeap.set_ne _ _ (by first|assumption|exact Ne.symm (by assumption))).trans ?_))))) g2 (fun t ht=>g3 t ht)) ?_;simp+decide only[qa,ev,qJ,qG,putD,Slots.put,Slots.get,Slots.keep,if_true,if_false,true_and,↓Xc,qf,agP,Qu,qI,qH,qy,implies_true,decide_true,Qo,↓Xd,qm,qV,cond_false,XN,pS_eql,↓QP,Qt,Qh,↓qd,qb,decide_true,Qo,Yo,cond_true,cond_false];apply hK;clear hK K;refine qN ?_;refine qY h (by repeat (first|exact Sub.refl _|assumption|refine Sub.trans_set ?_ (by assumption))) (Qb (Qe)) ?_;simp+decide only[Slots.get,if_true,and_true,Qw];all_goals first|rfl|exact⟨rfl,rfl⟩|(simp+decide only[if_true,if_false, *];done)|(trace_state;fail)
theorem c_fails(w0:World)(hm:MaxL w0)(h:AHeap)(s:Str)(e col:Int)(hs:s.length<=1000000)(hg:failOk s e col=true):ACall Tryz.prog w0 26 [.str s, .int .i64 e, .int .i64 col] h (fun r h'=>r= .bool true/\h'=h):=by
 refine qR (n:=32) (rs:=[.tmp 6]) Tryz.func26 rfl rfl rfl rfl (Nat.le_of_ble_eq_true rfl) ?_;simp only[Qd];refine awp_rseq [0,1,2] (by rfl) fun K hK=>?_;simp+decide only[qa,ev,qJ,qG,putD,Slots.put,Slots.keep,if_true,if_false,true_and,↓qd,qb,Nat.zero_add,Nat.reduceAdd];apply hK;clear hK K;refine awp_rseq [1,2,7,8,9] (by rfl) fun K hK=>?_;simp+decide only[ev,putD,Slots.put,Slots.get,if_true,if_false,true_and,↓qj,qf];refine QH (by rfl) (by rfl) (qda w0 hm _ s hs) fun x1q1 h1q1 hx1q1=>?_;have ht1:=hx1q1.toks (w0:=w0);have hs1:=ht1.2.2;have hs_h1q1:Sub h h1q1:=Sub.trans (by repeat (first|exact Sub.refl _|assumption|refine Sub.trans_set ?_ (by assumption))) hs1;have hr_h1q1:=hs_h1q1;refine QH (by rfl) (by rfl) (c_membersL w0 hm _) fun x1q2 h1q2 hx1q2=>?_;obtain⟨hms,hs2⟩:=hx1q2;have hs_h1q2:Sub h h1q2:=Sub.trans (by repeat (first|exact Sub.refl _|assumption|refine Sub.trans_set ?_ (by assumption))) hs2;have hr_h1q2:Sub h1q1 h1q2:=Sub.trans (by repeat (first|exact Sub.refl _|assumption|refine Sub.trans_set ?_ (by assumption))) hs2;refine QH (by rfl) (by rfl) (c_Expand w0 _ x1q1 x1q2 (YT s) qcl (ht1.1.mono hs2) hms (by have:=Uy s;omega) (by decide) exLib_small) fun x1q3 h1q3 hx1q3=>?_;obtain⟨ov,nv,f,rfl,hs3,hc1,hc2,hcase⟩:=hx1q3;obtain⟨hX,rfl,rfl⟩:WJ true (YT s) qcl= .bad f/\ov= .nilSlice/\nv= .nilSlice:=by
  rcases hcase with⟨-,z⟩|⟨-,out,st,z,-⟩
  ·exact z
  ·unfold failOk at hg
   rw[z]at hg;cases hg
 unfold failOk at hg;rw[hX]at hg;simp only[decide_eq_true_eq]at hg;subst hg;have hs_h1q3:Sub h h1q3:=Sub.trans (by repeat (first|exact Sub.refl _|assumption|refine Sub.trans_set ?_ (by assumption))) hs3;have hr_h1q3:Sub h1q2 h1q3:=Sub.trans (by repeat (first|exact Sub.refl _|assumption|refine Sub.trans_set ?_ (by assumption))) hs3;simp+decide only[ev,putD,Slots.put,Slots.get,if_true,if_false,true_and,↓qj,qf,↓QJ,QC,QG,List.length_cons,List.length_nil,List.getD_cons_zero,List.getD_cons_succ,List.getD_cons_zero,List.getD_cons_succ,Nat.zero_add,Nat.reduceAdd,QN];refine Qg qas (cs:=[.int .i64 0, .int .i64 0, .int .i64 0]) (by rfl) fun k1q8 hk1q8=>?_;have hn_1q8:h1q3 k1q8=none:=by first|assumption|(simp only[AHeap.set_none]at hk1q8;simp only[hk1q8])
 have hf_1q8:h k1q8=none:=Sub.none hs_h1q3 hn_1q8;simp+decide only[ev,putD,Slots.put,Slots.get,if_true,if_false,true_and,↓qd,qb];refine qo (by rfl) (by rfl) (by repeat (first|exact AHeap.set_same _ _ _|assumption|refine(AHeap.set_ne _ _ (by first|assumption|exact Ne.symm (by assumption))).trans ?_)) QA (by rfl) (by rfl) (by first|exact Nat.le_refl _|decide|(simp;done)|(simp;omega)) (Nat.zero_le _) (by rfl) ?_;simp only[AHeap.set_set,AVal.cells];simp+decide only[qa,ev,putD,Slots.get,Slots.keep,if_true,if_false,setAt,List.set_cons_zero,List.set_cons_succ,Nat.zero_add,Nat.reduceAdd];apply hK;clear hK K;refine awp_rseq [6] (by rfl) fun K hK=>?_;simp+decide only[qa,ev,qJ,qG,putD,Slots.put,Slots.get,Slots.keep,if_true,if_false,true_and,↓qj,qf,↓Xz,QK,UN Tryz.underlying26,UN Tryz.underlying30,↓qB,qm,qV,cond_false,qz,Xa,qD,XB,↓Zi,XO,WF,agP,Qu,qI,qH,qy,implies_true,decide_true,Qo,Bool.and_true,qg Xf QA,↓Xc,↓ag_build,↓qU,bld33_0_1,evP,List.map_cons,List.map_nil,Ug,↓Xd,ZO,eq35,↓QP,Qt,Qh,↓qd,qb,decide_true,Qo,Bool.and_true,Yo,cond_true,cond_false,QV,qc,List.getD_cons_zero,List.getD_cons_succ,Nat.zero_add,Nat.reduceAdd,qh,allLive,Bool.and_true];apply hK;clear hK K;refine qN ?_;refine qY h (by repeat (first|exact Sub.refl _|assumption|refine Sub.trans_set ?_ (by assumption))) (Qb (Qe)) ?_;simp+decide only[Slots.get,if_true,and_true,Qw];all_goals first|rfl|exact⟨rfl,rfl⟩|(simp+decide only[if_true,if_false, *];done)|(trace_state;fail)
end Go.Proofs.YtlhhaagmakhilaaGreatDoor
namespace Go.Proofs.YtlhhaagmakhilaaGreatDoor
open Go.AM
open Go.Proofs
open Go.Col (Str FaultC okF sp)
open Go.Tok
open Go.Cop
open Go.RowKit (Below)
set_option maxRecDepth 100000
def liveB:Bool:=match WJ true (YT [67,79,80,89,32,34,66,34,46,32,77,79,86,69]) qcl with
 | .ok _ st=>decide (st.names=[[66],[65]])
 | .bad _=>false
theorem lv_names:liveB=true:=by decide+kernel
theorem lv_g1:giveOk [67,79,80,89,32,65,46] [48,53,32,88,32,80,73,67,32,57,40,51,41,32,46]=true:=by decide+kernel
theorem lv_f1:failOk [67,79,80,89,32,67,46] 7 17=true:=by decide+kernel
theorem lv_f2:failOk [67,79,80,89,32,65] 4 12=true:=by decide+kernel
theorem lv_f3:failOk [67,79,80,89,32,65,32,82,69,80,76,65,67,73,78,71,32,88,46] 4 30=true:=by decide+kernel
set_option maxHeartbeats 2000000 in
theorem c_lives04(w0:World)(hm:MaxL w0)(h:AHeap):ACall Tryz.prog w0 9 [] h (fun r h'=>r= .bool true/\h'=h):=by
 have hovl:(AVal.bool true).live=true:=rfl;have hnvl:(AVal.bool true).live=true:=rfl;refine qR (n:=44) (rs:=[.tmp 0]) Tryz.func9 rfl rfl rfl rfl (Nat.le_of_ble_eq_true rfl) ?_;simp only[Qd];refine awp_rseq [] (by rfl) fun K hK=>?_;simp+decide only[qa,ev,qJ,qG,putD,Slots.put,Slots.keep,if_false,true_and,↓qd,qb];apply hK;clear hK K;refine awp_rseq [2] (by rfl) fun K hK=>?_;refine QH (by rfl) (by rfl) (qda w0 hm _ _ (by decide)) fun x1q0 h1q0 hx1q0=>?_;have ht1:=hx1q0.toks (w0:=w0);have hs1:=ht1.2.2;have hs_h1q0:Sub h h1q0:=Sub.trans (by repeat (first|exact Sub.refl _|assumption|refine Sub.trans_set ?_ (by assumption))) hs1;have hr_h1q0:=hs_h1q0;refine QH (by rfl) (by rfl) (c_membersL w0 hm _) fun x1q1 h1q1 hx1q1=>?_;obtain⟨hms,hs2⟩:=hx1q1;have hs_h1q1:Sub h h1q1:=Sub.trans (by repeat (first|exact Sub.refl _|assumption|refine Sub.trans_set ?_ (by assumption))) hs2;have hr_h1q1:Sub h1q0 h1q1:=Sub.trans (by repeat (first|exact Sub.refl _|assumption|refine Sub.trans_set ?_ (by assumption))) hs2;refine QH (by rfl) (by rfl) (c_Expand w0 _ x1q0 x1q1 _ qcl (ht1.1.mono hs2) hms (by have:=Uy [67,79,80,89,32,34,66,34,46,32,77,79,86,69];exact Nat.le_trans this (by decide)) (by decide) exLib_small) fun x1q2 h1q2 hx1q2=>?_;obtain⟨ov,nv,f,rfl,hs3,hc1,hc2,hcase⟩:=hx1q2;have hlb:=lv_names;unfold liveB at hlb;obtain⟨rfl,out,st,hX,hov,hnv,hl1,hl2⟩:f=okF/\∃out st,WJ true (YT [67,79,80,89,32,34,66,34,46,32,77,79,86,69]) qcl= .ok out st/\IsL w0 h1q2 5 ov (out.map Xw)/\IsL w0 h1q2 1 nv (st.names.map qci)/\out.length<=200000/\st.names.length<=4096:=by
  rcases hcase with⟨-,z,-⟩|z
  ·rw[show WJ true (YT [67,79,80,89,32,34,66,34,46,32,77,79,86,69]) qcl= .bad f from z]at hlb
   cases hlb
  ·exact z
 rw[hX]at hlb;simp only[decide_eq_true_eq]at hlb;rw[hlb]at hnv;have hovl:=hov.live;have hnvl:=hnv.live;have nnv:=nam_len hnv;have hs_h1q2:Sub h h1q2:=Sub.trans (by repeat (first|exact Sub.refl _|assumption|refine Sub.trans_set ?_ (by assumption))) hs3;have hr_h1q2:Sub h1q1 h1q2:=Sub.trans (by repeat (first|exact Sub.refl _|assumption|refine Sub.trans_set ?_ (by assumption))) hs3;simp+decide only[ev,putD,Slots.put,Slots.get,if_true,if_false,true_and,↓qj,qf,↓QJ,QC,QG,List.length_cons,List.length_nil,List.getD_cons_zero,List.getD_cons_succ,List.getD_cons_zero,List.getD_cons_succ,Nat.zero_add,Nat.reduceAdd,QN];refine Qg qas (cs:=[.int .i64 0, .int .i64 0, .int .i64 0]) (by rfl) fun k1q7 hk1q7=>?_;have hn_1q7:h1q2 k1q7=none:=by first|assumption|(simp only[AHeap.set_none]at hk1q7;simp only[hk1q7])
 have hf_1q7:h k1q7=none:=Sub.none hs_h1q2 hn_1q7;simp+decide only[ev,putD,Slots.put,Slots.get,if_true,if_false,true_and,↓qd,qb];refine qo (by rfl) (by rfl) (by repeat (first|exact AHeap.set_same _ _ _|assumption|refine(AHeap.set_ne _ _ (by first|assumption|exact Ne.symm (by assumption))).trans ?_)) QA (by rfl) (by rfl) (by first|exact Nat.le_refl _|decide|(simp;done)|(simp;omega)) (Nat.zero_le _) (by rfl) ?_;simp only[AHeap.set_set,AVal.cells];simp+decide only[qa,ev,putD,Slots.get,Slots.keep,if_true,if_false,setAt,List.set_cons_zero,List.set_cons_succ,Nat.zero_add,Nat.reduceAdd];apply hK;clear hK K;refine Awp.forget (h':=h1q2) (Sub.set hn_1q7) ?_;obtain⟨lc,o,c,hnve⟩:=hnv.open (by simp);have hnv2:=hnv;rw[hnve]at hnv2;have e0:rd w0 h1q2 lc (o+0)= .str [66]:=hnv2.at0 (i:=0) (by simp) (by decide);have e1:rd w0 h1q2 lc (o+1)= .str [65]:=hnv2.at0 (i:=1) (by simp) (by decide);rw[Nat.add_zero]at e0;have hlen2:((([[66],[65]]:List Str).map qci).length:Int)=2:=by decide
 have i0:Int.toNat 0=0:=rfl;have i1:Int.toNat 1=1:=rfl;subst hnve;refine awp_rseq [0] (by kernel_rfl) fun K hK=>?_;refine qM (V:= .bool true) (by rfl) (by rfl) (c_gives w0 hm _ _ _ (by decide) lv_g1) ?_;simp+decide only[ev,putD,Slots.put,Slots.get,if_true,if_false,true_and,↓qj,qf];refine Ye (by rfl) ?_;refine qM (V:= .bool true) (by rfl) (by rfl) (c_gives w0 hm _ _ _ (by decide) (by decide+kernel)) ?_;simp+decide only[ev,qJ,qG,putD,Slots.put,Slots.get,if_true,if_false,true_and,↓QP,Qt,Qh,↓qj,qf,Yo,cond_true];refine Ye (by rfl) ?_;refine qM (V:= .bool true) (by rfl) (by rfl) (c_gives w0 hm _ _ _ (by decide) (by decide+kernel)) ?_;simp+decide only[ev,qJ,qG,putD,Slots.put,Slots.get,if_true,if_false,true_and,↓QP,Qt,Qh,↓qj,qf,Yo,cond_true];refine Ye (by rfl) ?_;refine qM (V:= .bool true) (by rfl) (by rfl) (c_fails w0 hm _ _ _ _ (by decide) lv_f1) ?_;simp+decide only[ev,qJ,qG,putD,Slots.put,Slots.get,if_true,if_false,true_and,↓QP,Qt,Qh,↓qj,qf,Yo,cond_true];refine Ye (by rfl) ?_;refine qM (V:= .bool true) (by rfl) (by rfl) (c_fails w0 hm _ _ _ _ (by decide) lv_f2) ?_;simp+decide only[ev,qJ,qG,putD,Slots.put,Slots.get,if_true,if_false,true_and,↓QP,Qt,Qh,↓qj,qf,Yo,cond_true];refine Ye (by rfl) ?_;refine qM (V:= .bool true) (by rfl) (by rfl) (c_fails w0 hm _ _ _ _ (by decide) lv_f3) ?_;simp+decide only[qa,ev,qJ,qG,putD,Slots.put,Slots.get,Slots.keep,if_true,if_false,true_and,↓QP,Qt,Qh,↓qj,qf,↓Xc,agP,Qu,qI,qH,qy,implies_true,decide_true,Qo,↓qbA,QK,Zj Tryz.underlying30,↓Xd,qm,qD,cond_false,qz,XB,↓ZC,XO,WF,Qk Tryz.underlying30 sz9,↓Zi,qw ag9,Yb,XN,pS_eql,↓qd,qb,decide_true,Qo,Yo,cond_true,cond_false,qE,i0,i1,e0,e1,Nat.mul_one,Nat.add_zero];apply hK;clear hK K;refine qN ?_;refine qY h (by repeat (first|exact Sub.refl _|assumption|refine Sub.trans_set ?_ (by assumption))) (Qb (Qe)) ?_;simp+decide only[Slots.get,if_true,and_true,Qw];all_goals first|rfl|exact⟨rfl,rfl⟩|(simp+decide only[if_true,if_false, *];done)|(trace_state;fail)
end Go.Proofs.YtlhhaagmakhilaaGreatDoor
namespace Go.AM
section
variable {P:Program} {w0:World} {ops:List Oper} {K:Slots->AHeap->Prop}
end
end Go.AM
namespace Go.Proofs.YtlhhaagmakhilaaGreatDoor
open Go.AM
open Go.Proofs
open Go.Col (Str FaultC okF sp)
open Go.Tok
open Go.Cop
open Go.RowKit (Below)
set_option maxRecDepth 100000
theorem bufSwap3{H:AHeap}{ea eb:Nat}{a b:Option Buf}(ha:bufOk H ea a)(hb:bufOk (QS H a) eb b):QS (QS H a) b=QS (QS H b) a/\bufOk H eb b/\bufOk (QS H b) ea a:=by
 cases a with
 |none=>exact⟨rfl,hb,trivial⟩
 |some a=>
  cases b with
  |none=>exact⟨rfl,trivial,ha⟩
  |some b=>
   have hne:b.blk≠a.blk:=fun e=>by
    have:=hb.1;rw[e,show QS H (some a)=H.set a.blk ⟨a.cells,0⟩from rfl,AHeap.set_same]at this;cases this
   have hb1:H b.blk=none:=by
    have:=hb.1
    rwa [show QS H (some a)=H.set a.blk ⟨a.cells,0⟩from rfl,AHeap.set_ne _ _ hne]at this
   exact⟨AHeap.set_comm _ _ _ hne,⟨hb1,hb.2⟩,⟨(AHeap.set_ne _ _ hne.symm).trans ha.1,ha.2⟩⟩
def Un(n i:Nat)(again:Bool):Str:=if i+1=n then(if again then[67,79,80,89,32,78,65,46]else[89])else[67,79,80,89,32,78,UInt8.ofNat (66+i),46,32,89]
def abcD:Str:=[65,66,67,68,69,70,71,72,73,74,75,76,77]
theorem abc_cut1:∀i:Fin 12,(abcD.drop (i.val+1)).take (i.val+2-(i.val+1))=[UInt8.ofNat (66+i.val)]:=by decide
theorem abc_cut0:∀i:Fin 12,(abcD.drop i.val).take (i.val+1-i.val)=[UInt8.ofNat (65+i.val)]:=by decide
theorem memQC_wide{l:List MemQ}:∀x∈l.map qbm,x.length=2:=fun x hx=>by obtain⟨y,_,rfl⟩:=List.mem_map.1 hx;rfl
structure DpG where
 i:Nat
 B:AHeap
 mb:Option Buf
 qs:List MemQ
structure DpOk(w0:World)(h:AHeap)(n:Nat)(again:Bool)(s:DpG):Prop where
 i:s.i<=n
 sub:Sub h s.B
 ok:bufOk s.B 2 s.mb
 eq:Uf s.mb=(s.qs.map qbm).flatten
 ms:s.qs.map (·.1)=(List.range s.i).map fun i=>(⟨UE i,YT (qau n i again)⟩:MemC)
 rows:∀q∈s.qs,IsL w0 s.B 5 q.2 (q.1.toks.map Xw)
theorem deep_small(n:Nat)(again:Bool):∀m∈qap n again,m.toks.length<=100000:=by
 intro m hm;obtain⟨i,-,rfl⟩:=List.mem_map.1 hm;exact Nat.le_trans (Uy _) (by decide)
theorem getD_any{α:Type}(l:List α)(d e:α){i:Nat}(hi:i<l.length):l.getD i d=l.getD i e:=by
 rw[List.getD,List.getD,List.getElem?_eq_getElem hi];rfl
theorem deep_three{n:Nat}(again:Bool)(hn:1<=n/\n<=12):
 (8<n/\∃f,WJ true (YT [67,79,80,89,32,78,65,46]) (qap n again)= .bad f/\f.e=3)\/
 (n<=8/\again=true/\∃f,WJ true (YT [67,79,80,89,32,78,65,46]) (qap n again)= .bad f/\f.e=10)\/
 (n<=8/\again=false/\∃out st,WJ true (YT [67,79,80,89,32,78,65,46]) (qap n again)= .ok out st/\out.length=2*n/\st.names=(List.range n).map UE/\
   ∀i,i<n->(out.getD i Uh).text=[88]/\(out.getD (n+i) Uh).text=[89]/\usesE (YT (qau n i again))=((if i+1=n then[]else[UE (i+1)]),okF)):=by
 have h:=Go.Cop.deep_law ⟨n-1,by omega⟩;have hk:deepOk n again=true:=by
  simp only[show n-1+1=n by omega]at h;cases again
  ·exact h.1
  ·exact h.2
 unfold deepOk deepE at hk;cases hx:WJ true (YT [67,79,80,89,32,78,65,46]) (qap n again)with
 |bad f=>
  rw[hx]at hk;simp only at hk;by_cases h8:8<n
  ·rw[if_pos h8]at hk
   exact .inl ⟨h8,f,rfl,of_decide_eq_true hk⟩
  ·rw[if_neg h8,Bool.and_eq_true,decide_eq_true_eq]at hk
   exact .inr (.inl ⟨by omega,hk.1,f,rfl,hk.2⟩)
 |ok out st=>
  rw[hx]at hk;simp only[Bool.and_eq_true,decide_eq_true_eq,Bool.not_eq_true',List.all_eq_true,List.mem_range]at hk;obtain⟨k1,k2,k3,k4,k5⟩:=hk;refine .inr (.inr ⟨k1,k2,out,st,rfl,k3,k4,fun i hi=>?_⟩);obtain⟨q1,q2,q3⟩:=k5 i hi;rw[getD_any out Uh noT (by omega),getD_any out Uh noT (i:=n+i) (by omega)];exact⟨q1,q2,q3⟩
theorem nam_open{w0:World}{h:AHeap}{v:AVal}{l:List Str}(hv:IsL w0 h 1 v (l.map qci))(hn:0<l.length):∃lc o c,v= .slice lc o l.length c:=by
 obtain⟨lc,o,c,e⟩:=hv.open (fun e=>by rw[List.map_eq_nil_iff]at e;subst e;simp at hn);rw[List.length_map]at e;exact⟨lc,o,c,e⟩
theorem nam_at{w0:World}{h:AHeap}{lc:AM.Loc}{o:Nat}{c:Cap}{l:List Str}(hv:IsL w0 h 1 (.slice lc o l.length c) (l.map qci)){i:Nat}(hi:i<l.length):rd w0 h lc (o+i)= .str (l.getD i []):=by
 have he:=hv.elem (i:=i) (by rw[List.length_map];exact hi);rw[getD_map [] hi,Nat.mul_one]at he;simp only[qc,qci,List.cons.injEq,and_true]at he;exact he
structure DqG where
 i:Nat
 B:AHeap
set_option maxHeartbeats 4000000 in
theorem l_CopiesDeep(w0:World)(hm:MaxL w0)(h:AHeap)(m:UInt8)(again:Bool):
 ACall Tryz.prog w0 7 [.int .u8 m.toNat, .bool again] h (fun x _=>x= .bool true):=by
 refine ACall.mono (R:=fun x h'=>x= .bool true/\h'=h) ?_ fun x h' hx=>hx.1;have hm8:m.toNat<256:=m.toNat_lt;have hrem:Int.tmod (m.toNat:Int) 12=((m.toNat%12:Nat):Int):=by rw[Int.tmod_eq_emod_of_nonneg (by omega)];exact(Int.natCast_emod m.toNat 12).symm
 obtain⟨n,hn⟩:∃n,n=1+m.toNat%12:=⟨_,rfl⟩
 have hn12:1<=n/\n<=12:=by omega
 have hovl:(AVal.bool true).live=true:=rfl;have hnvl:(AVal.bool true).live=true:=rfl;have hcl:(AVal.bool true).live=true:=rfl;have hcS:Sc .nilSlice=True:=eq_true trivial;have hbl:=Xj 2 none;refine qR (n:=182) (rs:=[.tmp 4]) Tryz.func7 rfl rfl rfl rfl (Nat.le_of_ble_eq_true rfl) ?_;simp only[Qd];refine awp_rseq [0,1] (by rfl) fun K hK=>?_;simp+decide only[qa,ev,qJ,qG,putD,Slots.put,Slots.keep,if_true,if_false,true_and,↓qd,qb,Nat.zero_add];apply hK;clear hK K;refine awp_rseq [1,5] (by rfl) fun K hK=>?_;simp+decide only[qa,ev,qJ,qG,putD,Slots.put,Slots.get,Slots.keep,if_true,if_false,true_and,↓qj,qf,↓qB,qm,qD,cond_false,qz,pI_rem,↓ap_convert _ _ _ (es_int Tryz.underlying5 Tryz.underlying3),qdC,pConv_int Tryz.underlying5 Tryz.underlying3,qV,Xa,↓qd,qb,hrem];try simp(disch:=omega)only[wrap_i64]
 apply hK;clear hK K;rw[show(1:Int)+((m.toNat%12:Nat):Int)=(n:Int) by omega];refine awp_rseq [1,5,6] (by rfl) fun K hK=>?_;simp+decide only[qa,ev,qJ,qG,putD,Slots.put,Slots.keep,if_true,if_false,true_and,↓qd,qb];apply hK;clear hK K;refine qO ?_;refine awp_rseq [1,5,6,7] (by rfl) fun K hK=>?_;simp+decide only[qa,ev,qJ,qG,putD,Slots.put,Slots.keep,if_true,if_false,true_and,↓qd,qb];apply hK;clear hK K;refine Qv ?_;refine XE [1,5,6,7] (fun s:DpG=>[(1, .bool again),(5, .int .i64 n),(6,QO 2 s.mb),(7, .int .i64 s.i)]) (fun s:DpG=>QS s.B s.mb) (fun s:DpG=>DpOk w0 h n again s) (fun s:DpG=>n-s.i) ⟨0,h,none,[]⟩ (by rfl) (Sub.refl _) ⟨Nat.zero_le _,Sub.refl _,trivial,rfl,rfl,fun q hq=>by cases hq⟩ ?_;rintro⟨i,B,mb,qs⟩ ⟨g1,g2,g3,g4,g5,g6⟩;simp only at g1 g2 g3 g4 g5 g6|-
 have hbl:=Xj 2 mb;obtain⟨H1,hH1⟩:∃H1,H1=QS B mb:=⟨_,rfl⟩
 have hs_H1:Sub h H1:=by rw[hH1];exact g2.trans (Sub.buf g3)
 rw[<-hH1];refine qO ?_;refine awp_rseq [1,5,6,7,21] (by rfl) fun K hK=>?_;simp+decide only[qa,ev,putD,Slots.put,Slots.get,Slots.keep,if_true,if_false,true_and,↓qj,qf,↓qB,qm,qV,cond_false,qz,XZ];apply hK;clear hK K;refine qK (b:=_) rfl (fun hb1=>?_) (fun hb1=>?_)
 ·try simp only[decide_eq_true_eq]at hb1
  have hi:i<n:=by omega
  have hc1:=abc_cut1 ⟨i,by omega⟩;have hc0:=abc_cut0 ⟨i,by omega⟩;simp only at hc1 hc0;have hcut1:List.take (((i:Int)+2).toNat-((i:Int)+1).toNat) (List.drop ((i:Int)+1).toNat ([65,66,67,68,69,70,71,72,73,74,75,76,77]:Str))=[UInt8.ofNat (66+i)]:=by
   rw[show((i:Int)+2).toNat=i+2 by omega,show((i:Int)+1).toNat=i+1 by omega];exact hc1
  have hcut0:List.take (((i:Int)+1).toNat-(i:Int).toNat) (List.drop (i:Int).toNat ([65,66,67,68,69,70,71,72,73,74,75,76,77]:Str))=[UInt8.ofNat (65+i)]:=by
   rw[show((i:Int)+1).toNat=i+1 by omega,Int.toNat_natCast];exact hc0
  have hl13:(i:Int)+2<=(13:Int):=by omega
  refine qW ?_;change Awp _ _ _ _ _ _ _;refine qO ?_;refine Qv ?_;refine awp_rseq [1,5,6,7,8] (by rfl) fun K hK=>?_;simp+decide only[ev,qJ,qG,putD,Slots.put,Slots.get,if_true,if_false,true_and,↓qj,qf,↓qB,qm,qD,cond_false,qz,Xa];try simp(disch:=omega)only[wrap_i64]
  try simp+decide only[qa,ev,qJ,qG,putD,Slots.put,Slots.get,Slots.keep,if_true,if_false,true_and,↓WY,Zo,evO,qcK Tryz.underlying9,UL,WW,↓qB,qm,qV,cond_false,XN,qdD,Yb,↓qd,qb]
  rw[hcut1];refine⟨⟨by omega,by omega,hl13⟩,by simp,by simp,?_⟩;apply hK;clear hK K;refine qO ?_;refine awp_rseq [1,5,6,7,8,34] (by rfl) fun K hK=>?_;simp+decide only[qa,ev,qJ,qG,putD,Slots.put,Slots.get,Slots.keep,if_true,if_false,true_and,↓qj,qf,↓qB,qm,qD,cond_false,qz,Ul,qV,XB];try simp(disch:=omega)only[wrap_i64]
  apply hK;clear hK K;refine Ui [1,5,6,7,8] (fun z:Unit=>[(1, .bool again),(5, .int .i64 n),(6,QO 2 mb),(7, .int .i64 i),(8, .str (Un n i again))]) (fun z:Unit=>H1) (fun z:Unit=>True) ?_ ?_
  ·refine qK (b:=_) rfl (fun hb2=>?_) (fun hb2=>?_)
   ·try simp only[decide_eq_true_eq]at hb2
    have hE:i+1=n:=by omega
    refine awp_rseq [1,5,6,7,8] (by rfl) fun K hK=>?_;simp+decide only[qa,ev,qJ,qG,putD,Slots.put,Slots.keep,if_true,if_false,true_and,↓qd,qb];apply hK;clear hK K;refine awp_rseq [1,5,6,7,8,35] (by rfl) fun K hK=>?_;simp+decide only[qa,ev,putD,Slots.put,Slots.get,Slots.keep,if_true,if_false,true_and,↓qj,qf];apply hK;clear hK K;refine qK (b:=_) rfl (fun hb3=>?_) (fun hb3=>?_)
    ·skip
     have hD:Un n i again=[67,79,80,89,32,78,65,46]:=by unfold Un;rw[if_pos hE,hb3];rfl
     refine XI [1,5,6,7,8] (by rfl) ?_;simp+decide only[qa,ev,qJ,qG,putD,Slots.put,Slots.keep,if_true,if_false,true_and,and_true,↓qd,qb];try simp only[Qj]
     first
     |exact⟨(),by rw[hD]<;>rfl,Sub.refl _,trivial⟩
     |exact⟨(),by rw[hD]<;>rfl,Sub.refl _⟩
    ·skip
     have hD:Un n i again=[89]:=by unfold Un;rw[if_pos hE,hb3];rfl
     refine qW ?_;try simp only[Qj]
     first
     |exact⟨(),by rw[hD]<;>rfl,Sub.refl _,trivial⟩
     |exact⟨(),by rw[hD]<;>rfl,Sub.refl _⟩
   ·try simp only[decide_eq_false_iff_not]at hb2
    have hE:¬i+1=n:=by omega
    have hD:Un n i again=[67,79,80,89,32,78]++[UInt8.ofNat (66+i)]++[46,32,89]:=by unfold Un;rw[if_neg hE];rfl
    refine qW ?_;try simp only[Qj]
    first
    |exact⟨(),by rw[hD]<;>rfl,Sub.refl _,trivial⟩
    |exact⟨(),by rw[hD]<;>rfl,Sub.refl _⟩
  ·rintro z-
   have hqi:qs.length=i:=by simpa using congrArg List.length g5
   have hdt:(Un n i again).length<=10:=by
    unfold Un;split
    ·split<;>simp
    ·simp
   skip;refine awp_draw_J [0,1,2,3,4,5,6,7,8,9,10,11,12] [false,false,false,false,false,false,false,false,false,false,false,false,false] [none,none,none,none,none,none,none,none,none,some 8,some 9,some 10,some 11] 11 mixed (by kernel_rfl) (by rfl) ?_;simp only[Yy,List.filterMap_cons,List.filterMap_nil,List.getElem?_cons_zero,List.getElem?_cons_succ];simp+decide only[qa,ev,qJ,qG,putD,Slots.put,Slots.get,if_true,if_false,true_and,jOps_cons,jOps_zero,WZ,↓qj,qf,↓qB,qm,qD,cond_false,qz,Xa];try simp(disch:=omega)only[wrap_i64]
   try simp+decide only[qa,ev,qJ,qG,putD,Slots.put,Slots.get,if_true,if_false,true_and,WZ,↓WY,Zo,evO,qcK Tryz.underlying9,UL,WW,qV,cond_false,XN,qdD]
   rw[hcut0];refine⟨⟨by omega,by omega,by(show(i:Int)+1<=13;omega)⟩,by simp,by(simp only[List.length_cons,List.length_nil];omega),?_⟩;refine QH (by rfl) (by rfl) (qda w0 hm _ ([88,32]++Un n i again) (by simp only[List.length_append,List.length_cons,List.length_nil];omega)) fun x11q8 h11q8 hx11q8=>?_;obtain⟨tb,hxe,o1,o2,o3⟩:=hx11q8;subst hxe;rw[hH1]at o1;obtain⟨sw1,sw2,sw3⟩:=bufSwap3 g3 o1;have hs11:Sub H1 h11q8:=by rw[o3,hH1];exact Sub.buf o1
   have hcl:=qcs tb;have hcS:=capV_Sc tb;have hcs:=capV_scal tb;have hs_h11q8:Sub h h11q8:=Sub.trans (by repeat (first|exact Sub.refl _|assumption|refine Sub.trans_set ?_ (by assumption))) hs11;have hr_h11q8:Sub H1 h11q8:=Sub.trans (by repeat (first|exact Sub.refl _|assumption|refine Sub.trans_set ?_ (by assumption))) hs11;rw[qa];refine And.intro (by first|exact Sub.refl _|assumption|exact Sub.set (by assumption)) ?_;simp+decide only[qa,ev,qJ,qG,putD,Slots.put,Slots.get,if_true,if_false,true_and,WZ,↓Qn,↓qU,bld57_0_1,evP,List.map_cons,List.map_nil,hcS];refine QD (cs:=[.str (UE i),ZJ (QO 5 tb)]) (by cases tb<;>rfl) fun k11q10 hk11q10=>?_;have hn_11q10:h11q8 k11q10=none:=by first|assumption|(simp only[AHeap.set_none]at hk11q10;simp only[hk11q10])
   have hf_11q10:h k11q10=none:=Sub.none hs_h11q8 hn_11q10;rw[qa];refine And.intro (by first|exact Sub.refl _|assumption|exact Sub.set (by assumption)) ?_;simp+decide only[putD,Slots.put,if_false];refine XY (es:=2) (zs:=qs.map qbm) (xs:=[[.str (UE i),ZJ (QO 5 tb)]]) (hZ:=QS B tb) (b:=mb) (by rfl) (by rfl) Tryz.underlying28 Tryz.underlying28 (fun k e=>by cases e) sz57 by57 ze57 (by rfl) (by decide) (by rfl) sw3 g4 memQC_wide (by rw[<-sw1,<-hH1,<-o3];exact Sub.set hn_11q10) (by rfl) (IsL.own (AHeap.set_same _ _ _) (by simp) (by rfl) (by simp[allLive,qE,hcl]) (.exact 1) (Nat.le_refl _)) (by simp[Qz,XF,hcs]) (by simp;omega) (by simp;omega) fun mb2 h11 p1 p2 p3=>?_;simp+decide only[qa,ev,putD,Slots.put,Slots.get,if_true,if_false,true_and,↓qd,qb];change Awp _ _ _ _ _ _ _;refine XI [1,5,6,7] (by rfl) ?_;simp+decide only[qa,ev,qJ,qG,putD,Slots.put,Slots.get,Slots.keep,if_true,if_false,true_and,↓qj,qf,↓qB,qm,qD,cond_false,qz,Xa,↓qd,qb];try simp(disch:=omega)only[wrap_i64]
   try simp only[Qj]
   exact⟨⟨i+1,QS B tb,mb2,qs++[(⟨UE i,YT (qau n i again)⟩,ZJ (QO 5 tb))]⟩,rfl,p3,⟨hi,g2.trans (Sub.buf sw2),p1,by rw[p2,List.map_append];rfl,by rw[List.map_append,g5,List.range_succ,List.map_append];rfl,fun q hq=>by
    rcases List.mem_append.1 hq with z|z
    ·exact(g6 q z).mono (Sub.buf sw2)
    ·rw[List.mem_singleton.1 z]
     exact(IsL.buf sw2 (by decide) o2 Ym (Sub.refl _)).clip⟩,by simp only;omega⟩
 ·try simp only[decide_eq_false_iff_not]at hb1
  have hin:n=i:=by omega
  have hqs:qs.map (·.1)=qap n again:=by rw[g5,hin];rfl
  have hql:qs.length=n:=by rw[hin];simpa using congrArg List.length g5
  have hml:(IsL w0 H1 2 (QO 2 mb) (qs.map qbm)):=by rw[hH1];exact IsL.buf g3 (by decide) g4 memQC_wide (Sub.refl _)
  have hrows:∀q∈qs,IsL w0 H1 5 q.2 (q.1.toks.map Xw):=fun q hq=>by rw[hH1];exact(g6 q hq).mono (Sub.buf g3)
  have hX3:=deep_three again hn12;generalize QO 2 mb=mv at hbl hml|-
  refine XJ ?_;change Awp _ _ _ _ _ _ _;refine awp_rseq [1,5,6,9,10,11] (by rfl) fun K hK=>?_;refine QH (by rfl) (by rfl) (qda w0 hm _ [67,79,80,89,32,78,65,46] (by decide)) fun x12q0 h12q0 hx12q0=>?_;have ht12:=hx12q0.toks (w0:=w0);have hs12:=ht12.2.2;have hs_h12q0:Sub h h12q0:=Sub.trans (by repeat (first|exact Sub.refl _|assumption|refine Sub.trans_set ?_ (by assumption))) hs12;have hr_h12q0:Sub H1 h12q0:=Sub.trans (by repeat (first|exact Sub.refl _|assumption|refine Sub.trans_set ?_ (by assumption))) hs12;simp+decide only[ev,putD,Slots.put,Slots.get,if_true,if_false,true_and,↓qj,qf];refine QH (by rfl) (by rfl) (c_Expand w0 _ x12q0 mv _ (qap n again) ht12.1 ⟨qs,hqs.symm,hml.mono hs12,fun q hq=>(hrows q hq).mono hs12⟩ (Nat.le_trans (Uy [67,79,80,89,32,78,65,46]) (by decide)) (by rw[<-hqs,List.length_map];omega) (deep_small n again)) fun x12q2 h12q2 hx12q2=>?_;obtain⟨ov,nv,f,rfl,hs12b,hc1,hc2,hcase⟩:=hx12q2;have d1:8<n->f.e=3/\ov= .nilSlice/\nv= .nilSlice:=fun h8=>by
   rcases hX3 with⟨-,f',e1,e2⟩|⟨z,-⟩|⟨z,-⟩
   ·rw[e1]at hcase
    rcases hcase with⟨-,e,z1,z2⟩|⟨-,out,st,e,-⟩
    ·injection e with e;exact⟨e ▸ e2,z1,z2⟩
    ·cases e
   ·omega
   ·omega
  have d2:n<=8->again=true->f.e=10/\ov= .nilSlice/\nv= .nilSlice:=fun h8 ha=>by
   rcases hX3 with⟨z,-⟩|⟨-,-,f',e1,e2⟩|⟨-,z,-⟩
   ·omega
   ·rw[e1]at hcase
    rcases hcase with⟨-,e,z1,z2⟩|⟨-,out,st,e,-⟩
    ·injection e with e;exact⟨e ▸ e2,z1,z2⟩
    ·cases e
   ·rw[ha]at z;cases z
  have d3:n<=8->again=false->f=okF/\∃out:List TokC,IsL w0 h12q2 5 ov (out.map Xw)/\IsL w0 h12q2 1 nv (((List.range n).map UE).map qci)/\out.length=2*n/\∀i,i<n->(out.getD i Uh).text=[88]/\(out.getD (n+i) Uh).text=[89]/\usesE (YT (qau n i again))=((if i+1=n then[]else[UE (i+1)]),okF):=fun h8 ha=>by
   rcases hX3 with⟨z,-⟩|⟨-,z,-⟩|⟨-,-,out,st,e1,e2,e3,e4⟩
   ·omega
   ·rw[ha]at z;cases z
   ·rw[e1]at hcase
    rcases hcase with⟨-,e,-⟩|⟨z,out',st',e,h1,h2,-⟩
    ·cases e
    ·injection e with e5 e6
     subst e5;subst e6;rw[e3]at h2;exact⟨z,out,h1,h2,e2,e4⟩
  have hovl:ov.live=true:=by
   rcases hcase with⟨-,-,rfl,-⟩|⟨-,out,st,-,z,-⟩
   ·rfl
   ·exact z.live
  have hnvl:nv.live=true:=by
   rcases hcase with⟨-,-,-,rfl⟩|⟨-,out,st,-,-,z,-⟩
   ·rfl
   ·exact z.live
  have hm12:IsL w0 h12q2 2 mv (qs.map qbm):=hml.mono (hs12.trans hs12b);have hr12:∀q∈qs,IsL w0 h12q2 5 q.2 (q.1.toks.map Xw):=fun q hq=>(hrows q hq).mono (hs12.trans hs12b);have hs_h12q2:Sub h h12q2:=Sub.trans (by repeat (first|exact Sub.refl _|assumption|refine Sub.trans_set ?_ (by assumption))) hs12b;have hr_h12q2:Sub h12q0 h12q2:=Sub.trans (by repeat (first|exact Sub.refl _|assumption|refine Sub.trans_set ?_ (by assumption))) hs12b;simp+decide only[ev,putD,Slots.put,Slots.get,if_true,if_false,true_and,↓qj,qf,↓QJ,QC,QG,List.length_cons,List.length_nil,List.getD_cons_zero,List.getD_cons_succ,List.getD_cons_zero,List.getD_cons_succ,Nat.zero_add,Nat.reduceAdd,QN];refine Qg qas (cs:=[.int .i64 0, .int .i64 0, .int .i64 0]) (by rfl) fun k12q7 hk12q7=>?_;have hn_12q7:h12q2 k12q7=none:=by first|assumption|(simp only[AHeap.set_none]at hk12q7;simp only[hk12q7])
  have hf_12q7:h k12q7=none:=Sub.none hs_h12q2 hn_12q7;simp+decide only[ev,putD,Slots.put,Slots.get,if_true,if_false,true_and,↓qd,qb];refine qo (by rfl) (by rfl) (by repeat (first|exact AHeap.set_same _ _ _|assumption|refine(AHeap.set_ne _ _ (by first|assumption|exact Ne.symm (by assumption))).trans ?_)) QA (by rfl) (by rfl) (by first|exact Nat.le_refl _|decide|(simp;done)|(simp;omega)) (Nat.zero_le _) (by rfl) ?_;simp only[AHeap.set_set,AVal.cells];simp+decide only[qa,ev,putD,Slots.get,Slots.keep,if_true,if_false,setAt,List.set_cons_zero,List.set_cons_succ,Nat.zero_add,Nat.reduceAdd];apply hK;clear hK K;refine qO ?_;refine awp_rseq [1,5,6,9,10,11,56] (by rfl) fun K hK=>?_;simp+decide only[qa,ev,qJ,qG,putD,Slots.put,Slots.get,Slots.keep,if_true,if_false,true_and,↓qj,qf,↓qB,qm,qD,cond_false,qz,UO];apply hK;clear hK K;refine qK (b:=_) rfl (fun hb4=>?_) (fun hb4=>?_)
  ·try simp only[decide_eq_true_eq]at hb4
   obtain⟨hfe,rfl,rfl⟩:=d1 (by omega);refine awp_rseq [4] (by rfl) fun K hK=>?_;simp+decide only[ev,qJ,qG,putD,Slots.put,Slots.get,if_true,if_false,true_and,↓qA,ql,fa35_0,↓qF,Qa,qw ag31,↓qB,qm,qD,cond_false,qz,XB,↓qj,qf,↓Xc,agP,Qu,qI,qH,qy,implies_true,decide_true,Qo,Bool.and_true,↓qbA,QK,UN Tryz.underlying26,UN Tryz.underlying30,↓Xd,qV,Xa,↓QP,Qt,Qh,Xl,QV,List.getD_cons_zero,Nat.zero_add,qh,Bool.and_true,hfe];try simp(disch:=omega)only[wrap_i64]
   (refine Ye (by rfl) ?_;refine qM (V:= .bool true) (by rfl) (by rfl) (c_lives04 w0 hm _) ?_)
   simp+decide only[qa,ev,qJ,qG,putD,Slots.put,Slots.get,Slots.keep,if_true,if_false,true_and,↓QP,Qt,Qh,Xl,↓qd,qb,Bool.and_true];apply hK;clear hK K;refine qN ?_;try simp only[Qf]
   refine qY h (by repeat (first|exact Sub.refl _|assumption|refine Sub.trans_set ?_ (by assumption))) (Qb (Qe)) ?_;simp+decide only[Slots.get,if_true,and_true,Qw];all_goals first|rfl|exact⟨rfl,rfl⟩|(simp+decide only[if_true,if_false, *];done)|(trace_state;fail)
  ·try simp only[decide_eq_false_iff_not]at hb4
   have h8:n<=8:=by omega
   refine qW ?_;change Awp _ _ _ _ _ _ _;refine qO ?_;refine awp_rseq [5,6,9,10,11,71] (by rfl) fun K hK=>?_;simp+decide only[qa,ev,putD,Slots.put,Slots.get,Slots.keep,if_true,if_false,true_and,↓qj,qf];apply hK;clear hK K;refine qK (b:=_) rfl (fun hb5=>?_) (fun hb5=>?_)
   ·skip
    obtain⟨hfe,rfl,rfl⟩:=d2 h8 hb5;refine awp_rseq [4] (by rfl) fun K hK=>?_;simp+decide only[ev,qJ,qG,putD,Slots.put,Slots.get,if_true,if_false,true_and,↓qA,ql,fa35_0,↓qF,Qa,qw ag31,↓qB,qm,qD,cond_false,qz,XB,↓qj,qf,↓Xc,agP,Qu,qI,qH,qy,implies_true,decide_true,Qo,Bool.and_true,↓qbA,QK,UN Tryz.underlying26,UN Tryz.underlying30,↓Xd,qV,Xa,↓QP,Qt,Qh,Xl,QV,List.getD_cons_zero,Nat.zero_add,qh,Bool.and_true,hfe];try simp(disch:=omega)only[wrap_i64]
    (refine Ye (by rfl) ?_;refine qM (V:= .bool true) (by rfl) (by rfl) (c_lives04 w0 hm _) ?_)
    simp+decide only[qa,ev,qJ,qG,putD,Slots.put,Slots.get,Slots.keep,if_true,if_false,true_and,↓QP,Qt,Qh,Xl,↓qd,qb,Bool.and_true];apply hK;clear hK K;refine qN ?_;try simp only[Qf]
    refine qY h (by repeat (first|exact Sub.refl _|assumption|refine Sub.trans_set ?_ (by assumption))) (Qb (Qe)) ?_;simp+decide only[Slots.get,if_true,and_true,Qw];all_goals first|rfl|exact⟨rfl,rfl⟩|(simp+decide only[if_true,if_false, *];done)|(trace_state;fail)
   ·skip
    obtain⟨rfl,out,hov,hnv,hol,hfacts⟩:=d3 h8 (by simpa using hb5);have nov:=Zy hov;have nnv:=nam_len hnv;refine qW ?_;change Awp _ _ _ _ _ _ _;refine qO ?_;refine awp_rseq [5,6,9,10,101] (by rfl) fun K hK=>?_;simp+decide only[qa,ev,qJ,qG,putD,Slots.put,Slots.get,Slots.keep,if_true,if_false,true_and,↓qF,Qa,qg Xf QA,↓Qn,↓qU,Zk,evP,List.map_nil,↓qB,qm,qV,cond_false,ZO,ne35,↓qj,qf,↓Xc,agP,Qu,qI,qH,Qc,implies_true,Bool.not_not,decide_true,Bool.not_false,Bool.not_true,Qo,Bool.and_true,Bool.false_or,↓qbA,QK,cv_len,cp_len,↓Xd,XW,qaR,Zb,qaS,qz,pI_mul,qaB,↓QP,Qt,Qh,qbO,ZF,QV,qc,List.getD_cons_zero,List.getD_cons_succ,Nat.zero_add,Nat.reduceAdd,qh,allLive,Bool.and_true,nov,nnv,hol];try simp(disch:=omega)only[wrap_i64]
    apply hK;clear hK K;refine qK (b:=_) rfl (fun hb6=>?_) (fun hb6=>?_)
    ·exfalso
     simp only[Bool.or_eq_true,Bool.not_eq_true',decide_eq_false_iff_not,List.length_map,List.length_range]at hb6;rcases hb6 with z|z
     ·exact z (by omega)
     ·exact z trivial
    ·try simp only[decide_eq_true_eq,Bool.not_eq_false',Bool.or_eq_false_iff]at hb6
     refine qW ?_;change Awp _ _ _ _ _ _ _;refine qO ?_;refine Awp.forget (h':=h12q2) (Sub.set hn_12q7) ?_;obtain⟨lc,o,c,hove⟩:=UI hov (by omega);obtain⟨nlc,no,nc,hnve⟩:=nam_open hnv (by simp;omega);obtain⟨mlc,mo,mc,hmve⟩:=mem_open hm12 (by omega);rw[List.length_map,List.length_range]at hnve;rw[hol]at hove;subst hove;subst hnve;subst hmve;have hs_h12q2:Sub h h12q2:=hs_H1.trans (hs12.trans hs12b);refine awp_rseq [5,6,9,10,12] (by rfl) fun K hK=>?_;simp+decide only[qa,ev,qJ,qG,putD,Slots.put,Slots.keep,if_true,if_false,true_and,↓qd,qb];apply hK;clear hK K;refine Qv ?_;refine XE [5,6,9,10,12] (fun s:DqG=>[(5, .int .i64 n),(6, .slice mlc mo qs.length mc),(9, .slice lc o (2*n) c),(10, .slice nlc no n nc),(12, .int .i64 s.i)]) (fun s:DqG=>s.B) (fun s:DqG=>s.i<=n/\Sub h12q2 s.B) (fun s:DqG=>n-s.i) ⟨0,h12q2⟩ (by rfl) (Sub.refl _) ⟨Nat.zero_le _,Sub.refl _⟩ ?_;rintro⟨j,G⟩ ⟨j1,j2⟩;simp only at j1 j2|-
     have hs_G:Sub h G:=hs_h12q2.trans j2;refine qO ?_;refine awp_rseq [5,6,9,10,12,104] (by rfl) fun K hK=>?_;simp+decide only[qa,ev,putD,Slots.put,Slots.get,Slots.keep,if_true,if_false,true_and,↓qj,qf,↓qB,qm,qV,cond_false,qz,XZ];apply hK;clear hK K;refine qK (b:=_) rfl (fun hb7=>?_) (fun hb7=>?_)
     ·try simp only[decide_eq_true_eq]at hb7
      have hj:j<n:=by omega
      obtain⟨w1,w2,w3⟩:=hfacts j hj;have hmG:=hm12.mono j2;have hovG:=hov.mono j2;rw[<-hol]at hovG;have hnvG:=hnv.mono j2;obtain⟨-,e1,-⟩:=qbd hovG (i:=j) (by omega);obtain⟨-,e2,-⟩:=qbd hovG (i:=n+j) (by omega);rw[w1]at e1;rw[w2]at e2;have e3:=nam_at (l:=(List.range n).map UE) (i:=j) (by rw[List.length_map,List.length_range];exact hnvG) (by simpa using hj);rw[show((List.range n).map UE).getD j []=UE j by simp[List.getD,hj]]at e3;have hqj:∀k,k<n->(qs.getD k badM).1=(⟨UE k,YT (qau n k again)⟩:MemC):=fun k hk=>by
       have:(qs.map (·.1))[k]?=(qap n again)[k]?:=by rw[hqs]
       unfold qap at this;rw[List.getElem?_map,List.getElem?_map,List.getElem?_range hk,List.getElem?_eq_getElem (by omega)]at this;rw[List.getD,List.getElem?_eq_getElem (by omega)];exact Option.some.inj this
      obtain⟨e4,e5⟩:=mem_at hmG (i:=j) (by omega);have e4:rd w0 G mlc (mo+j*2)= .str (UE j):=by rw[e4,hqj j hj]
      obtain⟨tv,htv⟩:∃tv,tv=(qs.getD j badM).2:=⟨_,rfl⟩
      rw[<-htv]at e5;have ht24:IsL w0 G 5 tv ((YT (qau n j again)).map Xw):=by
       have:=(hr12 _ (getD_mem badM (i:=j) (by omega))).mono j2;rw[hqj j hj]at this;rw[htv];exact this
      have htl:=ht24.live;have hwj:IntKind.i64.wrap ((n:Int)+(j:Int))=((n+j:Nat):Int):=wrap_i64 (by omega) (by omega);refine qW ?_;change Awp _ _ _ _ _ _ _;refine qO ?_;refine Qv ?_;refine qO ?_;refine XR [5,6,9,10,12,134] mixed (by kernel_rfl) (by kernel_rfl) (by kernel_rfl) fun K hK=>?_;simp+decide only[qa,ev,qJ,qG,putD,Slots.put,Slots.get,Slots.keep,if_true,if_false,true_and,↓qj,qf,↓Xg,Qa,Qk Tryz.underlying26 Xk,↓qA,ql,UD,↓qF,qw ag9,↓qB,qm,Yb,cond_false,XN,qcM,↓Xc,agP,Qu,qI,qH,Qc,implies_true,decide_true,Bool.not_false,Bool.not_true,Qo,forall_const,Bool.and_true,↓Xd,qV,qz,Xa,↓ZC,XO,WF,↓Xt,↓Zi,↓QP,Qt,Qh,Xl,Qk Tryz.underlying30 sz9,Qk Tryz.underlying28 sz57,fa57_0,qE,Bool.and_true,e1,e2,e3,e4,hwj,Int.toNat_natCast,Nat.mul_one,Nat.add_zero];repeat (with_reducible refine And.intro ?_ ?_;· first|trivial|omega|(intro hg;simp only[Bool.and_eq_true,Bool.or_eq_true,Bool.not_eq_true',Bool.and_eq_false_iff,Bool.or_eq_false_iff,Bool.not_eq_false',decide_eq_true_eq,decide_eq_false_iff_not,Zd]at hg;omega))
      apply hK;clear hK K;refine qK (b:=_) rfl (fun hb8=>?_) (fun hb8=>?_)
      ·cases hb8
      ·try simp only at hb8
       refine qW ?_;change Awp _ _ _ _ _ _ _;refine awp_rseq [5,6,9,10,12,13,14] (by rfl) fun K hK=>?_;simp+decide only[ev,putD,Slots.put,Slots.get,if_true,if_false,true_and,↓qj,qf,↓Xg,Qa,Qk Tryz.underlying28 sz57,↓qA,ql,fa57_1,↓qF,qw UF,e5,htl,Int.toNat_natCast];repeat (with_reducible refine And.intro ?_ ?_;· first|trivial|omega|(intro hg;simp only[Bool.and_eq_true,Bool.or_eq_true,Bool.not_eq_true',Bool.and_eq_false_iff,Bool.or_eq_false_iff,Bool.not_eq_false',decide_eq_true_eq,decide_eq_false_iff_not,Zd]at hg;omega))
       refine QH (by rfl) (by rfl) (c_Uses w0 G tv _ ht24 (Nat.le_trans (Uy _) (by decide))) fun x24q5 h24q5 hx24q5=>?_;obtain⟨uv,rfl,hs24,hu1,hu2⟩:=hx24q5;rw[w3]at hu2;have hul:=hu2.live;have nuv:=nam_len hu2;have hs_h24q5:Sub h h24q5:=Sub.trans (by repeat (first|exact Sub.refl _|assumption|refine Sub.trans_set ?_ (by assumption))) hs24;have hr_h24q5:Sub G h24q5:=Sub.trans (by repeat (first|exact Sub.refl _|assumption|refine Sub.trans_set ?_ (by assumption))) hs24;simp+decide only[ev,putD,Slots.put,Slots.get,if_true,if_false,true_and,↓qj,qf,↓QJ,QC,QG,List.length_cons,List.length_nil,List.getD_cons_zero,List.getD_cons_succ,List.getD_cons_zero,List.getD_cons_succ,Nat.zero_add,Nat.reduceAdd,QN];refine Qg qas (cs:=[.int .i64 0, .int .i64 0, .int .i64 0]) (by rfl) fun k24q9 hk24q9=>?_;have hn_24q9:h24q5 k24q9=none:=by first|assumption|(simp only[AHeap.set_none]at hk24q9;simp only[hk24q9])
       have hf_24q9:h k24q9=none:=Sub.none hs_h24q5 hn_24q9;simp+decide only[ev,putD,Slots.put,Slots.get,if_true,if_false,true_and,↓qd,qb];refine qo (by rfl) (by rfl) (by repeat (first|exact AHeap.set_same _ _ _|assumption|refine(AHeap.set_ne _ _ (by first|assumption|exact Ne.symm (by assumption))).trans ?_)) QA (by rfl) (by rfl) (by first|exact Nat.le_refl _|decide|(simp;done)|(simp;omega)) (Nat.zero_le _) (by rfl) ?_;simp only[AHeap.set_set,AVal.cells];simp+decide only[qa,ev,putD,Slots.get,Slots.keep,if_true,if_false,setAt,List.set_cons_zero,List.set_cons_succ,Nat.zero_add,Nat.reduceAdd];apply hK;clear hK K;have hwn:IntKind.i64.wrap ((n:Int)-1)=(n:Int)-1:=wrap_i64 (by omega) (by omega);have hwj1:IntKind.i64.wrap ((j:Int)+1)=((j+1:Nat):Int):=wrap_i64 (by omega) (by omega);have hmU:∀c,IsL w0 (h24q5.set k24q9 c) 2 (.slice mlc mo qs.length mc) (qs.map qbm):=fun c=>hmG.mono (hs24.trans (Sub.set hn_24q9));have huU:∀c,IsL w0 (h24q5.set k24q9 c) 1 uv (List.map qci (if j+1=n then[]else[UE (j+1)])):=fun c=>hu2.mono (Sub.set hn_24q9);have hcas:(j+1<n/\((j:Int)<(n:Int)-1)=True/\((j:Int)=(n:Int)-1)=False/\(∀H,ZU Tryz.prog H 30 uv=⟨True, .int .i64 1⟩)/\∃ul uo uc,uv= .slice ul uo 1 uc/\(∀c,rd w0 (h24q5.set k24q9 c) ul uo= .str (UE (j+1)))/\∀c,rd w0 (h24q5.set k24q9 c) mlc (mo+(j+1)*2)= .str (UE (j+1)))\/
        (((j:Int)<(n:Int)-1)=False/\((j:Int)=(n:Int)-1)=True/\(∀H,ZU Tryz.prog H 30 uv=⟨True, .int .i64 0⟩)/\True/\True):=by
        by_cases hjn:j+1=n
        ·right
         simp only[hjn,if_true]at nuv;exact⟨eq_false (by omega),eq_true (by omega),nuv,trivial,trivial⟩
        ·left
         simp only[hjn,if_false]at nuv huU hu2;obtain⟨ul,uo,uc,e⟩:=nam_open hu2 (by simp);subst e;refine⟨by omega,eq_true (by omega),eq_false (by omega),nuv,ul,uo,uc,rfl,fun c=>?_,fun c=>?_⟩
         ·exact nam_at (l:=[UE (j+1)]) (huU c) (i:=0) (by simp)
         ·rw[(mem_at (hmU c) (i:=j+1) (by omega)).1,hqj _ (by omega)]
       rcases hcas with⟨hjl,hlt,heq,nuv',ul,uo,uc,rfl,u0,e6⟩|⟨hlt,heq,nuv',u0,e6⟩
       all_goals
        refine XR [5,6,9,10,12,180] mixed (by kernel_rfl) (by kernel_rfl) (by kernel_rfl) fun K hK=>?_;simp+decide only[qa,ev,qJ,qG,putD,Slots.put,Slots.get,Slots.keep,if_true,if_false,true_and,↓qF,Qa,qg Xf QA,↓Qn,↓qU,Zk,evP,List.map_nil,↓qB,qm,qV,cond_false,ZO,ne35,↓qj,qf,↓Xc,agP,Qu,qI,qH,qy,Qc,implies_true,decide_true,decide_false,Bool.not_false,Bool.not_true,Qo,Zm,forall_const,false_implies,qbF,Bool.and_true,Bool.and_false,agL_deadU,↓Xd,qD,XW,qz,Ul,XZ,↓qbA,QK,Zj Tryz.underlying30,qaB,↓ZC,XO,WF,Qk Tryz.underlying30 sz9,↓Zi,qw ag9,Xa,Qk Tryz.underlying28 sz57,↓Xt,ql,fa57_0,XN,qcM,↓ag_pick,Qt,Qh,Xl,↓QP,XB,QV,qc,List.getD_cons_zero,List.getD_cons_succ,Nat.zero_add,Nat.reduceAdd,qh,qE,allLive,Bool.and_true,w3,nuv',hlt,heq,u0,e6,hwn,hwj1,Int.toNat_natCast,Nat.mul_one,Nat.add_zero,Int.toNat_zero];repeat (with_reducible refine And.intro ?_ ?_;· first|trivial|omega|(intro hg;simp only[Bool.and_eq_true,Bool.or_eq_true,Bool.not_eq_true',Bool.and_eq_false_iff,Bool.or_eq_false_iff,Bool.not_eq_false',decide_eq_true_eq,decide_eq_false_iff_not,Zd]at hg;omega))
        apply hK;clear hK K;refine qK (b:=_) rfl (fun hb9=>?_) (fun hb9=>?_)
        ·cases hb9
        ·try simp only at hb9
         refine qW ?_;change Awp _ _ _ _ _ _ _;refine XI [5,6,9,10,12] (by rfl) ?_;simp+decide only[qa,ev,qJ,qG,putD,Slots.put,Slots.get,Slots.keep,if_true,if_false,true_and,↓qj,qf,↓qB,qm,qD,cond_false,qz,Xa,↓qd,qb];try simp(disch:=omega)only[wrap_i64]
         try simp only[Qj]
         exact⟨⟨j+1,h24q5⟩,rfl,Sub.set hn_24q9,⟨hj,j2.trans hs24⟩,by simp only;omega⟩
     ·try simp only[decide_eq_false_iff_not]at hb7
      refine XJ ?_;change Awp _ _ _ _ _ _ _;refine awp_rseq [4] (by rfl) fun K hK=>?_;refine qM (V:= .bool true) (by rfl) (by rfl) (c_lives04 w0 hm _) ?_;simp+decide only[qa,ev,putD,Slots.put,Slots.get,Slots.keep,if_true,if_false,true_and,↓qd,qb];apply hK;clear hK K;refine qN ?_;refine qY h (by repeat (first|exact Sub.refl _|assumption|refine Sub.trans_set ?_ (by assumption))) (Qb (Qe)) ?_;simp+decide only[Slots.get,if_true,and_true,Qw];all_goals first|rfl|exact⟨rfl,rfl⟩|(simp+decide only[if_true,if_false, *];done)|(trace_state;fail)
end Go.Proofs.YtlhhaagmakhilaaGreatDoor
namespace Go.Proofs.YtlhhaagmakhilaaGreatDoor
open Go.AM
open Go.ChangeShapes Go.WideShapes Go.ChangeAt Go.RowKit
set_option maxRecDepth 100000
section
variable {H:Type} {enc:TypeId×Value->H} {W:World} {base:Nat} {v:Value} {x:DataW H×List MemPlace}
theorem u8_of{n:Int}(h:(Lit.int .u8 n).wf=true):∃b:UInt8,(b.toNat:Int)=n:=by
 have:=wf_u8 h;exact⟨UInt8.ofNat n.toNat,by rw[UInt8.toNat_ofNat'];omega⟩
theorem arg_u8{t:TypeId}(ht:Tryz.prog.underlying t=some (.int .u8))(h:∃fuel,DataW.trod enc Tryz.prog W 0 (fun _=>true) true fuel t v.cells.toList=some x)(hv:Value.okWide Tryz.prog W .any base t v):
 ∃b:UInt8,VR (fun _=>none) (.int .u8 b.toNat) v:=by
 obtain⟨fuel,hf⟩:=h;obtain⟨n,hcs,_,hw⟩:=DataW.trod_int ht hf;obtain⟨b,hb⟩:=u8_of hw;obtain⟨m,rfl⟩:=okWide_int ht hv;refine⟨b,?_⟩;simp[Value.cells]at hcs;simp only[VR,hb,hcs]
theorem arg_bool{t:TypeId}(ht:Tryz.prog.underlying t=some .bool)(hv:Value.okWide Tryz.prog W .any base t v):∃b:Bool,VR (fun _=>none) (.bool b) v:=by
 obtain⟨b,rfl⟩:=okWide_bool ht hv;exact⟨b,by simp only[VR]⟩
end
theorem returns_and_shaped{H:Type}{enc:TypeId×Value->H}{a:Assume}{C:Checked}{os:Os}{f:FuncId}{fn:Func}{s:ChangeSpec}{conds:List PathCond}{apart fresh handsOn again:Bool}{X:World->Array Value->Prop}
 (hX:∀(w w':World) (args:Array Value),w.heap=w'.heap->X w args->X w' args)
 (own:ownKnob C.prog.godebug=none) (started:os.Started) (noInit:C.prog.inits.idxOf? f=none) (hfn:C.prog.funcs[f]?=some fn)
 (witness:∃(w:World) (tape:Tape) (i:Input),w.os=os/\(w.forCall tape i).Shaped C.prog/\i.vars=[]/\Input.okWide C.prog (w.forCall tape i) .any w.heap.size f i/\
   ((s.pre enc C.prog fn conds apart (w.forCall tape i).memory i.args/\X (w.forCall tape i).memory i.args)/\sizedMet enc C.prog fn (OpenSpec.ofChange s) apart (w.forCall tape i).memory i.args)/\a.holds C.prog (lone (Frame.enter C.prog f i.args .normal) [] (w.forCall tape i)))
 (contract:∀(W:World) (base:Nat) (args:Array Value) (ds gs:List (DataW H)) (before:List MemPlace),W.ShapedOpen C.prog->
   (∀(j:Nat) t v,fn.params[j]?=some t->args[j]?=some v->Value.okWide C.prog W .any base t v)->
   DataW.Whole enc C.prog fn.params.toList s.vars apart W args.toList ds gs before->
   conds.all (PathCond.test C.prog ⟨fn.params.toList,ds,s.plain.varTypes C.prog,gs⟩)=true->
   (DataW.weightsEach C.prog (fn.params.toList++s.plain.varTypes C.prog) (ds++gs)).all (· <=reachBytes)=true->X W args->
   a.holds C.prog (lone (Frame.enter C.prog f args .normal) [] W)->
   Calls C.prog f args W fun e W'=>∃v,e= .returned v/\s.post enc C.prog fn apart fresh handsOn again W args v W'):
 ReturnsInHanded a C os f .any (fun w args=>(s.pre enc C.prog fn conds apart w args/\X w args)/\sizedMet enc C.prog fn (OpenSpec.ofChange s) apart w args) (s.post enc C.prog fn apart fresh handsOn again):=by
 refine returnsInHanded_of_calls own started noInit witness ?_;intro w tape i _ hsh _ hok hpre hholds;obtain⟨_,_,_,fn',hfn',_,_,_,_,hval⟩:=hok;have e:fn'=fn:=Option.some.inj (hfn'.symm.trans hfn);subst e;obtain⟨⟨⟨ds,gs,before,hw,hc⟩,hx⟩,hz⟩:=hpre;have hw':=DataW.Whole.of_heap (w':=w.forCall tape i) (by rfl) hw;refine(contract (w.forCall tape i) w.heap.size i.args ds gs before hsh hval hw' hc (hz.weights hw) (hX _ _ _ (by rfl) hx) hholds).mono fun e W' ⟨v,he,hp⟩=>?_;subst he;exact ChangeSpec.post_blind hp
end Go.Proofs.YtlhhaagmakhilaaGreatDoor
namespace Go.Proofs.YtlhhaagmakhilaaGreatDoor
open Go.AM
open Go.ChangeShapes Go.WideShapes Go.ChangeAt Go.RowKit
set_option maxRecDepth 100000
theorem maxl_of{W:World}(h:W.ShapedOpen Tryz.prog):MaxL W:=
 cell_of_shapedOpen_int (t:=3) (zero:= #[.int .i64 0]) h (of_decide_eq_true (by kernel_rfl)) (by kernel_rfl) rfl (by kernel_rfl) (by kernel_rfl) Tryz.underlying3
end Go.Proofs.YtlhhaagmakhilaaGreatDoor
