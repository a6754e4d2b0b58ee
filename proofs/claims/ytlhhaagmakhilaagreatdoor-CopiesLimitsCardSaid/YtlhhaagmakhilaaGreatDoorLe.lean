/-
  Texts of this proof, joined: CqI, CqJ, CqK, CqL, CqM, CqN, CqO, CqP, CqQ, CqR, TkU, CsA, CsB, BmB, CsC, CsD, LwR, LwS.
  Conditions: none.
-/
import Derived.Test.YtlhhaagmakhilaaGreatDoorLd
import Derived.Test.YtlhhaagmakhilaaGreatDoorLb
import Derived.Test.YtlhhaagmakhilaaGreatDoorProg
import Derived.WalkKit
import Derived.ProofKit
import Derived.OpenShut
import Derived.ShutString
import Derived.ChangeOld
import Derived.Below
import Derived.Deep.Strs
import Derived.Handed
import Derived.HandedShaped
import Derived.Shelf.Vars
import Derived.Test.YtlhhaagmakhilaaGreatDoorRows
import Derived.Lib.LaidTab
import Derived.MakeChecks
set_option linter.unusedSimpArgs false
set_option linter.unnecessarySimpa false
set_option linter.unusedVariables false
namespace Go.Proofs.YtlhhaagmakhilaaGreatDoor
open Go.AM
open Go.Proofs
open Go.Col
open Go.Tok
open Go.Cop
open Go.RowKit (Below)
set_option maxRecDepth 100000
theorem capL_twice(v:AVal):Ye (Ye v)=Ye v:=by cases v<;>rfl
def OutR(h:AHeap)(out:List TokC)(v:AVal)(h':AHeap):Prop:=∃tb,v=Ye (QT 5 tb)/\bufOk h 5 tb/\Uc tb=(out.map Xv).flatten/\h'=QY h tb
theorem OutR.toks{w0:World}{h h':AHeap}{out:List TokC}{v:AVal}(hr:OutR h out v h'):IsL w0 h' 5 v (out.map Xv)/\Ye v=v/\Sub h h':=by
 obtain⟨tb,rfl,h1,h2,rfl⟩:=hr;exact⟨(IsL.buf h1 (by decide) h2 Ya (Sub.refl _)).clip,capL_twice _,Sub.buf h1⟩
theorem OutR.nil(h:AHeap):OutR h [] .nilSlice h:=⟨none,rfl,trivial,rfl,rfl⟩
theorem bufOk_new{H:AHeap}{es:Nat}{b:Option Buf}{j:Nat}(hb:bufOk H es b)(hj:QY H b j=none)(c:Blk):bufOk (H.set j c) es b:=by
 cases b with
 |none=>trivial
 |some b=>
  have hne:b.blk≠j:=fun e=>by
   rw[<-e,show QY H (some b)=H.set b.blk ⟨b.cells,0⟩from rfl,AHeap.set_same]at hj;cases hj
  exact⟨(AHeap.set_ne _ _ hne).trans hb.1,hb.2⟩
structure RpG where
 at_:Nat
 ka:Nat
 tb:Option Buf
 out:List TokC
structure RpOk(h:AHeap)(k0:Nat)(lv:AVal)(l:List TokC)(rs:List RepC)(s:RpG):Prop where
 at_:s.at_<=l.length
 new:h s.ka=none/\s.ka≠k0
 ok:bufOk ((h.set k0 ⟨[lv],0⟩).set s.ka ⟨[.int .i64 s.at_],0⟩) 5 s.tb
 eq:Uc s.tb=(s.out.map Xv).flatten
 go:s.out++qbd rs (l.drop s.at_)=qbd rs l
set_option maxHeartbeats 2000000 in
theorem c_copyReplace(w0:World)(h:AHeap)(lv rv:AVal)(l:List TokC)(rs:List RepC)(hlv:IsL w0 h 5 lv (l.map Xv))(hrv:IsReps w0 h rv rs)(hl:l.length<=1000000)(hrl:rs.length<=1000000)(hn:∀x∈rs,x.new.length<=1000000):
 ACall Tryz.prog w0 16 [lv,rv] h (fun r h'=>∃v,r= .tuple [v, .int .i64 (UB l rs).2]/\OutR h (UB l rs).1 v h'):=by
 obtain⟨qs,hqs,hq2,hq3⟩:=hrv;have hll:=hlv.live;have hls:=hlv.scal;have nl:=Za hlv;have hlr:=hq2.live;have nr:=rep_len hq2;have hqn:qs.length=rs.length:=by rw[hqs,List.length_map]
 obtain⟨an,han⟩:∃b,b=rs.any (fun x=>decide (x.old=[])):=⟨_,rfl⟩
 have hanq:qs.any (fun q=>decide (q.1.old=[]))=an:=by rw[han,hqs,List.any_map];rfl
 have hR:UB l rs=if an=true then([],1)else if 65536<(qbd rs l).length then([],3)else(qbd rs l,0):=by rw[han];rfl
 refine qR (n:=50) (rs:=[.tmp 4, .tmp 5]) Tryz.func16 rfl rfl rfl rfl (Nat.le_of_ble_eq_true rfl) ?_;simp only[Qc];refine awp_rseq [1,2] (by rfl) fun K hK=>?_;refine Wj (v:=lv) (cs:=[lv]) (by rfl) hll hlv.cells fun k0q0 hk0q0=>?_;try have hf_0q0:h k0q0=none:=by first|assumption|(simp only[AHeap.set_none]at hk0q0;simp only[hk0q0])
 simp+decide only[qa,ev,qJ,qG,putD,Slots.put,Slots.keep,if_true,if_false,true_and,↓qd,qb,Nat.zero_add];apply hK;clear hK K;refine qO ?_;refine awp_rseq [1,2,10] (by rfl) fun K hK=>?_;simp+decide only[ev,putD,Slots.put,Slots.get,if_true,if_false,true_and,↓qj,qf];refine qM (V:= .bool an) (by rfl) (by rfl) (by rw[<-hanq];exact c_contR w0 _ rv qs (hq2.mono (by repeat (first|exact Sub.refl _|assumption|refine Sub.set_both ?_ _ _|refine Sub.trans_set ?_ (by repeat (first|assumption|refine(AHeap.set_ne _ _ (by first|assumption|exact Ne.symm (by assumption))).trans ?_))))) (fun q hm=>(hq3 q hm).mono (by repeat (first|exact Sub.refl _|assumption|refine Sub.set_both ?_ _ _|refine Sub.trans_set ?_ (by repeat (first|assumption|refine(AHeap.set_ne _ _ (by first|assumption|exact Ne.symm (by assumption))).trans ?_))))) (by omega)) ?_;simp+decide only[qa,putD,Slots.put,Slots.keep,if_true,if_false];apply hK;clear hK K;refine qL (b:=_) rfl (fun hb1=>?_) (fun hb1=>?_)
 ·skip
  refine awp_rseq [4,5] (by rfl) fun K hK=>?_;simp+decide only[qa,ev,qJ,qG,putD,Slots.put,Slots.keep,if_true,if_false,true_and,↓qd,qb];apply hK;clear hK K;refine qN ?_;try simp only[Qf]
  refine qU h (by repeat (first|exact Sub.refl _|assumption|refine Sub.set_both ?_ _ _|refine Sub.trans_set ?_ (by repeat (first|assumption|refine(AHeap.set_ne _ _ (by first|assumption|exact Ne.symm (by assumption))).trans ?_)))) (qY (qY (Qe))) ?_;simp+decide only[Slots.get,if_true,if_false,Wd];rw[hR,if_pos hb1];exact⟨.nilSlice,rfl,OutR.nil h⟩
 ·skip
  rw[if_neg (by rw[hb1];decide)]at hR;have hrs:∀x∈rs,x.old≠[]:=fun x hx e=>by
   rw[hb1]at han;have:=han.symm;rw[List.any_eq_false]at this;exact this x hx (by simp[e])
  refine Qa ?_;change Awp _ _ _ _ _ _ _;refine awp_rseq [1,2,6] (by rfl) fun K hK=>?_;simp+decide only[qa,ev,qJ,qG,putD,Slots.put,Slots.keep,if_true,if_false,true_and,↓qd,qb];apply hK;clear hK K;refine qO ?_;refine awp_rseq [1,2,6,7] (by rfl) fun K hK=>?_;refine Qi ze3 (cs:=[.int .i64 0]) (by rfl) fun k4q0 hk4q0=>?_;have ne_4q0_0q0:k4q0≠k0q0:=by simp only[AHeap.set_none]at hk4q0;simp only[hk4q0,ne_eq,not_false_eq_true]
  try have hf_4q0:h k4q0=none:=by first|assumption|(simp only[AHeap.set_none]at hk4q0;simp only[hk4q0])
  refine qm (by rfl) (by rfl) (by repeat (first|exact AHeap.set_same _ _ _|assumption|refine(AHeap.set_ne _ _ (by first|assumption|exact Ne.symm (by assumption))).trans ?_)) sz3 (by rfl) (by rfl) (by first|exact Nat.le_refl _|decide|(simp;done)|(simp;omega)) (Nat.zero_le _) (by rfl) ?_;simp only[AHeap.set_set,AVal.cells];simp+decide only[qa,ev,qJ,qG,putD,Slots.put,Slots.keep,if_true,if_false,setAt,List.set_cons_zero];apply hK;clear hK K;refine QB ?_;refine XH [1,2,6,7] (fun s:RpG=>[(1,rv),(2, .ptr (.own k0q0) 0),(6,QT 5 s.tb),(7, .ptr (.own s.ka) 0)]) (fun s:RpG=>QY ((h.set k0q0 ⟨[lv],0⟩).set s.ka ⟨[.int .i64 s.at_],0⟩) s.tb) (fun s:RpG=>RpOk h k0q0 lv l rs s/\s.out.length<=65536) (fun s:RpG=>l.length-s.at_) ⟨0,k4q0,none,[]⟩ (by rfl) (Sub.refl _) ⟨⟨Nat.zero_le _,⟨hf_4q0,ne_4q0_0q0⟩,trivial,rfl,rfl⟩,Nat.zero_le _⟩ ?_;rintro⟨at_,ka,tb,out⟩ ⟨⟨g1,⟨g2,ne_a_0q0⟩,g4,g5,g6⟩,g7⟩;simp only at g1 g2 ne_a_0q0 g4 g5 g6 g7|-
  obtain⟨G,hG⟩:∃G,G=(h.set k0q0 ⟨[lv],0⟩).set ka ⟨[.int .i64 at_],0⟩:=⟨_,rfl⟩
  rw[<-hG]at g4|-
  have hsG:Sub h G:=by rw[hG];exact Sub.trans_set (Sub.set hf_0q0) g2
  have gb_0:G k0q0=some ⟨[lv],0⟩:=by rw[hG];exact(AHeap.set_ne _ _ ne_a_0q0.symm).trans (AHeap.set_same _ _ _)
  have gb_a:G ka=some ⟨[.int .i64 at_],0⟩:=by rw[hG];exact AHeap.set_same _ _ _
  obtain⟨H1,hH1⟩:∃H1,H1=QY G tb:=⟨_,rfl⟩
  have hs_H1:Sub h H1:=by rw[hH1];exact hsG.trans (Sub.buf g4)
  have eb_0q0:H1 k0q0=some ⟨[lv],0⟩:=by rw[hH1];exact ZN g4 gb_0
  have eb_a:H1 ka=some ⟨[.int .i64 at_],0⟩:=by rw[hH1];exact ZN g4 gb_a
  have hbl:=Xm 5 tb;rw[<-hH1];refine qO ?_;refine awp_rseq [1,2,6,7,14] (by rfl) fun K hK=>?_;simp+decide only[qa,ev,putD,Slots.put,Slots.get,Slots.keep,if_true,if_false,true_and,↓qF,Qb,qy ag3,qy UK,↓XA,QK,↓qC,qo,qZ,cond_false,qz,Zd,Qp w0 eb_0q0,Qp w0 eb_a,List.getD_cons_zero,qh,hll,nl];apply hK;clear hK K;refine qL (b:=_) rfl (fun hb2=>?_) (fun hb2=>?_)
  ·try simp only[decide_eq_true_eq]at hb2
   have hat:at_<l.length:=by omega
   have hst:=repE_step hrs hat;refine Qa ?_;change Awp _ _ _ _ _ _ _;refine qO ?_;refine QB ?_;refine awp_rseq [1,2,6,7,8] (by rfl) fun K hK=>?_;simp+decide only[ev,putD,Slots.put,Slots.get,if_true,if_false,true_and,↓qj,qf,↓qdI,qcy,evs,List.map_cons,List.map_nil];refine qM (V:= .int .i64 (qaA (fun q=>YU (l.drop at_) q.1.old) qs)) (by rfl) (by rfl) (c_indexR w0 _ rv qs _ [.ptr (.own k0q0) 0, .ptr (.own ka) 0] (fun q=>YU (l.drop at_) q.1.old) (hq2.mono (by repeat (first|exact Sub.refl _|assumption|refine Sub.set_both ?_ _ _|refine Sub.trans_set ?_ (by repeat (first|assumption|refine(AHeap.set_ne _ _ (by first|assumption|exact Ne.symm (by assumption))).trans ?_))))) (fun q hm=>⟨(hq3 q hm).lives.1,(hq3 q hm).lives.2.1⟩) (by omega) (by rfl) (fun q hm=>c_rep2 w0 _ q ((hq3 q hm).mono (by repeat (first|exact Sub.refl _|assumption|refine Sub.set_both ?_ _ _|refine Sub.trans_set ?_ (by repeat (first|assumption|refine(AHeap.set_ne _ _ (by first|assumption|exact Ne.symm (by assumption))).trans ?_))))) k0q0 ka lv l at_ (by repeat (first|exact AHeap.set_same _ _ _|assumption|refine(AHeap.set_ne _ _ (by first|assumption|exact Ne.symm (by assumption))).trans ?_)) (by repeat (first|exact AHeap.set_same _ _ _|assumption|refine(AHeap.set_ne _ _ (by first|assumption|exact Ne.symm (by assumption))).trans ?_)) (hlv.mono (by repeat (first|exact Sub.refl _|assumption|refine Sub.set_both ?_ _ _|refine Sub.trans_set ?_ (by repeat (first|assumption|refine(AHeap.set_ne _ _ (by first|assumption|exact Ne.symm (by assumption))).trans ?_))))) (by omega) g1)) ?_;simp+decide only[qa,ev,putD,Slots.put,Slots.get,Slots.keep,if_true,if_false,true_and,↓qd,qb];apply hK;clear hK K;refine qO ?_;refine awp_rseq [1,2,6,7,8,19] (by rfl) fun K hK=>?_;simp+decide only[qa,ev,qJ,qG,putD,Slots.put,Slots.get,Slots.keep,if_true,if_false,true_and,↓qj,qf,↓qC,qo,qD,cond_false,qz,Zd];apply hK;clear hK K;refine Uu [1,2,6,7] (fun s:RpG=>[(1,rv),(2, .ptr (.own k0q0) 0),(6,QT 5 s.tb),(7, .ptr (.own s.ka) 0)]) (fun s:RpG=>QY ((h.set k0q0 ⟨[lv],0⟩).set s.ka ⟨[.int .i64 s.at_],0⟩) s.tb) (fun s:RpG=>RpOk h k0q0 lv l rs s/\s.out.length<=2000000/\at_<s.at_) ?_ ?_
   ·refine qL (b:=_) rfl (fun hb3=>?_) (fun hb3=>?_)
    ·try simp only[decide_eq_true_eq]at hb3
     have hnone:rs.find? (fun x=>YU (l.drop at_) x.old)=none:=by
      rcases find_idx (r:=rs) (p:=fun x=>YU (l.drop at_) x.old)with z|⟨i,x,z1,z2,z3,z4⟩
      ·exact z.2
      ·exfalso
       have e:qaA (fun q:RepQ=>YU (l.drop at_) q.1.old) qs=i:=by
        rw[<-idxI_map (fun q:RepQ=>q.1) (fun x:RepC=>YU (l.drop at_) x.old) qs,<-hqs];unfold qaA;rw[z1]
       omega
     rw[hnone]at hst;obtain⟨lc,o,c,rfl⟩:=qan hlv (by omega);obtain⟨t,ht⟩:∃t,t=l.getD at_ UL:=⟨_,rfl⟩
     rw[show l.getD at_ noT=t from ht.symm]at hst;obtain⟨e0,e1,e2,e3,e4⟩:=qcn (hlv.mono hs_H1) hat;rw[<-ht]at e0 e1 e2 e3 e4;have e2':rd w0 H1 lc (o+at_*5+1+1)= .int .i64 t.line:=e2;have e3':rd w0 H1 lc (o+at_*5+1+1+1)= .int .i64 t.col:=e3;have e4':rd w0 H1 lc (o+at_*5+1+1+1+1)= .bool t.left:=e4;refine awp_rseq [1,2,6,7] (by rfl) fun K hK=>?_;simp+decide only[ev,putD,Slots.put,Slots.get,if_true,if_false,true_and,↓qj,qf,↓qF,Qb,qy UK,qy ag3,↓Xi,Qs Tryz.underlying26 Xg,qg Zz Xg,Qp w0 eb_0q0,Qp w0 eb_a,qc,List.getD_cons_zero,qB,qh,qE,allLive,Bool.and_true,hll,e0,e1,e2',e3',e4',Int.toNat_natCast];repeat (with_reducible refine And.intro ?_ ?_;· first|trivial|omega|(intro hg;simp only[Bool.and_eq_true,Bool.or_eq_true,Bool.not_eq_true',Bool.and_eq_false_iff,Bool.or_eq_false_iff,Bool.not_eq_false',decide_eq_true_eq,decide_eq_false_iff_not,Zt]at hg;omega))
     refine QC (cs:=Xv t) (by kernel_rfl) fun k8q5 hk8q5=>?_;have hn_8q5:H1 k8q5=none:=by first|assumption|(simp only[AHeap.set_none]at hk8q5;simp only[hk8q5])
     have hf_8q5:h k8q5=none:=Sub.none hs_H1 hn_8q5;have ne_8q5_0q0:k8q5≠k0q0:=AHeap.ne_some hn_8q5 eb_0q0;have ne_8q5_a:k8q5≠ka:=AHeap.ne_some hn_8q5 eb_a;refine XY (es:=5) (zs:=out.map Xv) (xs:=[Xv t]) (hZ:=G) (b:=tb) (by rfl) (by rfl) Tryz.underlying26 Tryz.underlying26 (fun k e=>by cases e) Xg by54 qby (by rfl) (by decide) (by rfl) g4 g5 Ya (by rw[<-hH1];exact(by repeat (first|exact Sub.refl _|assumption|refine Sub.set_both ?_ _ _|refine Sub.trans_set ?_ (by repeat (first|assumption|refine(AHeap.set_ne _ _ (by first|assumption|exact Ne.symm (by assumption))).trans ?_))))) (by rfl) (IsL.own (AHeap.set_same _ _ _) (by simp[Xv]) (by rfl) (by rfl) (.exact 1) (Nat.le_refl _)) (by rfl) (by simp;omega) (by simp;omega) fun tb2 h8 o1 o2 o3=>?_;have eb8:=o3 _ _ (ZN o1 gb_a);simp+decide only[qa,ev,putD,Slots.put,Slots.get,Slots.keep,if_true,if_false,true_and,↓qd,qb];apply hK;clear hK K;refine XK [1,2,6,7] (by rfl) ?_;simp+decide only[ev,qJ,qG,putD,Slots.put,Slots.get,if_true,if_false,true_and,↓qF,Qb,qy ag3,↓qC,qo,qD,cond_false,qz,Xf,List.getD_cons_zero,qh,Qp w0 eb8];try simp(disch:=omega)only[wrap_i64]
     refine qm (by rfl) (by rfl) (by repeat (first|exact AHeap.set_same _ _ _|assumption|refine(AHeap.set_ne _ _ (by first|assumption|exact Ne.symm (by assumption))).trans ?_)) sz3 (by rfl) (by rfl) (by first|exact Nat.le_refl _|decide|(simp;done)|(simp;omega)) (Nat.zero_le _) (by rfl) ?_;simp only[AVal.cells];simp+decide only[qa,ev,putD,Slots.get,Slots.keep,if_true,if_false,setAt,List.set_cons_zero];try simp only[Ql]
     first
     |exact⟨⟨at_+1,ka,tb2,out++[t]⟩,rfl,by(rw[show(h.set k0q0 ⟨[.slice lc o l.length c],0⟩).set ka ⟨[.int .i64 ((at_+1:Nat):Int)],0⟩=G.set ka ⟨[.int .i64 ((at_+1:Nat):Int)],0⟩ by rw[hG,AHeap.set_set],<-YS o1 gb_a];exact Sub.set_both o3 _ _),⟨hat,⟨g2,ne_a_0q0⟩,by(rw[show(h.set k0q0 ⟨[.slice lc o l.length c],0⟩).set ka ⟨[.int .i64 ((at_+1:Nat):Int)],0⟩=G.set ka ⟨[.int .i64 ((at_+1:Nat):Int)],0⟩ by rw[hG,AHeap.set_set]];exact ZH o1 gb_a _),by rw[o2,List.map_append];rfl,by rw[<-g6,hst,List.append_assoc];rfl⟩,by(simp only[List.length_append,List.length_cons,List.length_nil];omega),by(simp only;omega)⟩
     |exact⟨⟨at_+x.old.length,ka,tb2,out++x.new⟩,rfl,by(rw[show(h.set k0q0 ⟨[lv],0⟩).set ka ⟨[.int .i64 ((at_+x.old.length:Nat):Int)],0⟩=G.set ka ⟨[.int .i64 ((at_+x.old.length:Nat):Int)],0⟩ by rw[hG,AHeap.set_set],<-YS o1 gb_a];exact Sub.set_both o3 _ _),⟨by(simp only;omega),⟨g2,ne_a_0q0⟩,by(rw[show(h.set k0q0 ⟨[lv],0⟩).set ka ⟨[.int .i64 ((at_+x.old.length:Nat):Int)],0⟩=G.set ka ⟨[.int .i64 ((at_+x.old.length:Nat):Int)],0⟩ by rw[hG,AHeap.set_set]];exact ZH o1 gb_a _),by rw[o2,List.map_append,List.flatten_append],by rw[<-g6,hst,List.append_assoc]⟩,by(simp only[List.length_append];omega),by(simp only;omega)⟩
    ·try simp only[decide_eq_false_iff_not]at hb3
     obtain⟨i,x,z1,z2,z3,z4⟩:∃i x,rs.findIdx? (fun x=>YU (l.drop at_) x.old)=some i/\rs.find? (fun x=>YU (l.drop at_) x.old)=some x/\i<rs.length/\rs[i]?=some x:=by
      rcases find_idx (r:=rs) (p:=fun x=>YU (l.drop at_) x.old)with z|z
      ·exfalso
       have e:qaA (fun q:RepQ=>YU (l.drop at_) q.1.old) qs= -1:=by
        rw[<-idxI_map (fun q:RepQ=>q.1) (fun x:RepC=>YU (l.drop at_) x.old) qs,<-hqs];unfold qaA;rw[z.1]
       omega
      ·exact z
     have e:qaA (fun q:RepQ=>YU (l.drop at_) q.1.old) qs=i:=by
      rw[<-idxI_map (fun q:RepQ=>q.1) (fun x:RepC=>YU (l.drop at_) x.old) qs,<-hqs];unfold qaA;rw[z1]
     rw[e];rw[z2]at hst;have hiq:i<qs.length:=by omega
     obtain⟨q,hqe⟩:∃q,q=qs.getD i badR:=⟨_,rfl⟩
     have hqm:q∈qs:=by rw[hqe];exact getD_mem badR hiq
     have hq1:q.1=x:=by
      rw[hqs,List.getElem?_map,List.getElem?_eq_getElem hiq]at z4;rw[hqe,List.getD,List.getElem?_eq_getElem hiq];exact Option.some.inj z4
     have hqk:=hq3 q hqm;obtain⟨y1,y2,y3,y4⟩:=hqk.lives;have hxm:x∈rs:=List.mem_of_getElem? z4;have hxn:=hn x hxm;have hfit:=fitsR_len (l:=l.drop at_) (o:=x.old) (by have:=List.find?_some z2;exact this);rw[List.length_drop]at hfit;have hxo:0<x.old.length:=by
      rcases Nat.eq_zero_or_pos x.old.length with w|w
      ·exact absurd (List.eq_nil_of_length_eq_zero w) (hrs x hxm)
      ·exact w
     obtain⟨lcr,orr,cr,rfl⟩:=rep_open hq2 (by omega);obtain⟨-,d1⟩:=rep_at (hq2.mono hs_H1) hiq;rw[<-hqe]at d1;have nold:=Za hqk.old;rw[hq1]at nold;have hnw:=hqk.new;rw[hq1]at hnw;refine awp_rseq [1,2,6,7,8] (by rfl) fun K hK=>?_;simp+decide only[ev,putD,Slots.put,Slots.get,if_true,if_false,true_and,↓qj,qf,↓Xi,Qb,Qs Tryz.underlying43 sz46,↓qA,ql,fa46_1,↓qF,qy UK,d1,y2,Int.toNat_natCast];repeat (with_reducible refine And.intro ?_ ?_;· first|trivial|omega|(intro hg;simp only[Bool.and_eq_true,Bool.or_eq_true,Bool.not_eq_true',Bool.and_eq_false_iff,Bool.or_eq_false_iff,Bool.not_eq_false',decide_eq_true_eq,decide_eq_false_iff_not,Zt]at hg;omega))
     refine XY (es:=5) (zs:=out.map Xv) (xs:=x.new.map Xv) (hZ:=G) (b:=tb) (by rfl) (by rfl) Tryz.underlying26 Tryz.underlying26 (fun k e=>by cases e) Xg by54 qby (by rfl) (by decide) (by rfl) g4 g5 Ya (by rw[<-hH1];exact(by repeat (first|exact Sub.refl _|assumption|refine Sub.set_both ?_ _ _|refine Sub.trans_set ?_ (by repeat (first|assumption|refine(AHeap.set_ne _ _ (by first|assumption|exact Ne.symm (by assumption))).trans ?_))))) (by rfl) (hnw.mono (by repeat (first|exact Sub.refl _|assumption|refine Sub.set_both ?_ _ _|refine Sub.trans_set ?_ (by repeat (first|assumption|refine(AHeap.set_ne _ _ (by first|assumption|exact Ne.symm (by assumption))).trans ?_))))) (by rw[WB];intro z hz;obtain⟨t,_,rfl⟩:=List.mem_map.1 hz;rfl) (by simp;omega) (by simp;omega) fun tb2 h10 o1 o2 o3=>?_;have eb10:=o3 _ _ (ZN o1 gb_a);have hs10:Sub h h10:=(hsG.trans (Sub.buf o1)).trans o3;obtain⟨d0,-⟩:=rep_at (hq2.mono hs10) hiq;rw[<-hqe]at d0;simp+decide only[qa,ev,putD,Slots.put,Slots.get,Slots.keep,if_true,if_false,true_and,↓qd,qb];apply hK;clear hK K;refine qam 8 mixed (by kernel_rfl) (by rfl) (by rfl) ?_;simp+decide only[ev,putD,Slots.put,Slots.get,if_true,if_false,true_and,↓qF,Qb,qy ag3,↓qj,qf,↓Xi,Qs Tryz.underlying43 sz46,↓qA,ql,fa46_0,qy UK,↓XA,QK,↓qC,qo,qZ,cond_false,qz,Xf,List.getD_cons_zero,qh,Qp w0 eb10,d0,y1,nold,Int.toNat_natCast,Nat.add_zero];try simp(disch:=omega)only[wrap_i64]
     repeat (with_reducible refine And.intro ?_ ?_;· first|trivial|omega|(intro hg;simp only[Bool.and_eq_true,Bool.or_eq_true,Bool.not_eq_true',Bool.and_eq_false_iff,Bool.or_eq_false_iff,Bool.not_eq_false',decide_eq_true_eq,decide_eq_false_iff_not,Zt]at hg;omega))
     refine qm (by rfl) (by rfl) (by repeat (first|exact AHeap.set_same _ _ _|assumption|refine(AHeap.set_ne _ _ (by first|assumption|exact Ne.symm (by assumption))).trans ?_)) sz3 (by rfl) (by rfl) (by first|exact Nat.le_refl _|decide|(simp;done)|(simp;omega)) (Nat.zero_le _) (by rfl) ?_;simp only[AVal.cells];simp+decide only[qa,ev,putD,Slots.get,if_true,if_false,setAt,List.set_cons_zero];try simp only[Ql]
     first
     |exact⟨⟨at_+1,ka,tb2,out++[t]⟩,rfl,by(rw[show(h.set k0q0 ⟨[.slice lc o l.length c],0⟩).set ka ⟨[.int .i64 ((at_+1:Nat):Int)],0⟩=G.set ka ⟨[.int .i64 ((at_+1:Nat):Int)],0⟩ by rw[hG,AHeap.set_set],<-YS o1 gb_a];exact Sub.set_both o3 _ _),⟨hat,⟨g2,ne_a_0q0⟩,by(rw[show(h.set k0q0 ⟨[.slice lc o l.length c],0⟩).set ka ⟨[.int .i64 ((at_+1:Nat):Int)],0⟩=G.set ka ⟨[.int .i64 ((at_+1:Nat):Int)],0⟩ by rw[hG,AHeap.set_set]];exact ZH o1 gb_a _),by rw[o2,List.map_append];rfl,by rw[<-g6,hst,List.append_assoc];rfl⟩,by(simp only[List.length_append,List.length_cons,List.length_nil];omega),by(simp only;omega)⟩
     |exact⟨⟨at_+x.old.length,ka,tb2,out++x.new⟩,rfl,by(rw[show(h.set k0q0 ⟨[lv],0⟩).set ka ⟨[.int .i64 ((at_+x.old.length:Nat):Int)],0⟩=G.set ka ⟨[.int .i64 ((at_+x.old.length:Nat):Int)],0⟩ by rw[hG,AHeap.set_set],<-YS o1 gb_a];exact Sub.set_both o3 _ _),⟨by(simp only;omega),⟨g2,ne_a_0q0⟩,by(rw[show(h.set k0q0 ⟨[lv],0⟩).set ka ⟨[.int .i64 ((at_+x.old.length:Nat):Int)],0⟩=G.set ka ⟨[.int .i64 ((at_+x.old.length:Nat):Int)],0⟩ by rw[hG,AHeap.set_set]];exact ZH o1 gb_a _),by rw[o2,List.map_append,List.flatten_append],by rw[<-g6,hst,List.append_assoc]⟩,by(simp only[List.length_append];omega),by(simp only;omega)⟩
   ·rintro⟨at2,ka2,tb2,out2⟩ ⟨⟨f1,⟨f2,ne_a2_0q0⟩,f4,f5,f6⟩,f7,f8⟩
    simp only at f1 f2 ne_a2_0q0 f4 f5 f6 f7 f8|-
    obtain⟨G2,hG2⟩:∃G2,G2=(h.set k0q0 ⟨[lv],0⟩).set ka2 ⟨[.int .i64 at2],0⟩:=⟨_,rfl⟩
    rw[<-hG2]at f4|-
    have hsG2:Sub h G2:=by rw[hG2];exact Sub.trans_set (Sub.set hf_0q0) f2
    have gb_0:G2 k0q0=some ⟨[lv],0⟩:=by rw[hG2];exact(AHeap.set_ne _ _ ne_a2_0q0.symm).trans (AHeap.set_same _ _ _)
    have gb_a2:G2 ka2=some ⟨[.int .i64 at2],0⟩:=by rw[hG2];exact AHeap.set_same _ _ _
    obtain⟨H2,hH2⟩:∃H2,H2=QY G2 tb2:=⟨_,rfl⟩
    have hs_H2:Sub h H2:=by rw[hH2];exact hsG2.trans (Sub.buf f4)
    have eb_0q0:H2 k0q0=some ⟨[lv],0⟩:=by rw[hH2];exact ZN f4 gb_0
    have eb_a2:H2 ka2=some ⟨[.int .i64 at2],0⟩:=by rw[hH2];exact ZN f4 gb_a2
    have hbl2:=Xm 5 tb2;have nb2:=Za (IsL.buf (w0:=w0) f4 (by decide) f5 Ya (Sub.refl _));rw[<-hH2];skip;refine awp_rseq [1,2,6,7,46] (by rfl) fun K hK=>?_;simp+decide only[qa,ev,qJ,qG,putD,Slots.put,Slots.get,Slots.keep,if_true,if_false,true_and,↓qj,qf,↓XA,QK,↓qC,qo,qD,cond_false,qz,Ur,nb2];apply hK;clear hK K;refine qL (b:=_) rfl (fun hb4=>?_) (fun hb4=>?_)
    ·try simp only[decide_eq_true_eq]at hb4
     refine awp_rseq [4,5] (by rfl) fun K hK=>?_;simp+decide only[qa,ev,qJ,qG,putD,Slots.put,Slots.keep,if_true,if_false,true_and,↓qd,qb];apply hK;clear hK K;refine qN ?_;try simp only[Qf,Qr]
     refine qU h (by repeat (first|exact Sub.refl _|assumption|refine Sub.set_both ?_ _ _|refine Sub.trans_set ?_ (by repeat (first|assumption|refine(AHeap.set_ne _ _ (by first|assumption|exact Ne.symm (by assumption))).trans ?_)))) (qY (qY (Qe))) ?_;simp+decide only[Slots.get,if_true,if_false,Wd];have hlen:65536<(qbd rs l).length:=by
      rw[<-f6,List.length_append];omega
     rw[hR,if_pos hlen];exact⟨.nilSlice,rfl,OutR.nil h⟩
    ·try simp only[decide_eq_false_iff_not]at hb4
     refine Qa ?_;change Awp _ _ _ _ _ _ _;refine awp_rseq [1,2,6,47] (by rfl) fun K hK=>?_;simp+decide only[qa,ev,putD,Slots.put,Slots.get,Slots.keep,if_true,if_false,true_and,↓qF,Qb,qy ag3,Qp w0 eb_a2,List.getD_cons_zero,qh];apply hK;clear hK K;refine XK [1,2,6,7] (by rfl) ?_;refine Qi ze3 (cs:=[.int .i64 0]) (by rfl) fun k15q0 hk15q0=>?_;have hn_15q0:H2 k15q0=none:=by first|assumption|(simp only[AHeap.set_none]at hk15q0;simp only[hk15q0])
     have hf_15q0:h k15q0=none:=Sub.none hs_H2 hn_15q0;have ne_15q0_0q0:k15q0≠k0q0:=AHeap.ne_some hn_15q0 eb_0q0;have ne_15q0_a2:k15q0≠ka2:=AHeap.ne_some hn_15q0 eb_a2;refine qm (by rfl) (by rfl) (by repeat (first|exact AHeap.set_same _ _ _|assumption|refine(AHeap.set_ne _ _ (by first|assumption|exact Ne.symm (by assumption))).trans ?_)) sz3 (by rfl) (by rfl) (by first|exact Nat.le_refl _|decide|(simp;done)|(simp;omega)) (Nat.zero_le _) (by rfl) ?_;simp only[AHeap.set_set,AVal.cells];simp+decide only[qa,ev,putD,Slots.put,Slots.get,Slots.keep,if_true,if_false,setAt,List.set_cons_zero];try simp only[Ql]
     have hnew:=bufNew (b:=tb2) (H:=G2) (j:=k15q0) (by rw[<-hH2];exact hn_15q0) ⟨[.int .i64 at2],0⟩;exact⟨⟨at2,k15q0,tb2,out2⟩,rfl,by(rw[hH2,hnew.1,hG2];exact Sub.bufBoth (Sub.set_both (Sub.set ((AHeap.set_ne _ _ ne_a2_0q0).trans f2)) _ _)),⟨⟨f1,⟨hf_15q0,ne_15q0_0q0⟩,(bufOk_new f4 (by rw[<-hH2];exact hn_15q0) ⟨[.int .i64 at2],0⟩).sub (by rw[hG2];exact Sub.set_both (Sub.set ((AHeap.set_ne _ _ ne_a2_0q0).trans f2)) _ _),f5,f6⟩,by simp only;omega⟩,by simp only;omega⟩
  ·try simp only[decide_eq_false_iff_not]at hb2
   have hae:at_=l.length:=by omega
   rw[hae,List.drop_length,repE_nil,List.append_nil]at g6;have hlb:IsL w0 H1 5 (QT 5 tb) (out.map Xv):=by rw[hH1];exact IsL.buf g4 (by decide) g5 Ya (Sub.refl _)
   refine XL ?_;change Awp _ _ _ _ _ _ _;refine awp_rseq [4,5] (by rfl) fun K hK=>?_;simp+decide only[ev,putD,Slots.put,Slots.get,if_true,if_false,true_and,↓qj,qf];refine qM (V:=Ye (QT 5 tb)) (by rfl) (by rfl) (c_clipT w0 _ _ (out.map Xv) hlb) ?_;simp+decide only[qa,ev,qJ,qG,putD,Slots.put,Slots.get,Slots.keep,if_true,if_false,true_and,↓qd,qb];apply hK;clear hK K;refine qN ?_;refine QN (qY (qY (Qe))) ?_;simp+decide only[Slots.get,if_true,if_false,Wd];rw[hR,if_neg (by rw[<-g6];omega)];exact⟨QY h tb,by rw[hH1];exact Sub.bufBoth hsG,Ye (QT 5 tb),rfl,tb,rfl,g4.sub hsG,by rw[g5,g6],rfl⟩
end Go.Proofs.YtlhhaagmakhilaaGreatDoor
namespace Go.Proofs.YtlhhaagmakhilaaGreatDoor
open Go.AM
open Go.Proofs
open Go.Col
open Go.Tok
open Go.Cop
open Go.RowKit (Below)
set_option maxRecDepth 100000
theorem ACall.down{P:Program}{w0:World}{f:FuncId}{args:List AVal}{h H:AHeap}{R:AVal->AHeap->Prop}(hs:Sub H h)(hc:ACall P w0 f args H R):ACall P w0 f args h R:=fun fi vals w hr hv=>hc fi vals w (hr.forget hs) hv
def namC(s:Str):List AVal:=[.str s]
theorem namC_wide{l:List Str}:∀x∈l.map namC,x.length=1:=fun x hx=>by obtain⟨y,_,rfl⟩:=List.mem_map.1 hx;rfl
def qaH(G:AHeap)(kx:Nat)(mv mo:AVal)(nb:Option Buf)(cp:Int):AHeap:=QY (G.set kx ⟨[mv,mo,QT 1 nb, .int .i64 cp],0⟩) nb
structure UseOk(G:AHeap)(kx:Nat)(nb:Option Buf)(ns:List Str):Prop where
 bx:G kx=none
 ok:∀X,bufOk (G.set kx X) 1 nb
 eq:Uc nb=(ns.map namC).flatten
section
variable {G:AHeap} {kx:Nat} {mv mo:AVal} {nb:Option Buf} {cp:Int} {ns:List Str}
theorem UseOk.at(hu:UseOk G kx nb ns):qaH G kx mv mo nb cp kx=some ⟨[mv,mo,QT 1 nb, .int .i64 cp],0⟩:=ZN (hu.ok _) (AHeap.set_same _ _ _)
theorem UseOk.above(hu:UseOk G kx nb ns):Sub G (qaH G kx mv mo nb cp):=(Sub.set hu.bx).trans (Sub.buf (hu.ok _))
theorem UseOk.set(hu:UseOk G kx nb ns)(X:Blk):(qaH G kx mv mo nb cp).set kx X=QY (G.set kx X) nb:=by
 unfold qaH;rw[YS (hu.ok _) (AHeap.set_same _ _ _),AHeap.set_set]
theorem UseOk.down(hu:UseOk G kx nb ns){G':AHeap}(hs:Sub G' G):UseOk G' kx nb ns:=⟨hs.none hu.bx,fun X=>(hu.ok X).sub (Sub.set_both hs _ _),hu.eq⟩
theorem UseOk.names(w0:World)(hu:UseOk G kx nb ns):IsL w0 (qaH G kx mv mo nb cp) 1 (QT 1 nb) (ns.map namC):=IsL.buf (hu.ok _) (by decide) hu.eq namC_wide (Sub.refl _)
theorem UseOk.lay(hu:UseOk G kx nb ns){j:Nat}(hj:qaH G kx mv mo nb cp j=none)(c:Blk):(qaH G kx mv mo nb cp).set j c=qaH (G.set j c) kx mv mo nb cp/\UseOk (G.set j c) kx nb ns/\G j=none/\j≠kx:=by
 have hne:j≠kx:=fun e=>by rw[e,hu.at]at hj;cases hj
 have hn:=bufNew hj c;have hg:G j=none:=by
  have:=hn.2
  rwa [AHeap.set_ne _ _ hne]at this
 refine⟨?_,⟨(AHeap.set_ne _ _ hne.symm).trans hu.bx,fun X=>?_,hu.eq⟩,hg,hne⟩
 ·unfold qaH
  rw[hn.1,AHeap.set_comm _ _ _ hne]
 ·have h1:=hu.ok X
  have h2:QY (G.set kx X) nb j=none:=by
   cases nb with
   |none=>exact(AHeap.set_ne _ _ hne).trans hg
   |some b=>
    have hnb:j≠b.blk:=fun e=>by
     rw[e]at hj;rw[show qaH G kx mv mo (some b) cp=(G.set kx ⟨[mv,mo,QT 1 (some b), .int .i64 cp],0⟩).set b.blk ⟨b.cells,0⟩from rfl,AHeap.set_same]at hj;cases hj
    exact(AHeap.set_ne _ _ hnb).trans ((AHeap.set_ne _ _ hne).trans hg)
  have h3:=bufOk_new h1 h2 c
  rwa [AHeap.set_comm _ _ _ hne]at h3
end
set_option maxHeartbeats 1000000 in
theorem c_use(w0:World)(G:AHeap)(kx:Nat)(mv mo:AVal)(nb:Option Buf)(cp:Int)(ns:List Str)(s:Str)(hu:UseOk G kx nb ns)(hn:ns.length<=1000000)(hmv:mv.scal=true)(hmo:mo.scal=true):
 ACall Tryz.prog w0 44 [.ptr (.own kx) 0, .str s] (qaH G kx mv mo nb cp) (fun r h'=>r= .tuple []/\∃nb',UseOk G kx nb' (Cop.addE ns s)/\h'=qaH G kx mv mo nb' cp):=by
 obtain⟨H,hH⟩:∃H,H=qaH G kx mv mo nb cp:=⟨_,rfl⟩
 have hs_H:Sub G H:=by rw[hH];exact hu.above
 have eb_x:H kx=some ⟨[mv,mo,QT 1 nb, .int .i64 cp],0⟩:=by rw[hH];exact hu.at
 have hbl:=Xm 1 nb;have hst:IsStrs w0 H (QT 1 nb) ns:=by rw[hH];exact hu.names w0
 have hml:=Yp hmv;have hol:=Yp hmo;rw[<-hH];refine qR (n:=21) (rs:=[]) Tryz.func44 rfl rfl rfl rfl (Nat.le_of_ble_eq_true rfl) ?_;simp only[Qc];refine awp_rseq [0,1,10] (by rfl) fun K hK=>?_;simp+decide only[ev,putD,Slots.put,Slots.get,if_true,if_false,true_and,↓qj,qf,↓Qh,qK,Qj,↓qA,ql,fa76_2,↓qF,Qb,qy ag30,Qp w0 eb_x,List.getD_cons_zero,List.getD_cons_succ,Nat.zero_add,hbl];refine qM (V:= .bool (ns.contains s)) (by rfl) (by rfl) (c_contains w0 _ (QT 1 nb) ns s hst (by omega)) ?_;simp+decide only[qa,ev,putD,Slots.put,Slots.get,Slots.keep,if_true,if_false,true_and,↓Yi,XE,ZY];apply hK;clear hK K;refine qL (b:=_) rfl (fun hb1=>?_) (fun hb1=>?_)
 ·try simp only[Bool.not_eq_true']at hb1
  have hc:ns.contains s=false:=by simpa using hb1
  refine XK [] (by rfl) ?_;simp+decide only[ev,putD,Slots.put,Slots.get,if_true,if_false,true_and,↓qj,qf,↓Qh,qK,Qj,↓qA,ql,fa76_2,↓qF,Qb,qy ag30,Qp w0 eb_x,List.getD_cons_zero,List.getD_cons_succ,Nat.zero_add,hbl];refine QC (cs:=[.str s]) (by kernel_rfl) fun k1q6 hk1q6=>?_;have hn_1q6:H k1q6=none:=by first|assumption|(simp only[AHeap.set_none]at hk1q6;simp only[hk1q6])
  have hf_1q6:G k1q6=none:=Sub.none hs_H hn_1q6;have ne_1q6_x:k1q6≠kx:=AHeap.ne_some hn_1q6 eb_x;refine XY (es:=1) (zs:=ns.map namC) (xs:=[namC s]) (hZ:=G.set kx ⟨[mv,mo,QT 1 nb, .int .i64 cp],0⟩) (b:=nb) (by rfl) (by rfl) Tryz.underlying30 Tryz.underlying30 (fun k e=>by cases e) sz9 by9 ze9 (by rfl) (by decide) (by rfl) (hu.ok _) hu.eq namC_wide (by rw[show QY (G.set kx ⟨[mv,mo,QT 1 nb, .int .i64 cp],0⟩) nb=H from hH.symm];exact Sub.set hn_1q6) (by rfl) (IsL.own (AHeap.set_same _ _ _) (by simp[namC]) (by rfl) (by rfl) (.exact 1) (Nat.le_refl _)) (by rfl) (by simp;omega) (by simp;omega) fun nb2 h1 o1 o2 o3=>?_;have eb1:=o3 _ _ (ZN o1 (AHeap.set_same _ _ _));simp+decide only[ev,putD,Slots.put,Slots.get,if_true,if_false,true_and,↓Qh,qK,Qj,↓qA,ql,fa76_2,Nat.zero_add];refine qm (v:=QT 1 nb2) (by rfl) (by rfl) eb1 sz30 (Xm _ _) (by rw[qag];rfl) (by simp) (Nat.zero_le _) (by rw[qag];simp[QF,Ub]) ?_;simp only[setAt,qag,List.set_cons_zero,List.set_cons_succ];simp+decide only[qa,putD,Slots.keep,if_false];refine retA_endE (Qe) ?_;simp+decide only[true_and,resOf_nil];have ha:Cop.addE ns s=ns++[s]:=by unfold Cop.addE;rw[if_neg (by rw[hc];decide)]
  refine⟨qaH G kx mv mo nb2 cp,?_,nb2,⟨hu.bx,fun X=>?_,?_⟩,rfl⟩
  ·unfold qaH
   rw[<-AHeap.set_set G kx ⟨[mv,mo,QT 1 nb, .int .i64 cp],0⟩,<-YS o1 (AHeap.set_same _ _ _)];exact Sub.set_both o3 _ _
  ·have:=ZH o1 (AHeap.set_same _ _ _) X
   rwa [AHeap.set_set]at this
  ·rw[o2,ha,List.map_append]
   rfl
 ·try simp only[Bool.not_eq_false']at hb1
  have hc:ns.contains s=true:=by simpa using hb1
  refine Qa ?_;refine retA_endE (Qe) ?_;simp+decide only[true_and,resOf_nil];have ha:Cop.addE ns s=ns:=by unfold Cop.addE;rw[if_pos hc]
  exact⟨H,Sub.refl _,nb,by rw[ha];exact hu,hH⟩
end Go.Proofs.YtlhhaagmakhilaaGreatDoor
namespace Go.Proofs.YtlhhaagmakhilaaGreatDoor
open Go.AM
open Go.Proofs
open Go.Col (Str FaultC okF)
open Go.Tok
open Go.Cop
open Go.RowKit (Below)
set_option maxRecDepth 100000
theorem cutT_len(l:List TokC)(i j:Nat):(Uw l i j).length<=l.length:=by
 unfold Uw;rw[List.length_take,List.length_drop];omega
theorem pair_new(l:List TokC)(i:Nat):(Zk l i).rep.new.length<=l.length:=by
 unfold Zk;simp only;split
 ·exact Nat.zero_le _
 ·split
  ·exact Nat.zero_le _
  ·exact cutT_len _ _ _
theorem pairs_new(l:List TokC):∀(f i:Nat) (first:Bool) (acc:List RepC),(∀x∈acc,x.new.length<=l.length)->(∀x∈(XR l f i first acc).reps,x.new.length<=l.length)/\(XR l f i first acc).reps.length<=acc.length+f
 |0,i,first,acc,h=>⟨h,Nat.le_refl _⟩
 |f+1,i,first,acc,h=>by
  rw[XR];split
  ·simp only
   split
   ·exact⟨(fun x hx=>by cases hx),Nat.zero_le _⟩
   ·have:=pairs_new l f (Zk l i).at_ false (acc++[(Zk l i).rep]) fun x hx=>by
     rcases List.mem_append.1 hx with z|z
     ·exact h x z
     ·rw[List.mem_singleton.1 z];exact pair_new l i
    refine⟨this.1,?_⟩;have h2:=this.2;rw[List.length_append,List.length_singleton]at h2;omega
  ·exact⟨h,Nat.le_add_right _ _⟩
theorem behind_reps(l:List TokC)(t:TokC)(p:Pairs):(ZA l t p).reps=[]\/(ZA l t p).reps=p.reps:=by
 unfold ZA;split
 ·exact .inl rfl
 ·split
  ·exact .inl rfl
  ·exact .inr rfl
theorem statement_reps(l:List TokC)(i:Nat):(∀x∈(QG l i).reps,x.new.length<=l.length)/\(QG l i).reps.length<=l.length+2:=by
 unfold QG;split
 ·exact⟨(fun x hx=>by cases hx),Nat.zero_le _⟩
 ·rcases behind_reps l (l.getD i noT) (if Zl l (i+1) Uf=true then XR l (l.length+2) (i+2) true []else⟨true,[],i+1⟩)with e|e
  ·rw[e]
   exact⟨(fun x hx=>by cases hx),Nat.zero_le _⟩
  ·rw[e]
   split
   ·have:=pairs_new l (l.length+2) (i+2) true [] (fun x hx=>by cases hx)
    refine⟨this.1,?_⟩;have h2:=this.2;rw[List.length_nil]at h2;omega
   ·exact⟨(fun x hx=>by cases hx),Nat.zero_le _⟩
def opC(e:Nat×Str):AVal:= .mapE e.1 (.str e.2) (.bool true)
def ZC(B:AHeap)(kx km:Nat)(mv:AVal)(c:Nat)(es:List (Nat×Str))(nb:Option Buf)(cp:Nat):AHeap:=qaH (B.set km (Xt c (es.map opC))) kx mv (.map km) nb cp
structure ExOk(B:AHeap)(kx km:Nat)(nb:Option Buf)(ns:List Str):Prop where
 bm:B km=none
 bx:B kx=none
 ne:km≠kx
 use:∀M,UseOk (B.set km M) kx nb ns
section
variable {B:AHeap} {kx km:Nat} {mv:AVal} {c:Nat} {es:List (Nat×Str)} {nb:Option Buf} {cp:Nat} {ns:List Str}
theorem ExOk.x(he:ExOk B kx km nb ns):ZC B kx km mv c es nb cp kx=some ⟨[mv, .map km,QT 1 nb, .int .i64 cp],0⟩:=(he.use _).at
theorem ExOk.m(he:ExOk B kx km nb ns):ZC B kx km mv c es nb cp km=some (Xt c (es.map opC)):=(he.use _).above _ _ (AHeap.set_same _ _ _)
theorem ExOk.above(he:ExOk B kx km nb ns):Sub B (ZC B kx km mv c es nb cp):=(Sub.set he.bm).trans (he.use _).above
theorem ExOk.set_x(he:ExOk B kx km nb ns)(cp':Nat):(ZC B kx km mv c es nb cp).set kx ⟨[mv, .map km,QT 1 nb, .int .i64 cp'],0⟩=ZC B kx km mv c es nb cp':=(he.use _).set _
theorem ExOk.set_m(he:ExOk B kx km nb ns)(c':Nat)(es':List (Nat×Str)):(ZC B kx km mv c es nb cp).set km (Xt c' (es'.map opC))=ZC B kx km mv c' es' nb cp:=by
 unfold ZC qaH;rw[YS ((he.use _).ok _) ((AHeap.set_ne _ _ he.ne).trans (AHeap.set_same _ _ _)),AHeap.set_comm _ _ _ he.ne,AHeap.set_set]
theorem ExOk.down(he:ExOk B kx km nb ns){B':AHeap}(hs:Sub B' B):ExOk B' kx km nb ns:=⟨hs.none he.bm,hs.none he.bx,he.ne,fun M=>(he.use M).down (Sub.set_both hs _ _)⟩
theorem qcc{B':AHeap}(hs:Sub B' B):Sub (ZC B' kx km mv c es nb cp) (ZC B kx km mv c es nb cp):=Sub.bufBoth (Sub.set_both (Sub.set_both hs _ _) _ _)
theorem ExOk.lay(he:ExOk B kx km nb ns){j:Nat}(hj:ZC B kx km mv c es nb cp j=none)(b:Blk):(ZC B kx km mv c es nb cp).set j b=ZC (B.set j b) kx km mv c es nb cp/\ExOk (B.set j b) kx km nb ns:=by
 have hnm:j≠km:=fun e=>by rw[e,he.m]at hj;cases hj
 have hnx:j≠kx:=fun e=>by rw[e,he.x]at hj;cases hj
 obtain⟨h1,h2,h3,h4⟩:=(he.use (Xt c (es.map opC))).lay hj b;refine⟨?_,(AHeap.set_ne _ _ hnm.symm).trans he.bm,(AHeap.set_ne _ _ hnx.symm).trans he.bx,he.ne,fun M=>?_⟩
 ·unfold ZC
  rw[h1,AHeap.set_comm _ _ _ hnm]
 ·have hj2:qaH (B.set km M) kx mv (.map km) nb cp j=none:=by
   have hb:B j=none:=by
    have:=h3
    rwa [AHeap.set_ne _ _ hnm]at this
   unfold ZC qaH at hj;unfold qaH;cases nb with
   |none=>exact(AHeap.set_ne _ _ hnx).trans ((AHeap.set_ne _ _ hnm).trans hb)
   |some b'=>
    have hnb:j≠b'.blk:=fun e=>by
     rw[e,show QY ((B.set km (Xt c (es.map opC))).set kx ⟨[mv, .map km,QT 1 (some b'), .int .i64 cp],0⟩) (some b')=((B.set km (Xt c (es.map opC))).set kx ⟨[mv, .map km,QT 1 (some b'), .int .i64 cp],0⟩).set b'.blk ⟨b'.cells,0⟩from rfl,AHeap.set_same]at hj;cases hj
    exact(AHeap.set_ne _ _ hnb).trans ((AHeap.set_ne _ _ hnx).trans ((AHeap.set_ne _ _ hnm).trans hb))
  have:=((he.use M).lay hj2 b).2.1
  rwa [AHeap.set_comm _ _ _ hnm]at this
theorem ExOk.off(he:ExOk B kx km nb ns){B':AHeap}{j:Nat}{b:Blk}(hj:B j=some b)(hj':B' j=none):ZC B' kx km mv c es nb cp j=none:=by
 have hnm:j≠km:=fun e=>by rw[e,he.bm]at hj;cases hj
 have hnx:j≠kx:=fun e=>by rw[e,he.bx]at hj;cases hj
 have h1:=(he.use ⟨[],0⟩).ok ⟨[],0⟩;unfold ZC qaH;cases nb with
 |none=>exact(AHeap.set_ne _ _ hnx).trans ((AHeap.set_ne _ _ hnm).trans hj')
 |some b'=>
  have hnb:j≠b'.blk:=fun e=>by
   have h2:((B.set km ⟨[],0⟩).set kx ⟨[],0⟩) b'.blk=none:=h1.1;rw[<-e,AHeap.set_ne _ _ hnx,AHeap.set_ne _ _ hnm,hj]at h2;cases h2
  exact(AHeap.set_ne _ _ hnb).trans ((AHeap.set_ne _ _ hnx).trans ((AHeap.set_ne _ _ hnm).trans hj'))
end
structure ExpR(B:AHeap)(kx km:Nat)(mv:AVal)(op:List Str)(st:Xs)(h:AHeap):Prop where
 few:st.names.length<=5000
 ex:∃c es nb,ExOk B kx km nb st.names/\es.map (·.2)=op/\Sub (ZC B kx km mv c es nb st.copies) h
theorem mFind_op(s:Str):∀(es:List (Nat×Str)) (k:Nat),s∉es.map (·.2)->UR (.str s) (es.map opC) k=some none
 |[],_,_=>rfl
 |e::es,k,h=>by
  simp only[List.map_cons,List.mem_cons,not_or]at h;rw[List.map_cons,opC,UR];simp only[kEq];rw[decide_eq_false h.1];exact mFind_op s es (k+1) h.2
theorem qbl(s:Str)(b:Nat):∀(es:List (Nat×Str)) (k:Nat),s∉es.map (·.2)->UR (.str s) ((es++[(b,s)]).map opC) k=some (some (k+es.length, .bool true))
 |[],k,_=>by
  rw[List.nil_append,List.map_cons,List.map_nil,opC,UR];simp only[kEq,decide_true];rfl
 |e::es,k,h=>by
  simp only[List.map_cons,List.mem_cons,not_or]at h;rw[List.cons_append,List.map_cons,opC,UR];simp only[kEq];rw[decide_eq_false h.1,List.length_cons,show k+(es.length+1)=(k+1)+es.length by omega];exact qbl s b es (k+1) h.2
theorem mFind_in(s:Str):∀(es:List (Nat×Str)) (k:Nat),s∈es.map (·.2)->∃j,UR (.str s) (es.map opC) k=some (some (j, .bool true))
 |[],_,h=>by cases h
 |e::es,k,h=>by
  rw[List.map_cons,opC,UR];simp only[kEq];by_cases q:s=e.2
  ·rw[decide_eq_true q]
   exact⟨k,rfl⟩
  ·rw[decide_eq_false q]
   rw[List.map_cons,List.mem_cons]at h;exact mFind_in s es (k+1) (h.resolve_left q)
theorem look_op{h:AHeap}{km c:Nat}{es:List (Nat×Str)}{s:Str}(hm:h km=some (Xt c (es.map opC))):UC Tryz.prog h 74 (.map km) (.str s) false=⟨True, .bool ((es.map (·.2)).contains s)⟩:=by
 by_cases q:s∈es.map (·.2)
 ·obtain⟨j,hj⟩:=mFind_in s es 0 q
  rw[pLookup_in Tryz.underlying74 ze4 hm (by rfl) hj,lookR_false,List.contains_iff_mem.2 q]
 ·rw[pLookup_out Tryz.underlying74 ze4 hm (by rfl) (mFind_op s es 0 q),lookR_false]
  have:(es.map (·.2)).contains s=false:=by
   rw[Bool.eq_false_iff];intro z;exact q (List.contains_iff_mem.1 z)
  rw[this];rfl
theorem len_op{h:AHeap}{km c:Nat}{es:List (Nat×Str)}(hm:h km=some (Xt c (es.map opC))):ZE Tryz.prog h 74 (.map km)=⟨True, .int .i64 es.length⟩:=by
 have:=pLen_map Tryz.underlying74 (WP hm)
 rwa [List.length_map]at this
theorem c_mem2(w0:World)(h:AHeap)(q:MemQ)(hq:q.2.live=true)(hqc:q.2.cells=[q.2])(kn:Nat)(s:Str)(eb_n:h kn=some ⟨[.str s],0⟩):
 ACall Tryz.prog w0 58 ([.agg (qdt q)]++[.ptr (.own kn) 0]) h (fun r h'=>r= .bool (decide (q.1.name=s))/\h'=h):=by
 have hs_h:Sub h h:=Sub.refl h;obtain⟨⟨nm,tk⟩,tv⟩:=q;simp only at hq hqc;unfold qdt;simp only[List.cons_append,List.nil_append];refine qR (n:=8) (rs:=[.tmp 3]) Tryz.func58 rfl rfl rfl rfl (Nat.le_of_ble_eq_true rfl) ?_;simp only[Qc];refine awp_rseq [1,2] (by rfl) fun K hK=>?_;refine Wj (v:= .agg [.str nm,tv]) (cs:=[.str nm,tv]) (by rfl) (by simp+decide only[lv_agg]) (by rfl) fun k0q0 hk0q0=>?_;have hn_0q0:h k0q0=none:=by first|assumption|(simp only[AHeap.set_none]at hk0q0;simp only[hk0q0])
 have hf_0q0:h k0q0=none:=Sub.none hs_h hn_0q0;have ne_0q0_n:k0q0≠kn:=AHeap.ne_some hn_0q0 eb_n;simp+decide only[qa,ev,qJ,qG,putD,Slots.put,Slots.keep,if_true,if_false,true_and,↓qd,qb,Nat.zero_add];apply hK;clear hK K;refine awp_rseq [3] (by rfl) fun K hK=>?_;simp+decide only[qa,ev,putD,Slots.put,Slots.get,Slots.keep,if_true,if_false,true_and,↓qA,ql,fa57_0,↓qF,Qb,qy ag9,↓qC,qo,qZ,cond_false,Zp,pS_eql,↓qd,qb,QU,ne_eq,not_false_eq_true,ne_0q0_n.symm,Qp w0 eb_n,QV,List.getD_cons_zero,Nat.zero_add,qE];apply hK;clear hK K;refine qN ?_;refine qU h (by repeat (first|exact Sub.refl _|assumption|refine Sub.trans_set ?_ (by assumption))) (qY (Qe)) ?_;simp+decide only[Slots.get,if_true,and_true,Qv];all_goals first|rfl|exact⟨rfl,rfl⟩|(simp+decide only[if_true,if_false, *];done)|(trace_state;fail)
theorem c_mem1(w0:World)(h:AHeap)(ks:Nat)(t:TokC)(rv:AVal)(hrl:rv.live=true)(e:Int)(eb_s:h ks=some ⟨stmC t rv,0⟩):
 ACall Tryz.prog w0 56 ([.int .i64 e]++[.ptr (.own ks) 0]) h (fun r h'=>r= .tuple [.nilSlice,QS ⟨e,t.line,t.col⟩]/\h'=h):=by
 have hs_h:Sub h h:=Sub.refl h;unfold stmC at eb_s;simp only[List.cons_append,List.nil_append];refine qR (n:=10) (rs:=[.tmp 3, .cell 4 35]) Tryz.func56 rfl rfl rfl rfl (Nat.le_of_ble_eq_true rfl) ?_;simp only[Qc];refine awp_rseq [0,1,4] (by rfl) fun K hK=>?_;simp+decide only[ev,qJ,qG,putD,Slots.put,if_false,true_and,↓qd,qb,Nat.zero_add];refine Qi qaF (cs:=[.int .i64 0, .int .i64 0, .int .i64 0]) (by rfl) fun k0q1 hk0q1=>?_;have hn_0q1:h k0q1=none:=by first|assumption|(simp only[AHeap.set_none]at hk0q1;simp only[hk0q1])
 have hf_0q1:h k0q1=none:=Sub.none hs_h hn_0q1;have ne_0q1_s:k0q1≠ks:=AHeap.ne_some hn_0q1 eb_s;simp+decide only[qa,putD,Slots.put,Slots.keep,if_true,if_false];apply hK;clear hK K;refine XU 6 [3,4] mixed (by kernel_rfl) (by rfl) (by rfl) fun K hK=>?_;simp+decide only[ev,qJ,qG,putD,Slots.put,Slots.get,if_true,if_false,true_and,↓qj,qf,↓qA,ql,fa91_0,fa54_2,↓qF,Qb,qg ag33 qaZ,↓Qn,↓qV,Ud,evP,List.map_cons,List.map_nil,↓qd,qb,QU,ne_eq,not_false_eq_true,ne_0q1_s.symm,Qp w0 eb_s,qc,List.getD_cons_zero,List.getD_cons_succ,Nat.zero_add,Nat.reduceAdd,qh,allLive,Bool.and_true];refine qm (by rfl) (by rfl) (by repeat (first|exact AHeap.set_same _ _ _|assumption|refine(AHeap.set_ne _ _ (by first|assumption|exact Ne.symm (by assumption))).trans ?_)) QD (by rfl) (by rfl) (by first|exact Nat.le_refl _|decide|(simp;done)|(simp;omega)) (Nat.zero_le _) (by rfl) ?_;simp only[AHeap.set_set,AVal.cells];simp+decide only[qa,ev,putD,Slots.get,Slots.keep,if_true,if_false,setAt,List.set_cons_zero,List.set_cons_succ,Nat.zero_add,Nat.reduceAdd];apply hK;clear hK K;refine qN ?_;refine qU h (by repeat (first|exact Sub.refl _|assumption|refine Sub.trans_set ?_ (by assumption))) (?_) ?_
 ·simp+decide only[Qw,qp,qi,Slots.get,if_true,if_false,and_true,qp,qi,qg Xh QD,qW,qc,List.getD_cons_zero,List.getD_cons_succ,Nat.zero_add,Nat.reduceAdd,qh,allLive,Bool.and_true,qc,List.getD_cons_zero,List.getD_cons_succ,Nat.zero_add,Nat.reduceAdd,qh,allLive,Bool.and_true]
 simp+decide only[Slots.get,if_true,if_false,and_true,Xa,qp,qi,qg Xh QD,qW,qc,List.getD_cons_zero,List.getD_cons_succ,Nat.zero_add,Nat.reduceAdd,qh,allLive,Bool.and_true,qc,List.getD_cons_zero,List.getD_cons_succ,Nat.zero_add,Nat.reduceAdd,qh,allLive,Bool.and_true,QS];all_goals first|rfl|exact⟨rfl,rfl⟩|(simp+decide only[if_true,if_false, *];done)|(trace_state;fail)
end Go.Proofs.YtlhhaagmakhilaaGreatDoor
namespace Go.Proofs.YtlhhaagmakhilaaGreatDoor
open Go.AM
open Go.Proofs
open Go.Col (Str FaultC okF)
open Go.Tok
open Go.Cop
open Go.RowKit (Below)
set_option maxRecDepth 100000
def ListR(w0:World)(B:AHeap)(kx km:Nat)(mv:AVal)(op:List Str)(x:Xr)(r:AVal)(h':AHeap):Prop:=
 ∃(tb:Option Buf) (st':Xs) (bv:AVal) (bf:FaultC),bufOk B 5 tb/\ExpR (QY B tb) kx km mv op st' h'/\r= .tuple [bv,QS bf]/\
  ((bf≠okF/\x= .bad bf/\bv= .nilSlice)\/(bf=okF/\∃out,x= .ok out st'/\IsL w0 (QY (fun _=>none) tb) 5 bv (out.map Xv)/\out.length<=200000/\st'.names.length<=st'.copies/\st'.copies<=4096))
theorem qda(H:AHeap):Sub (fun _=>none) H:=fun j d hj=>by cases hj
theorem UseOk.swap{B:AHeap}{kx km:Nat}{nb:Option Buf}{ns:List Str}{M:Blk}(hu:UseOk (B.set km M) kx nb ns)(hne:km≠kx)(M':Blk):UseOk (B.set km M') kx nb ns:=by
 refine⟨?_,fun X=>?_,hu.eq⟩
 ·have:=hu.bx
  rw[AHeap.set_ne _ _ hne.symm]at this|-
  exact this
 ·have h1:=hu.ok X
  cases nb with
  |none=>trivial
  |some b=>
   refine⟨?_,h1.2⟩;have h2:((B.set km M).set kx X) b.blk=none:=h1.1;have e1:b.blk≠kx:=fun e=>by rw[e,AHeap.set_same]at h2;cases h2
   rw[AHeap.set_ne _ _ e1]at h2;have e2:b.blk≠km:=fun e=>by rw[e,AHeap.set_same]at h2;cases h2
   rw[AHeap.set_ne _ _ e2]at h2;exact(AHeap.set_ne _ _ e1).trans ((AHeap.set_ne _ _ e2).trans h2)
theorem qcH(s:Str)(b:Nat):∀es:List (Nat×Str),((es++[(b,s)]).map opC).eraseIdx es.length=es.map opC
 |es=>by
  rw[List.map_append,List.eraseIdx_append_of_length_le (by rw[List.length_map];exact Nat.le_refl _),List.length_map,Nat.sub_self];simp
theorem ExOk.buf{B hc:AHeap}{kx km:Nat}{mv:AVal}{c cp es5:Nat}{es:List (Nat×Str)}{nb tb:Option Buf}{ns:List Str}(he:ExOk B kx km nb ns)(hs:Sub (ZC B kx km mv c es nb cp) hc)(ht:bufOk hc es5 tb):ZC (QY B tb) kx km mv c es nb cp=QY (ZC B kx km mv c es nb cp) tb/\ExOk (QY B tb) kx km nb ns:=by
 cases tb with
 |none=>exact⟨rfl,he⟩
 |some b=>
  obtain⟨h1,h2⟩:=he.lay (mv:=mv) (c:=c) (es:=es) (cp:=cp) (j:=b.blk) (hs.none ht.1) ⟨b.cells,0⟩;exact⟨h1.symm,h2⟩
theorem bufH_off{h hc:AHeap}{es j:Nat}{b:Option Buf}{c:Blk}(hj:h j=none)(hj':hc j=some c)(hb:bufOk hc es b):QY h b j=none:=by
 cases b with
 |none=>exact hj
 |some b=>
  have hne:j≠b.blk:=fun e=>by
   have:=hb.1;rw[<-e,hj']at this;cases this
  exact(AHeap.set_ne _ _ hne).trans hj
theorem find_name{qs:List MemQ}{ms:List MemC}(hms:ms=qs.map (·.1))(s:Str):(qaA (fun q:MemQ=>decide (q.1.name=s)) qs= -1/\ms.find? (fun m=>decide (m.name=s))=none)\/∃i,i<qs.length/\qaA (fun q:MemQ=>decide (q.1.name=s)) qs=i/\ms.find? (fun m=>decide (m.name=s))=some (qs.getD i badM).1:=by
 have e:=idxI_map (fun q:MemQ=>q.1) (fun m:MemC=>decide (m.name=s)) qs;rw[<-hms]at e;rcases find_idx (r:=ms.map fun m=>(⟨[⟨1,m.name,0,0,false⟩],[]⟩:RepC)) (p:=fun x=>decide ((x.old.getD 0 noT).text=s))with z|z
 ·left
  rw[List.findIdx?_map]at z;rw[List.find?_map]at z;refine⟨?_,?_⟩
  ·rw[<-e];unfold qaA
   have z1:=z.1;simp only[Function.comp_def]at z1;rw[show ms.findIdx? (fun m=>decide (m.name=s))=none from z1]
  ·have z2:=z.2
   simpa[Function.comp_def]using z2
 ·right
  obtain⟨i,x,z1,z2,z3,z4⟩:=z;rw[List.findIdx?_map]at z1;have z1':ms.findIdx? (fun m=>decide (m.name=s))=some i:=z1;rw[List.length_map]at z3;have hq:i<qs.length:=by rw[hms,List.length_map]at z3;exact z3
  refine⟨i,hq,?_,?_⟩
  ·rw[<-e];unfold qaA;rw[z1']
  ·have h1:=List.findIdx?_eq_some_iff_getElem.1 z1'
   obtain⟨h2,h3,h4⟩:=h1;rw[List.find?_eq_some_iff_getElem];refine⟨?_,i,h2,?_,fun j hj=>by simpa using h4 j hj⟩
   ·have:(qs.getD i badM).1=ms[i]:=by
     simp only[hms,List.getElem_map,List.getD,List.getElem?_eq_getElem hq,Option.getD_some]
    rw[this];exact h3
   ·simp only[hms,List.getElem_map,List.getD,List.getElem?_eq_getElem hq,Option.getD_some]
end Go.Proofs.YtlhhaagmakhilaaGreatDoor
namespace Go.Proofs.YtlhhaagmakhilaaGreatDoor
open Go.AM
open Go.Proofs
open Go.Col (Str FaultC okF)
open Go.Tok
open Go.Cop
open Go.RowKit (Below)
set_option maxRecDepth 100000
theorem addE_len(ns:List Str)(s:Str):(Cop.addE ns s).length<=ns.length+1:=by
 unfold Cop.addE;split
 ·omega
 ·rw[List.length_append,List.length_singleton];omega
def RecOk(w0:World)(kx km:Nat)(mv:AVal)(mems:List MemC)(op:List Str)(rec:List TokC->List Str->Xs->Xr):Prop:=
 op.length<=8->∀(h B:AHeap) (v:AVal) (l:List TokC) (st:Xs),ExpR B kx km mv op st h->IsMems w0 B mv mems->IsL w0 B 5 v (l.map Xv)->l.length<=100000->st.names.length<=st.copies->st.copies<=4096->
  ACall Tryz.prog w0 32 [.ptr (.own kx) 0,v] h (ListR w0 B kx km mv op (rec l op st))
set_option maxHeartbeats 4000000 in
theorem c_member(w0:World)(h B:AHeap)(kx km:Nat)(mv:AVal)(mems:List MemC)(op:List Str)(st:Xs)(s:Stm)(rv:AVal)(rec:List TokC->List Str->Xs->Xr)(hx:ExpR B kx km mv op st h)(hms:IsMems w0 B mv mems)(hml:mems.length<=1000000)(hmt:∀m∈mems,m.toks.length<=100000)
 (hrp:IsReps w0 B rv s.reps) (hrn:∀x∈s.reps,x.new.length<=1000000) (hrl:s.reps.length<=1000000) (hro:∀x∈s.reps,x.old≠[]) (hst:st.names.length<=st.copies) (hst2:st.copies<=4096) (hop8:op.length<=8)
 (hrec:op.length<8->RecOk w0 kx km mv mems (op++[s.name.text]) rec):
 ACall Tryz.prog w0 47 [.ptr (.own kx) 0, .agg (stmC s.name rv)] h (ListR w0 B kx km mv op (WZ true mems op rec s st)):=by
 obtain⟨hfew,c,es,nb,he,hes,hsh⟩:=hx;obtain⟨qs,hqs,hq2,hq3⟩:=hms;have hmvs:=hq2.scal;have hmvl:=Yp hmvs;have hmvc:=hq2.cells;have hrvs:rv.scal=true:=by obtain⟨zs,-,z2,-⟩:=hrp;exact z2.scal
 have hrvl:=Yp hrvs;have hql:∀q∈qs,q.2.live=true:=fun q hq=>(hq3 q hq).live;have hqn:qs.length=mems.length:=by rw[hqs,List.length_map]
 refine ACall.down hsh ?_;obtain⟨nm,hnm⟩:∃nm,nm=s.name.text:=⟨_,rfl⟩
 have hsc:stmC s.name rv=[.int .u8 s.name.kind.toNat, .str nm, .int .i64 s.name.line, .int .i64 s.name.col, .bool s.name.left,rv]:=by rw[hnm];rfl
 obtain⟨X,hX⟩:∃X,X=WZ true mems op rec s st:=⟨_,rfl⟩
 rw[<-hX];unfold WZ at hX;rw[<-hnm]at hX hrec;have hes':es.length=op.length:=by rw[<-hes,List.length_map]
 obtain⟨H,hH⟩:∃H,H=ZC B kx km mv c es nb st.copies:=⟨_,rfl⟩
 have hs_H:Sub B H:=by rw[hH];exact he.above
 have eb_x:H kx=some ⟨[mv, .map km,QT 1 nb, .int .i64 st.copies],0⟩:=by rw[hH];exact he.x
 have eb_m:H km=some (Xt c (es.map opC)):=by rw[hH];exact he.m
 have hbl:=Xm 1 nb;have ne_x_m:kx≠km:=he.ne.symm;rw[<-hH];unfold stmC;rw[<-hnm];refine acall_put (k:=119) (rs:=[.tmp 4, .cell 5 35]) Tryz.func47 rfl rfl rfl rfl (Nat.le_of_ble_eq_true rfl) ?_;simp only[Qc];refine awp_rseq [0,3,5] (by rfl) fun K hK=>?_;refine Wj (v:= .agg [.int .u8 s.name.kind.toNat, .str nm, .int .i64 s.name.line, .int .i64 s.name.col, .bool s.name.left,rv]) (cs:=[.int .u8 s.name.kind.toNat, .str nm, .int .i64 s.name.line, .int .i64 s.name.col, .bool s.name.left,rv]) (by rfl) (by simp+decide only[lv_agg]) (by rfl) fun k0q0 hk0q0=>?_;have hn_0q0:H k0q0=none:=by first|assumption|(simp only[AHeap.set_none]at hk0q0;simp only[hk0q0])
 have hf_0q0:B k0q0=none:=Sub.none hs_H hn_0q0;have ne_0q0_x:k0q0≠kx:=AHeap.ne_some hn_0q0 eb_x;have ne_0q0_m:k0q0≠km:=AHeap.ne_some hn_0q0 eb_m;simp+decide only[ev,qJ,qG,putD,Slots.put,if_false,true_and,↓qd,qb,Nat.zero_add];refine Qi qaF (cs:=[.int .i64 0, .int .i64 0, .int .i64 0]) (by rfl) fun k0q2 hk0q2=>?_;have ne_0q2_0q0:k0q2≠k0q0:=by simp only[AHeap.set_none]at hk0q2;simp only[hk0q2,ne_eq,not_false_eq_true]
 have hn_0q2:H k0q2=none:=by first|assumption|(simp only[AHeap.set_none]at hk0q2;simp only[hk0q2])
 have hf_0q2:B k0q2=none:=Sub.none hs_H hn_0q2;have ne_0q2_x:k0q2≠kx:=AHeap.ne_some hn_0q2 eb_x;have ne_0q2_m:k0q2≠km:=AHeap.ne_some hn_0q2 eb_m;simp+decide only[qa,putD,Slots.put,Slots.keep,if_true,if_false];apply hK;clear hK K;refine awp_rseq [0,3,5,6] (by rfl) fun K hK=>?_;simp+decide only[ev,putD,Slots.put,Slots.get,if_true,if_false,true_and,↓qA,ql,fa91_0,qae,↓qF,Qb,qy ag9,QU,ne_eq,not_false_eq_true,ne_0q2_0q0.symm,QV,List.getD_cons_zero,List.getD_cons_succ,Nat.zero_add,qE];refine Qi ze9 (cs:=[.str []]) (by rfl) fun k1q3 hk1q3=>?_;have ne_1q3_0q0:k1q3≠k0q0:=by simp only[AHeap.set_none]at hk1q3;simp only[hk1q3,ne_eq,not_false_eq_true]
 have ne_1q3_0q2:k1q3≠k0q2:=by simp only[AHeap.set_none]at hk1q3;simp only[hk1q3,ne_eq,not_false_eq_true]
 have hn_1q3:H k1q3=none:=by first|assumption|(simp only[AHeap.set_none]at hk1q3;simp only[hk1q3])
 have hf_1q3:B k1q3=none:=Sub.none hs_H hn_1q3;have ne_1q3_x:k1q3≠kx:=AHeap.ne_some hn_1q3 eb_x;have ne_1q3_m:k1q3≠km:=AHeap.ne_some hn_1q3 eb_m;refine qm (by rfl) (by rfl) (by repeat (first|exact AHeap.set_same _ _ _|assumption|refine(AHeap.set_ne _ _ (by first|assumption|exact Ne.symm (by assumption))).trans ?_)) sz9 (by rfl) (by rfl) (by first|exact Nat.le_refl _|decide|(simp;done)|(simp;omega)) (Nat.zero_le _) (by first|rfl|(simp+decide only[ev,putD,Slots.put,Slots.get,if_true,if_false,AVal.cells,QF,Bool.and_true,Bool.true_and,hmvs,hrvs,XG,XN,Xz])) ?_;simp only[AHeap.set_set,AVal.cells];simp+decide only[qa,ev,putD,Slots.put,Slots.get,Slots.keep,if_true,if_false,setAt,List.set_cons_zero];apply hK;clear hK K;refine awp_rseq [0,3,5,6,7] (by rfl) fun K hK=>?_;simp+decide only[qa,ev,putD,Slots.put,Slots.get,Slots.keep,if_true,if_false,true_and,↓qdI,qcy,evs,List.map_cons,List.map_nil,↓qd,qb];apply hK;clear hK K;refine awp_rseq [0,3,5,6,7,8] (by rfl) fun K hK=>?_;simp+decide only[ev,putD,Slots.put,Slots.get,if_true,if_false,true_and,↓qj,qf,↓Qh,qK,Qj,↓qA,ql,fa76_0,↓qF,Qb,qy ag28,↓qdI,qcy,evs,List.map_cons,List.map_nil,QU,ne_eq,not_false_eq_true,ne_0q0_x.symm,ne_0q2_x.symm,ne_1q3_x.symm,Qp w0 eb_x,List.getD_cons_zero,Nat.zero_add,hmvl];refine qM (V:= .int .i64 (qaA (fun q:MemQ=>decide (q.1.name=nm)) qs)) (by rfl) (by rfl) (c_indexM w0 _ mv qs _ [.ptr (.own k1q3) 0] (fun q=>decide (q.1.name=nm)) (hq2.mono (by repeat (first|exact Sub.refl _|assumption|refine Sub.set_both ?_ _ _|refine Sub.trans_set ?_ (by repeat (first|assumption|refine(AHeap.set_ne _ _ (by first|assumption|exact Ne.symm (by assumption))).trans ?_))))) hql (by omega) (by rfl) (fun q hq=>c_mem2 w0 _ q (hql q hq) (hq3 q hq).cells k1q3 nm (by repeat (first|exact AHeap.set_same _ _ _|assumption|refine(AHeap.set_ne _ _ (by first|assumption|exact Ne.symm (by assumption))).trans ?_)))) ?_;simp+decide only[qa,ev,putD,Slots.put,Slots.get,Slots.keep,if_true,if_false,true_and,↓qd,qb];apply hK;clear hK K;refine awp_rseq [0,3,5,6,7,8] (by rfl) fun K hK=>?_;simp+decide only[ev,qJ,qG,putD,Slots.put,Slots.get,if_true,if_false,true_and,↓qj,qf,↓Qh,qK,Qj,↓qA,ql,fa76_3,↓qF,Qb,qy ag3,↓qC,qo,qD,cond_false,qz,Xf,QU,ne_eq,not_false_eq_true,ne_0q0_x.symm,ne_0q2_x.symm,ne_1q3_x.symm,Qp w0 eb_x,List.getD_cons_zero,List.getD_cons_succ,Nat.zero_add,qh];try simp(disch:=omega)only[wrap_i64]
 refine qm (by rfl) (by rfl) (by repeat (first|exact AHeap.set_same _ _ _|assumption|refine(AHeap.set_ne _ _ (by first|assumption|exact Ne.symm (by assumption))).trans ?_)) sz3 (by rfl) (by rfl) (by first|exact Nat.le_refl _|decide|(simp;done)|(simp;omega)) (Nat.zero_le _) (by first|rfl|(simp+decide only[ev,putD,Slots.put,Slots.get,if_true,if_false,AVal.cells,QF,Bool.and_true,Bool.true_and,hmvs,hrvs,XG,XN,Xz])) ?_;simp only[AVal.cells];simp+decide only[qa,ev,putD,Slots.get,Slots.keep,if_true,if_false,setAt,List.set_cons_zero,List.set_cons_succ];apply hK;clear hK K;refine qO ?_;refine QB ?_;obtain⟨H5,hH5⟩:∃H5,H5=(((H.set k0q0 ⟨[.int .u8 s.name.kind.toNat, .str nm, .int .i64 s.name.line, .int .i64 s.name.col, .bool s.name.left,rv],0⟩).set k0q2 ⟨[.int .i64 0, .int .i64 0, .int .i64 0],0⟩).set k1q3 ⟨[.str nm],0⟩).set kx ⟨[mv, .map km,QT 1 nb, .int .i64 ((st.copies+1:Nat):Int)],0⟩:=⟨_,rfl⟩
 refine Awp.forget (h':=H5) (by rw[hH5];exact Sub.refl _) ?_;have hs_H5:Sub B H5:=by rw[hH5];exact Zi (by repeat (first|exact Sub.refl _|assumption|refine Sub.set_both ?_ _ _|refine Sub.trans_set ?_ (by repeat (first|assumption|refine(AHeap.set_ne _ _ (by first|assumption|exact Ne.symm (by assumption))).trans ?_)))) he.bx _
 have eb_x:H5 kx=some ⟨[mv, .map km,QT 1 nb, .int .i64 ((st.copies+1:Nat):Int)],0⟩:=by rw[hH5];exact AHeap.set_same _ _ _
 have eb_m:H5 km=some (Xt c (es.map opC)):=by rw[hH5];exact(by repeat (first|exact AHeap.set_same _ _ _|assumption|refine(AHeap.set_ne _ _ (by first|assumption|exact Ne.symm (by assumption))).trans ?_))
 have eb_0q0:H5 k0q0=some ⟨[.int .u8 s.name.kind.toNat, .str nm, .int .i64 s.name.line, .int .i64 s.name.col, .bool s.name.left,rv],0⟩:=by rw[hH5];exact(by repeat (first|exact AHeap.set_same _ _ _|assumption|refine(AHeap.set_ne _ _ (by first|assumption|exact Ne.symm (by assumption))).trans ?_))
 have eb_0q2:H5 k0q2=some ⟨[.int .i64 0, .int .i64 0, .int .i64 0],0⟩:=by rw[hH5];exact(by repeat (first|exact AHeap.set_same _ _ _|assumption|refine(AHeap.set_ne _ _ (by first|assumption|exact Ne.symm (by assumption))).trans ?_))
 have eb_1q3:H5 k1q3=some ⟨[.str nm],0⟩:=by rw[hH5];exact(by repeat (first|exact AHeap.set_same _ _ _|assumption|refine(AHeap.set_ne _ _ (by first|assumption|exact Ne.symm (by assumption))).trans ?_))
 have hE5:Sub (ZC B kx km mv c es nb (st.copies+1)) H5:=by
  rw[hH5,<-he.set_x (st.copies+1),<-hH];exact Sub.set_both (Sub.trans_set (Sub.trans_set (Sub.set hn_0q0) hn_0q2) hn_1q3) _ _
 have hz5:ZC B kx km mv c es nb (st.copies+1) k0q2=none:=by
  rw[<-he.set_x (cp:=st.copies) (st.copies+1),<-hH];exact(AHeap.set_ne _ _ ne_0q2_x).trans hn_0q2
 have hlk:=look_op (s:=nm) eb_m;rw[hes]at hlk;have hlo:=len_op eb_m;rw[hes']at hlo;refine awp_rseq [0,3,5,6,7,8,30] (by rfl) fun K hK=>?_;simp+decide only[qa,ev,qJ,qG,putD,Slots.put,Slots.get,Slots.keep,if_true,if_false,true_and,↓qj,qf,↓qC,qo,qD,cond_false,qz,Zd,↓qd,qb];apply hK;clear hK K;refine qL (b:=_) rfl (fun hb1=>?_) (fun hb1=>?_)
 ·try simp only[decide_eq_true_eq]at hb1
  have hnone:mems.find? (fun m=>decide (m.name=nm))=none:=by
   rcases find_name hqs nm with z|⟨i,zi,z1,z2⟩
   ·exact z.2
   ·omega
  rw[hnone]at hX;simp only at hX;refine awp_rseq [4,5] (by rfl) fun K hK=>?_;simp+decide only[ev,putD,Slots.put,Slots.get,if_true,if_false,true_and,↓qj,qf];refine qM (V:= .tuple [.nilSlice,QS ⟨7,s.name.line,s.name.col⟩]) (by rfl) (by rfl) (c_mem1 w0 _ k0q0 s.name rv hrvl 7 (by rw[hsc];exact(by repeat (first|exact AHeap.set_same _ _ _|assumption|refine(AHeap.set_ne _ _ (by first|assumption|exact Ne.symm (by assumption))).trans ?_)))) ?_;simp+decide only[ev,putD,Slots.put,Slots.get,if_true,if_false,true_and,↓QJ,QA,QH,List.length_cons,List.length_nil,List.getD_cons_zero,List.getD_cons_succ,↓qd,qb,List.getD_cons_zero,List.getD_cons_succ,Nat.zero_add,Nat.reduceAdd,QS];refine qm (by rfl) (by rfl) (by repeat (first|exact AHeap.set_same _ _ _|assumption|refine(AHeap.set_ne _ _ (by first|assumption|exact Ne.symm (by assumption))).trans ?_)) QD (by rfl) (by rfl) (by first|exact Nat.le_refl _|decide|(simp;done)|(simp;omega)) (Nat.zero_le _) (by first|rfl|(simp+decide only[ev,putD,Slots.put,Slots.get,if_true,if_false,AVal.cells,QF,Bool.and_true,Bool.true_and,hmvs,hrvs,XG,XN,Xz])) ?_;simp only[AVal.cells];simp+decide only[qa,ev,putD,Slots.get,Slots.keep,if_true,if_false,setAt,List.set_cons_zero,List.set_cons_succ,Nat.zero_add,Nat.reduceAdd];apply hK;clear hK K;refine qN ?_;try simp only[Qf,Qr]
  refine QN (?_) ?_
  ·simp+decide only[Qw,qp,qi,Slots.get,if_true,if_false,and_true,qp,qi,qg Xh QD,qW,qc,List.getD_cons_zero,List.getD_cons_succ,Nat.zero_add,Nat.reduceAdd,qh,allLive,Bool.and_true,qc,List.getD_cons_zero,List.getD_cons_succ,Nat.zero_add,Nat.reduceAdd,qh,allLive,Bool.and_true]
  simp+decide only[Slots.get,if_true,if_false,Xa,qp,qi,qg Xh QD,qW,qc,List.getD_cons_zero,List.getD_cons_succ,Nat.zero_add,Nat.reduceAdd,qh,allLive,Bool.and_true,qc,List.getD_cons_zero,List.getD_cons_succ,Nat.zero_add,Nat.reduceAdd,qh,allLive,Bool.and_true];exact⟨_,Sub.refl _,none,⟨st.names,st.copies+1⟩, .nilSlice,⟨7,s.name.line,s.name.col⟩,trivial,⟨hfew,c,es,nb,he,hes,Sub.trans_set hE5 hz5⟩,rfl, .inl ⟨fun e=>absurd (congrArg FaultC.e e) (by simp[okF]),hX,rfl⟩⟩
 ·try simp only[decide_eq_false_iff_not]at hb1
  obtain⟨i,zi,z1,z2⟩:∃i,i<qs.length/\qaA (fun q:MemQ=>decide (q.1.name=nm)) qs=i/\mems.find? (fun m=>decide (m.name=nm))=some (qs.getD i badM).1:=by
   rcases find_name hqs nm with z|z
   ·omega
   ·exact z
  rw[z1];rw[z2]at hX;simp only at hX;obtain⟨q,hqe⟩:∃q,q=qs.getD i badM:=⟨_,rfl⟩
  have hqm:q∈qs:=by rw[hqe];exact getD_mem badM zi
  rw[<-hqe]at hX;have hqt:q.1.toks.length<=100000:=hmt _ (by rw[hqs];exact List.mem_map.2 ⟨q,hqm,rfl⟩);refine Zh [0,3,5,6,7,8,37] mixed (by kernel_rfl) (by rfl) (by rfl) fun K hK=>?_;simp+decide only[qa,ev,putD,Slots.put,Slots.get,Slots.keep,if_true,if_false,true_and,↓qj,qf,↓Qh,qK,Qj,↓qA,ql,fa76_1,↓qF,Qb,qy ag74,qy ag9,↓ap_lookup,pop_lookup,↓qd,qb,Qp w0 eb_x,Qp w0 eb_1q3,lv_map,List.getD_cons_zero,List.getD_cons_succ,Nat.zero_add,qE,hlk];apply hK;clear hK K;refine qL (b:=_) rfl (fun hb2=>?_) (fun hb2=>?_)
  ·skip
   rw[if_pos hb2]at hX;refine awp_rseq [4,5] (by rfl) fun K hK=>?_;simp+decide only[ev,putD,Slots.put,Slots.get,if_true,if_false,true_and,↓qj,qf];refine qM (V:= .tuple [.nilSlice,QS ⟨10,s.name.line,s.name.col⟩]) (by rfl) (by rfl) (c_mem1 w0 _ k0q0 s.name rv hrvl 10 (by rw[hsc];exact(by repeat (first|exact AHeap.set_same _ _ _|assumption|refine(AHeap.set_ne _ _ (by first|assumption|exact Ne.symm (by assumption))).trans ?_)))) ?_;simp+decide only[ev,putD,Slots.put,Slots.get,if_true,if_false,true_and,↓QJ,QA,QH,List.length_cons,List.length_nil,List.getD_cons_zero,List.getD_cons_succ,↓qd,qb,List.getD_cons_zero,List.getD_cons_succ,Nat.zero_add,Nat.reduceAdd,QS];refine qm (by rfl) (by rfl) (by repeat (first|exact AHeap.set_same _ _ _|assumption|refine(AHeap.set_ne _ _ (by first|assumption|exact Ne.symm (by assumption))).trans ?_)) QD (by rfl) (by rfl) (by first|exact Nat.le_refl _|decide|(simp;done)|(simp;omega)) (Nat.zero_le _) (by first|rfl|(simp+decide only[ev,putD,Slots.put,Slots.get,if_true,if_false,AVal.cells,QF,Bool.and_true,Bool.true_and,hmvs,hrvs,XG,XN,Xz])) ?_;simp only[AVal.cells];simp+decide only[qa,ev,putD,Slots.get,Slots.keep,if_true,if_false,setAt,List.set_cons_zero,List.set_cons_succ,Nat.zero_add,Nat.reduceAdd];apply hK;clear hK K;refine qN ?_;try simp only[Qf,Qr]
   refine QN (?_) ?_
   ·simp+decide only[Qw,qp,qi,Slots.get,if_true,if_false,and_true,qp,qi,qg Xh QD,qW,qc,List.getD_cons_zero,List.getD_cons_succ,Nat.zero_add,Nat.reduceAdd,qh,allLive,Bool.and_true,qc,List.getD_cons_zero,List.getD_cons_succ,Nat.zero_add,Nat.reduceAdd,qh,allLive,Bool.and_true]
   simp+decide only[Slots.get,if_true,if_false,Xa,qp,qi,qg Xh QD,qW,qc,List.getD_cons_zero,List.getD_cons_succ,Nat.zero_add,Nat.reduceAdd,qh,allLive,Bool.and_true,qc,List.getD_cons_zero,List.getD_cons_succ,Nat.zero_add,Nat.reduceAdd,qh,allLive,Bool.and_true];exact⟨_,Sub.refl _,none,⟨st.names,st.copies+1⟩, .nilSlice,⟨10,s.name.line,s.name.col⟩,trivial,⟨hfew,c,es,nb,he,hes,Sub.trans_set hE5 hz5⟩,rfl, .inl ⟨fun e=>absurd (congrArg FaultC.e e) (by simp[okF]),hX,rfl⟩⟩
  ·skip
   rw[if_neg (by rw[hb2];decide)]at hX;refine awp_rseq [0,3,5,6,7,8,48] (by rfl) fun K hK=>?_;simp+decide only[qa,ev,qJ,qG,putD,Slots.put,Slots.get,Slots.keep,if_true,if_false,true_and,↓qj,qf,↓Qh,qK,Qj,↓qA,ql,fa76_1,↓qF,Qb,qy ag74,↓XA,QK,↓qC,qo,qD,cond_false,qz,qaw,↓Xc,agP,Qu,qI,qH,Qd,implies_true,↓ZZ,qbr,qbs,↓Xn,fa76_3,Zv,Zw,↓Zb,XI,Wy,qcN,qy ag3,↓Xd,Zf,Zg,Ur,↓QP,Qt,Qg,XW,ZR,↓qd,qb,Qp w0 eb_x,lv_map,List.getD_cons_zero,List.getD_cons_succ,Nat.zero_add,qh,hlo];apply hK;clear hK K;refine qL (b:=_) rfl (fun hb3=>?_) (fun hb3=>?_)
   ·try simp only[decide_eq_true_eq,Bool.or_eq_true]at hb3
    rw[if_pos (by
     rcases hb3 with z|z
     ·left;omega
     ·right;exact⟨trivial,by omega⟩)]at hX
    refine awp_rseq [4,5] (by rfl) fun K hK=>?_;simp+decide only[ev,putD,Slots.put,Slots.get,if_true,if_false,true_and,↓qj,qf];refine qM (V:= .tuple [.nilSlice,QS ⟨3,s.name.line,s.name.col⟩]) (by rfl) (by rfl) (c_mem1 w0 _ k0q0 s.name rv hrvl 3 (by rw[hsc];exact(by repeat (first|exact AHeap.set_same _ _ _|assumption|refine(AHeap.set_ne _ _ (by first|assumption|exact Ne.symm (by assumption))).trans ?_)))) ?_;simp+decide only[ev,putD,Slots.put,Slots.get,if_true,if_false,true_and,↓QJ,QA,QH,List.length_cons,List.length_nil,List.getD_cons_zero,List.getD_cons_succ,↓qd,qb,List.getD_cons_zero,List.getD_cons_succ,Nat.zero_add,Nat.reduceAdd,QS];refine qm (by rfl) (by rfl) (by repeat (first|exact AHeap.set_same _ _ _|assumption|refine(AHeap.set_ne _ _ (by first|assumption|exact Ne.symm (by assumption))).trans ?_)) QD (by rfl) (by rfl) (by first|exact Nat.le_refl _|decide|(simp;done)|(simp;omega)) (Nat.zero_le _) (by first|rfl|(simp+decide only[ev,putD,Slots.put,Slots.get,if_true,if_false,AVal.cells,QF,Bool.and_true,Bool.true_and,hmvs,hrvs,XG,XN,Xz])) ?_;simp only[AVal.cells];simp+decide only[qa,ev,putD,Slots.get,Slots.keep,if_true,if_false,setAt,List.set_cons_zero,List.set_cons_succ,Nat.zero_add,Nat.reduceAdd];apply hK;clear hK K;refine qN ?_;try simp only[Qf,Qr]
    refine QN (?_) ?_
    ·simp+decide only[Qw,qp,qi,Slots.get,if_true,if_false,and_true,qp,qi,qg Xh QD,qW,qc,List.getD_cons_zero,List.getD_cons_succ,Nat.zero_add,Nat.reduceAdd,qh,allLive,Bool.and_true,qc,List.getD_cons_zero,List.getD_cons_succ,Nat.zero_add,Nat.reduceAdd,qh,allLive,Bool.and_true]
    simp+decide only[Slots.get,if_true,if_false,Xa,qp,qi,qg Xh QD,qW,qc,List.getD_cons_zero,List.getD_cons_succ,Nat.zero_add,Nat.reduceAdd,qh,allLive,Bool.and_true,qc,List.getD_cons_zero,List.getD_cons_succ,Nat.zero_add,Nat.reduceAdd,qh,allLive,Bool.and_true];exact⟨_,Sub.refl _,none,⟨st.names,st.copies+1⟩, .nilSlice,⟨3,s.name.line,s.name.col⟩,trivial,⟨hfew,c,es,nb,he,hes,Sub.trans_set hE5 hz5⟩,rfl, .inl ⟨fun e=>absurd (congrArg FaultC.e e) (by simp[okF]),hX,rfl⟩⟩
   ·try simp only[decide_eq_false_iff_not,Bool.or_eq_false_iff]at hb3
    rw[if_neg (by
     rintro(z|⟨-,z⟩)
     ·omega
     ·omega)]at hX
    have hlt8:op.length<8:=by omega
    have hcp:st.copies+1<=4096:=by omega
    have hnot:nm∉es.map (·.2):=by rw[hes];intro z;rw[List.contains_iff_mem.2 z]at hb2;cases hb2
    refine Qa ?_;change Awp _ _ _ _ _ _ _;obtain⟨B1,hB1⟩:∃B1,B1=((B.set k0q0 ⟨[.int .u8 s.name.kind.toNat, .str nm, .int .i64 s.name.line, .int .i64 s.name.col, .bool s.name.left,rv],0⟩).set k0q2 ⟨[.int .i64 0, .int .i64 0, .int .i64 0],0⟩).set k1q3 ⟨[.str nm],0⟩:=⟨_,rfl⟩
    obtain⟨y1,y2⟩:=he.lay (mv:=mv) (c:=c) (es:=es) (cp:=st.copies) (j:=k0q0) (by rw[<-hH];exact hn_0q0) ⟨[.int .u8 s.name.kind.toNat, .str nm, .int .i64 s.name.line, .int .i64 s.name.col, .bool s.name.left,rv],0⟩;obtain⟨y3,y4⟩:=y2.lay (mv:=mv) (c:=c) (es:=es) (cp:=st.copies) (j:=k0q2) (by rw[<-y1,<-hH];exact(AHeap.set_ne _ _ ne_0q2_0q0).trans hn_0q2) ⟨[.int .i64 0, .int .i64 0, .int .i64 0],0⟩;obtain⟨y5,y6⟩:=y4.lay (mv:=mv) (c:=c) (es:=es) (cp:=st.copies) (j:=k1q3) (by rw[<-y3,<-y1,<-hH];exact(AHeap.set_ne _ _ ne_1q3_0q2).trans ((AHeap.set_ne _ _ ne_1q3_0q0).trans hn_1q3)) ⟨[.str nm],0⟩;rw[<-hB1]at y5 y6;have h5:H5=ZC B1 kx km mv c es nb (st.copies+1):=by rw[hH5,hH,y1,y3,y5,y6.set_x]
    have hsB1:Sub B B1:=by rw[hB1];exact(by repeat (first|exact Sub.refl _|assumption|refine Sub.set_both ?_ _ _|refine Sub.trans_set ?_ (by repeat (first|assumption|refine(AHeap.set_ne _ _ (by first|assumption|exact Ne.symm (by assumption))).trans ?_))))
    have b1_0:B1 k0q0=some ⟨[.int .u8 s.name.kind.toNat, .str nm, .int .i64 s.name.line, .int .i64 s.name.col, .bool s.name.left,rv],0⟩:=by rw[hB1];exact(by repeat (first|exact AHeap.set_same _ _ _|assumption|refine(AHeap.set_ne _ _ (by first|assumption|exact Ne.symm (by assumption))).trans ?_))
    have b1_2:B1 k0q2=some ⟨[.int .i64 0, .int .i64 0, .int .i64 0],0⟩:=by rw[hB1];exact(by repeat (first|exact AHeap.set_same _ _ _|assumption|refine(AHeap.set_ne _ _ (by first|assumption|exact Ne.symm (by assumption))).trans ?_))
    have b1_n:B1 k1q3=some ⟨[.str nm],0⟩:=by rw[hB1];exact(by repeat (first|exact AHeap.set_same _ _ _|assumption|refine(AHeap.set_ne _ _ (by first|assumption|exact Ne.symm (by assumption))).trans ?_))
    have hcu:ACall Tryz.prog w0 44 [.ptr (.own kx) 0, .str nm] H5 (fun r h'=>r= .tuple []/\∃nb',UseOk (B1.set km (Xt c (es.map opC))) kx nb' (Cop.addE st.names nm)/\h'=qaH (B1.set km (Xt c (es.map opC))) kx mv (.map km) nb' ((st.copies+1:Nat):Int)):=by
     rw[h5];exact c_use w0 _ kx mv (.map km) nb _ st.names nm (y6.use _) (by omega) hmvs rfl
    refine awp_rseq [0,3,5,6,7,8] (by rfl) fun K hK=>?_;simp+decide only[ev,putD,Slots.put,Slots.get,if_true,if_false,true_and,↓qj,qf,↓qF,Qb,qy ag9,Qp w0 eb_1q3,List.getD_cons_zero,qE];refine QI (by rfl) (by rfl) (hcu) fun x11q2 h11q2 hx11q2=>?_;obtain⟨-,nb2,hu2,hh11⟩:=hx11q2;have he2:ExOk B1 kx km nb2 (Cop.addE st.names nm):=⟨y6.bm,y6.bx,y6.ne,fun M=>hu2.swap y6.ne M⟩
    have hh:h11q2=ZC B1 kx km mv c es nb2 (st.copies+1):=hh11;have hs_h11q2:Sub B h11q2:=by rw[hh];exact hsB1.trans he2.above
    have eb_x:h11q2 kx=some ⟨[mv, .map km,QT 1 nb2, .int .i64 ((st.copies+1:Nat):Int)],0⟩:=by rw[hh];exact he2.x
    have eb_m:h11q2 km=some (Xt c (es.map opC)):=by rw[hh];exact he2.m
    have eb_0q0:h11q2 k0q0=some ⟨[.int .u8 s.name.kind.toNat, .str nm, .int .i64 s.name.line, .int .i64 s.name.col, .bool s.name.left,rv],0⟩:=by rw[hh];exact he2.above _ _ b1_0
    have eb_0q2:h11q2 k0q2=some ⟨[.int .i64 0, .int .i64 0, .int .i64 0],0⟩:=by rw[hh];exact he2.above _ _ b1_2
    have eb_1q3:h11q2 k1q3=some ⟨[.str nm],0⟩:=by rw[hh];exact he2.above _ _ b1_n
    have hbl:=Xm 1 nb2;simp+decide only[qa,putD,Slots.put,Slots.keep,if_true,if_false];apply hK;clear hK K;refine XU 5 [0,3,5,6,7,8] mixed (by kernel_rfl) (by rfl) (by rfl) fun K hK=>?_;simp+decide only[ev,putD,Slots.put,Slots.get,if_true,if_false,true_and,↓qj,qf,↓Qh,qK,Qj,↓qA,ql,fa76_1,↓qF,Qb,qy ag74,qy ag9,Qp w0 eb_x,Qp w0 eb_1q3,lv_map,List.getD_cons_zero,List.getD_cons_succ,Nat.zero_add,qE];refine aOps_putNew Tryz.underlying74 (by rfl) eb_m (by rfl) (mFind_op _ es 0 hnot) ?_;simp+decide only[qa,ev,qJ,qG,putD,Slots.get,Slots.keep,if_true,if_false];apply hK;clear hK K;obtain⟨H13,hH13⟩:∃H13,H13=ZC B1 kx km mv (c+1) (es++[(c,nm)]) nb2 (st.copies+1):=⟨_,rfl⟩
    refine Awp.forget (h':=H13) (by rw[hH13,<-he2.set_m (c:=c) (es:=es),<-hh,List.map_append];exact Sub.refl _) ?_;have hs_H13:Sub B H13:=by rw[hH13];exact hsB1.trans he2.above
    have eb_x:H13 kx=some ⟨[mv, .map km,QT 1 nb2, .int .i64 ((st.copies+1:Nat):Int)],0⟩:=by rw[hH13];exact he2.x
    have eb_m:H13 km=some (Xt (c+1) ((es++[(c,nm)]).map opC)):=by rw[hH13];exact he2.m
    have eb_0q0:H13 k0q0=some ⟨[.int .u8 s.name.kind.toNat, .str nm, .int .i64 s.name.line, .int .i64 s.name.col, .bool s.name.left,rv],0⟩:=by rw[hH13];exact he2.above _ _ b1_0
    have eb_0q2:H13 k0q2=some ⟨[.int .i64 0, .int .i64 0, .int .i64 0],0⟩:=by rw[hH13];exact he2.above _ _ b1_2
    have eb_1q3:H13 k1q3=some ⟨[.str nm],0⟩:=by rw[hH13];exact he2.above _ _ b1_n
    obtain⟨lcm,om,cm,rfl⟩:=mem_open hq2 (by omega);obtain⟨-,d1⟩:=mem_at (hq2.mono hs_H13) zi;rw[<-hqe]at d1;have hqv:=hql q hqm;have hal:=addE_len st.names nm;refine awp_put_deleteE [0,3,5,7,8] (vm:= .map km) (vi:= .str nm) 5 (by rfl) (by rfl) rfl mixed (by kernel_rfl) (by rfl) fun K hK=>?_;simp only[List.take_succ_cons,List.take_zero];simp+decide only[qa,ev,putD,Slots.put,Slots.get,Slots.keep,if_true,if_false,true_and,↓qj,qf,↓Qh,qK,Qj,↓qA,ql,fa76_1,↓qF,Qb,qy ag74,qy ag9,Qp w0 eb_x,Qp w0 eb_1q3,lv_map,List.getD_cons_zero,List.getD_cons_succ,Nat.zero_add,qE];skip;apply hK;clear hK K;intro dq;refine awp_rseq [3,5,7,9,10] (by rfl) fun K hK=>?_;simp+decide only[ev,putD,Slots.put,Slots.get,if_true,if_false,true_and,↓qj,qf,↓Qh,qK,Qj,↓qA,ql,fa76_0,↓qF,Qb,qy ag28,↓Xi,Qs Tryz.underlying28 sz57,fa57_1,qy UK,Qp w0 eb_x,List.getD_cons_zero,Nat.zero_add,hmvl,d1,hqv,Int.toNat_natCast];repeat (with_reducible refine And.intro ?_ ?_;· first|trivial|omega|(intro hg;simp only[Bool.and_eq_true,Bool.or_eq_true,Bool.not_eq_true',Bool.and_eq_false_iff,Bool.or_eq_false_iff,Bool.not_eq_false',decide_eq_true_eq,decide_eq_false_iff_not,Zt]at hg;omega))
    refine QI (by rfl) (by rfl) (hrec hlt8 (by rw[List.length_append,List.length_singleton];omega) _ B1 q.2 q.1.toks ⟨Cop.addE st.names nm,st.copies+1⟩ ⟨by(simp only;omega),c+1,es++[(c,nm)],nb2,he2,by rw[List.map_append,hes];rfl,by rw[<-hH13];exact(by repeat (first|exact Sub.refl _|assumption|refine Sub.set_both ?_ _ _|refine Sub.trans_set ?_ (by repeat (first|assumption|refine(AHeap.set_ne _ _ (by first|assumption|exact Ne.symm (by assumption))).trans ?_))))⟩ ⟨qs,hqs,hq2.mono hsB1,fun q hq=>(hq3 q hq).mono hsB1⟩ ((hq3 q hqm).mono hsB1) hqt (by simp only;omega) hcp) fun x14q9 h14q9 hx14q9=>?_;obtain⟨tb0,st2,bv,bf,htb0,hxr,rfl,hcase⟩:=hx14q9;obtain⟨B2,hB2⟩:∃B2,B2=QY B1 tb0:=⟨_,rfl⟩
    rw[<-hB2]at hxr;obtain⟨hfew2,c3,es3,nb3,he3,hop3,hs3⟩:=hxr;have hsB2:Sub B1 B2:=by rw[hB2];exact Sub.buf htb0
    obtain⟨es4,b4,rfl,hes4⟩:∃es4 b4,es3=es4++[(b4,nm)]/\es4.map (·.2)=op:=by
     obtain⟨l1,l2,q1,q2,q3⟩:=List.map_eq_append_iff.1 hop3;cases l2 with
     |nil=>simp at q3
     |cons a l3=>
      obtain⟨a1,a2⟩:=a;simp only[List.map_cons,List.cons.injEq,List.map_eq_nil_iff]at q3;obtain⟨rfl,rfl⟩:=q3;exact⟨l1,a1,q1,q2⟩
    have hnot4:nm∉es4.map (·.2):=by rw[hes4,<-hes];exact hnot
    have hsBB2:Sub B B2:=hsB1.trans hsB2;have hs2h:Sub B2 h14q9:=he3.above.trans hs3;have hs_h14q9:Sub B h14q9:=hsBB2.trans hs2h;have eb_x:h14q9 kx=some ⟨[.slice lcm om qs.length cm, .map km,QT 1 nb3, .int .i64 st2.copies],0⟩:=hs3 _ _ he3.x;have eb_m:h14q9 km=some (Xt c3 ((es4++[(b4,nm)]).map opC)):=hs3 _ _ he3.m;have eb_0q0:h14q9 k0q0=some ⟨[.int .u8 s.name.kind.toNat, .str nm, .int .i64 s.name.line, .int .i64 s.name.col, .bool s.name.left,rv],0⟩:=hs2h _ _ (hsB2 _ _ b1_0);have eb_0q2:h14q9 k0q2=some ⟨[.int .i64 0, .int .i64 0, .int .i64 0],0⟩:=hs2h _ _ (hsB2 _ _ b1_2);have eb_1q3:h14q9 k1q3=some ⟨[.str nm],0⟩:=hs2h _ _ (hsB2 _ _ b1_n);have heB3:ExOk B kx km nb3 st2.names:=he3.down hsBB2;have hE14:Sub (ZC B kx km (.slice lcm om qs.length cm) c3 (es4++[(b4,nm)]) nb3 st2.copies) h14q9:=(qcc hsBB2).trans hs3;have z0q2:ZC B kx km (.slice lcm om qs.length cm) c3 (es4++[(b4,nm)]) nb3 st2.copies k0q2=none:=he3.off (hsB2 _ _ b1_2) hf_0q2;have hbvl:bv.live=true:=by
     rcases hcase with⟨-,-,w3⟩|⟨-,out,-,w3,-⟩
     ·rw[w3];rfl
     ·exact w3.live
    simp+decide only[ev,putD,Slots.put,Slots.get,if_true,if_false,true_and,↓qj,qf,↓QJ,QA,QH,List.length_cons,List.length_nil,List.getD_cons_zero,List.getD_cons_succ,List.getD_cons_zero,List.getD_cons_succ,Nat.zero_add,Nat.reduceAdd,QS];refine Qi qaF (cs:=[.int .i64 0, .int .i64 0, .int .i64 0]) (by rfl) fun k14q13 hk14q13=>?_;have hn_14q13:h14q9 k14q13=none:=by first|assumption|(simp only[AHeap.set_none]at hk14q13;simp only[hk14q13])
    have hf_14q13:B k14q13=none:=Sub.none hs_h14q9 hn_14q13;have ne_14q13_x:k14q13≠kx:=AHeap.ne_some hn_14q13 eb_x;have ne_14q13_m:k14q13≠km:=AHeap.ne_some hn_14q13 eb_m;have ne_14q13_0q0:k14q13≠k0q0:=AHeap.ne_some hn_14q13 eb_0q0;have ne_14q13_0q2:k14q13≠k0q2:=AHeap.ne_some hn_14q13 eb_0q2;have ne_14q13_1q3:k14q13≠k1q3:=AHeap.ne_some hn_14q13 eb_1q3;simp+decide only[ev,putD,Slots.put,Slots.get,if_true,if_false,true_and,↓qd,qb];refine qm (by rfl) (by rfl) (by repeat (first|exact AHeap.set_same _ _ _|assumption|refine(AHeap.set_ne _ _ (by first|assumption|exact Ne.symm (by assumption))).trans ?_)) QD (by rfl) (by rfl) (by first|exact Nat.le_refl _|decide|(simp;done)|(simp;omega)) (Nat.zero_le _) (by first|rfl|(simp+decide only[ev,putD,Slots.put,Slots.get,if_true,if_false,AVal.cells,QF,Bool.and_true,Bool.true_and,hmvs,hrvs,XG,XN,Xz])) ?_;simp only[AHeap.set_set,AVal.cells];simp+decide only[qa,ev,putD,Slots.get,Slots.keep,if_true,if_false,setAt,List.set_cons_zero,List.set_cons_succ,Nat.zero_add,Nat.reduceAdd];apply hK;clear hK K;refine qO ?_;refine awp_rseq [3,5,7,9,10,94] (by rfl) fun K hK=>?_;simp+decide only[qa,ev,qJ,qG,putD,Slots.put,Slots.get,Slots.keep,if_true,if_false,true_and,↓qF,Qb,qg Xh QD,↓Qn,↓qV,ZI,evP,List.map_nil,↓qC,qo,qZ,cond_false,Yv,ne35,QV,qc,List.getD_cons_zero,List.getD_cons_succ,Nat.zero_add,Nat.reduceAdd,qh,allLive,Bool.and_true,WF];apply hK;clear hK K;refine qL (b:=_) rfl (fun hb4=>?_) (fun hb4=>?_)
    ·try simp only[decide_eq_false_iff_not,Bool.not_eq_true']at hb4
     obtain⟨w1,w2,w3⟩:bf≠okF/\rec q.1.toks (op++[nm]) ⟨Cop.addE st.names nm,st.copies+1⟩= .bad bf/\bv= .nilSlice:=by
      rcases hcase with z|⟨z,-⟩
      ·exact z
      ·exact absurd z hb4
     rw[w2]at hX;simp only at hX;refine XU 2 [4,5] mixed (by kernel_rfl) (by rfl) (by rfl) fun K hK=>?_;simp+decide only[ev,qJ,qG,putD,Slots.put,Slots.get,if_true,if_false,true_and,↓qF,Qb,qg Xh QD,↓qd,qb,QV,qc,List.getD_cons_zero,List.getD_cons_succ,Nat.zero_add,Nat.reduceAdd,qh,allLive,Bool.and_true];refine qm (by rfl) (by rfl) (by repeat (first|exact AHeap.set_same _ _ _|assumption|refine(AHeap.set_ne _ _ (by first|assumption|exact Ne.symm (by assumption))).trans ?_)) QD (by rfl) (by rfl) (by first|exact Nat.le_refl _|decide|(simp;done)|(simp;omega)) (Nat.zero_le _) (by first|rfl|(simp+decide only[ev,putD,Slots.put,Slots.get,if_true,if_false,AVal.cells,QF,Bool.and_true,Bool.true_and,hmvs,hrvs,XG,XN,Xz])) ?_;simp only[AVal.cells];simp+decide only[qa,ev,putD,Slots.get,Slots.keep,if_true,if_false,setAt,List.set_cons_zero,List.set_cons_succ,Nat.zero_add,Nat.reduceAdd];apply hK;clear hK K;refine qN ?_;try simp only[Qf]
     refine retD_del (by rfl) Tryz.underlying74 (by repeat (first|exact AHeap.set_same _ _ _|assumption|refine(AHeap.set_ne _ _ (by first|assumption|exact Ne.symm (by assumption))).trans ?_)) (by rfl) (qbl _ b4 es4 0 hnot4) ?_;refine QN (?_) ?_
     ·simp+decide only[Qw,qp,qi,Slots.get,if_true,if_false,and_true,qp,qi,qg Xh QD,qW,qc,List.getD_cons_zero,List.getD_cons_succ,Nat.zero_add,Nat.reduceAdd,qh,allLive,Bool.and_true,QU,ne_eq,not_false_eq_true,ne_0q2_m,qc,List.getD_cons_zero,List.getD_cons_succ,Nat.zero_add,Nat.reduceAdd,qh,allLive,Bool.and_true]
     simp+decide only[Slots.get,if_true,if_false,Xa,qp,qi,qg Xh QD,qW,qc,List.getD_cons_zero,List.getD_cons_succ,Nat.zero_add,Nat.reduceAdd,qh,allLive,Bool.and_true,QU,ne_eq,not_false_eq_true,ne_0q2_m,qc,List.getD_cons_zero,List.getD_cons_succ,Nat.zero_add,Nat.reduceAdd,qh,allLive,Bool.and_true];rw[qcH];refine⟨_,Sub.refl _,none,st2, .nilSlice,bf,trivial,⟨hfew2,c3,es4,nb3,heB3,hes4,?_⟩,rfl, .inl ⟨w1,hX,rfl⟩⟩;change Sub (ZC B _ _ _ _ _ _ _) _;rw[<-heB3.set_m (c:=c3) (es:=es4++[(b4,nm)])];exact Sub.set_both (Sub.trans_set (Sub.trans_set hE14 (hE14.none hn_14q13)) z0q2) _ _
    ·try simp only[decide_eq_true_eq,Bool.not_eq_false']at hb4
     obtain⟨w1,out,w2,w3,w4,w5,w6⟩:bf=okF/\∃out,rec q.1.toks (op++[nm]) ⟨Cop.addE st.names nm,st.copies+1⟩= .ok out st2/\IsL w0 (QY (fun _=>none) tb0) 5 bv (out.map Xv)/\out.length<=200000/\st2.names.length<=st2.copies/\st2.copies<=4096:=by
      rcases hcase with⟨z,-⟩|z
      ·exact absurd (by simpa using hb4) z
      ·exact z
     have w3:IsL w0 B2 5 bv (out.map Xv):=w3.mono (by rw[hB2];exact Sub.bufBoth (qda _));rw[w2]at hX;simp only[qai,Bool.true_and,decide_eq_true_eq]at hX;have nbv:=Za w3;refine Qa ?_;change Awp _ _ _ _ _ _ _;refine qO ?_;refine awp_rseq [3,5,7,9,98] (by rfl) fun K hK=>?_;simp+decide only[qa,ev,qJ,qG,putD,Slots.put,Slots.get,Slots.keep,if_true,if_false,true_and,↓qj,qf,↓XA,QK,↓qC,qo,qD,cond_false,qz,Ur,nbv];apply hK;clear hK K;refine qL (b:=_) rfl (fun hb5=>?_) (fun hb5=>?_)
     ·try simp only[decide_eq_true_eq]at hb5
      rw[if_pos (by omega)]at hX;refine awp_rseq [4,5] (by rfl) fun K hK=>?_;simp+decide only[ev,putD,Slots.put,Slots.get,if_true,if_false,true_and,↓qj,qf];refine qM (V:= .tuple [.nilSlice,QS ⟨3,s.name.line,s.name.col⟩]) (by rfl) (by rfl) (c_mem1 w0 _ k0q0 s.name rv hrvl 3 (by rw[hsc];exact(by repeat (first|exact AHeap.set_same _ _ _|assumption|refine(AHeap.set_ne _ _ (by first|assumption|exact Ne.symm (by assumption))).trans ?_)))) ?_;simp+decide only[ev,putD,Slots.put,Slots.get,if_true,if_false,true_and,↓QJ,QA,QH,List.length_cons,List.length_nil,List.getD_cons_zero,List.getD_cons_succ,↓qd,qb,List.getD_cons_zero,List.getD_cons_succ,Nat.zero_add,Nat.reduceAdd,QS];refine qm (by rfl) (by rfl) (by repeat (first|exact AHeap.set_same _ _ _|assumption|refine(AHeap.set_ne _ _ (by first|assumption|exact Ne.symm (by assumption))).trans ?_)) QD (by rfl) (by rfl) (by first|exact Nat.le_refl _|decide|(simp;done)|(simp;omega)) (Nat.zero_le _) (by first|rfl|(simp+decide only[ev,putD,Slots.put,Slots.get,if_true,if_false,AVal.cells,QF,Bool.and_true,Bool.true_and,hmvs,hrvs,XG,XN,Xz])) ?_;simp only[AVal.cells];simp+decide only[qa,ev,putD,Slots.get,Slots.keep,if_true,if_false,setAt,List.set_cons_zero,List.set_cons_succ,Nat.zero_add,Nat.reduceAdd];apply hK;clear hK K;refine qN ?_;try simp only[Qf]
      refine retD_del (by rfl) Tryz.underlying74 (by repeat (first|exact AHeap.set_same _ _ _|assumption|refine(AHeap.set_ne _ _ (by first|assumption|exact Ne.symm (by assumption))).trans ?_)) (by rfl) (qbl _ b4 es4 0 hnot4) ?_;refine QN (?_) ?_
      ·simp+decide only[Qw,qp,qi,Slots.get,if_true,if_false,and_true,qp,qi,qg Xh QD,qW,qc,List.getD_cons_zero,List.getD_cons_succ,Nat.zero_add,Nat.reduceAdd,qh,allLive,Bool.and_true,QU,ne_eq,not_false_eq_true,ne_0q2_m,qc,List.getD_cons_zero,List.getD_cons_succ,Nat.zero_add,Nat.reduceAdd,qh,allLive,Bool.and_true]
      simp+decide only[Slots.get,if_true,if_false,Xa,qp,qi,qg Xh QD,qW,qc,List.getD_cons_zero,List.getD_cons_succ,Nat.zero_add,Nat.reduceAdd,qh,allLive,Bool.and_true,QU,ne_eq,not_false_eq_true,ne_0q2_m,qc,List.getD_cons_zero,List.getD_cons_succ,Nat.zero_add,Nat.reduceAdd,qh,allLive,Bool.and_true];rw[qcH];refine⟨_,Sub.refl _,none,st2, .nilSlice,⟨3,s.name.line,s.name.col⟩,trivial,⟨hfew2,c3,es4,nb3,heB3,hes4,?_⟩,rfl, .inl ⟨fun e=>absurd (congrArg FaultC.e e) (by simp[okF]),hX,rfl⟩⟩;change Sub (ZC B _ _ _ _ _ _ _) _;rw[<-heB3.set_m (c:=c3) (es:=es4++[(b4,nm)])];exact Sub.set_both (Sub.trans_set (Sub.trans_set hE14 (hE14.none hn_14q13)) z0q2) _ _
     ·try simp only[decide_eq_false_iff_not]at hb5
      rw[if_neg (by omega)]at hX;have z14:B2 k14q13=none:=hs2h.none hn_14q13;have hrE:UB out s.reps=if 65536<(qbd s.reps out).length then([],3)else(qbd s.reps out,0):=by
       unfold UB;rw[if_neg];rw[List.any_eq_true];rintro⟨x,hx,e⟩;exact hro x hx (by simpa using e)
      obtain⟨E,hE⟩:∃E,E=UB out s.reps:=⟨_,rfl⟩
      refine Qa ?_;change Awp _ _ _ _ _ _ _;refine awp_rseq [5,7,11,12] (by rfl) fun K hK=>?_;simp+decide only[ev,putD,Slots.put,Slots.get,if_true,if_false,true_and,↓qj,qf,↓qA,ql,fa91_1,↓qF,Qb,qy ag43,QU,ne_eq,not_false_eq_true,ne_14q13_0q0.symm,Qp w0 eb_0q0,List.getD_cons_zero,List.getD_cons_succ,Nat.zero_add,hrvl];refine QI (by rfl) (by rfl) (c_copyReplace w0 _ bv rv out s.reps (w3.mono (by repeat (first|exact Sub.refl _|assumption|refine Sub.set_both ?_ _ _|refine Sub.trans_set ?_ (by repeat (first|assumption|refine(AHeap.set_ne _ _ (by first|assumption|exact Ne.symm (by assumption))).trans ?_))))) (hrp.mono (by repeat (first|exact Sub.refl _|assumption|refine Sub.set_both ?_ _ _|refine Sub.trans_set ?_ (by repeat (first|assumption|refine(AHeap.set_ne _ _ (by first|assumption|exact Ne.symm (by assumption))).trans ?_))))) (by omega) hrl hrn) fun x19q3 h19q3 hx19q3=>?_;rw[<-hE]at hx19q3 hrE;obtain⟨ov,rfl,hor⟩:=hx19q3;have hor':=hor;obtain⟨tb,hov,o1,o2,o3⟩:=hor';have hovl:ov.live=true:=by rw[hov];cases tb<;>rfl
      have hs19:=(hor.toks (w0:=w0)).2.2;have hs_h19q3:Sub B h19q3:=Sub.trans (by repeat (first|exact Sub.refl _|assumption|refine Sub.trans_set ?_ (by assumption))) hs19;have hr_h19q3:Sub h14q9 h19q3:=Sub.trans (by repeat (first|exact Sub.refl _|assumption|refine Sub.trans_set ?_ (by assumption))) hs19;have eb_14q13:=hs19 k14q13 _ (by repeat (first|exact AHeap.set_same _ _ _|assumption|refine(AHeap.set_ne _ _ (by first|assumption|exact Ne.symm (by assumption))).trans ?_));have eb_x:=hs19 kx _ (by repeat (first|exact AHeap.set_same _ _ _|assumption|refine(AHeap.set_ne _ _ (by first|assumption|exact Ne.symm (by assumption))).trans ?_));have eb_m:=hs19 km _ (by repeat (first|exact AHeap.set_same _ _ _|assumption|refine(AHeap.set_ne _ _ (by first|assumption|exact Ne.symm (by assumption))).trans ?_));have eb_0q0:=hs19 k0q0 _ (by repeat (first|exact AHeap.set_same _ _ _|assumption|refine(AHeap.set_ne _ _ (by first|assumption|exact Ne.symm (by assumption))).trans ?_));have eb_0q2:=hs19 k0q2 _ (by repeat (first|exact AHeap.set_same _ _ _|assumption|refine(AHeap.set_ne _ _ (by first|assumption|exact Ne.symm (by assumption))).trans ?_));have eb_1q3:=hs19 k1q3 _ (by repeat (first|exact AHeap.set_same _ _ _|assumption|refine(AHeap.set_ne _ _ (by first|assumption|exact Ne.symm (by assumption))).trans ?_));simp+decide only[qa,ev,putD,Slots.put,Slots.get,Slots.keep,if_true,if_false,true_and,↓qj,qf,↓QJ,QA,QH,List.length_cons,List.length_nil,List.getD_cons_zero,List.getD_cons_succ,↓qd,qb,List.getD_cons_zero,List.getD_cons_succ,Nat.zero_add,Nat.reduceAdd];apply hK;clear hK K;refine qO ?_;refine awp_rseq [5,7,11,12,111] (by rfl) fun K hK=>?_;simp+decide only[qa,ev,qJ,qG,putD,Slots.put,Slots.get,Slots.keep,if_true,if_false,true_and,↓qj,qf,↓qC,qo,qD,cond_false,qz,qbh];apply hK;clear hK K;refine qL (b:=_) rfl (fun hb6=>?_) (fun hb6=>?_)
      ·try simp only[decide_eq_false_iff_not,Bool.not_eq_true']at hb6
       have hE3:65536<(qbd s.reps out).length:=by
        rcases Nat.lt_or_ge 65536 (qbd s.reps out).length with z|z
        ·exact z
        ·exfalso
         rw[if_neg (by omega)]at hrE;rw[hrE]at hb6;exact hb6 rfl
       rw[if_pos hE3]at hrE hX;have hE2:E.2=3:=by rw[hrE]
       refine awp_rseq [4,5] (by rfl) fun K hK=>?_;simp+decide only[ev,putD,Slots.put,Slots.get,if_true,if_false,true_and,↓qj,qf];refine qM (V:= .tuple [.nilSlice,QS ⟨E.2,s.name.line,s.name.col⟩]) (by rfl) (by rfl) (c_mem1 w0 _ k0q0 s.name rv hrvl E.2 (by rw[hsc];exact(by repeat (first|exact AHeap.set_same _ _ _|assumption|refine(AHeap.set_ne _ _ (by first|assumption|exact Ne.symm (by assumption))).trans ?_)))) ?_;simp+decide only[ev,putD,Slots.put,Slots.get,if_true,if_false,true_and,↓QJ,QA,QH,List.length_cons,List.length_nil,List.getD_cons_zero,List.getD_cons_succ,↓qd,qb,List.getD_cons_zero,List.getD_cons_succ,Nat.zero_add,Nat.reduceAdd,QS];refine qm (by rfl) (by rfl) (by repeat (first|exact AHeap.set_same _ _ _|assumption|refine(AHeap.set_ne _ _ (by first|assumption|exact Ne.symm (by assumption))).trans ?_)) QD (by rfl) (by rfl) (by first|exact Nat.le_refl _|decide|(simp;done)|(simp;omega)) (Nat.zero_le _) (by first|rfl|(simp+decide only[ev,putD,Slots.put,Slots.get,if_true,if_false,AVal.cells,QF,Bool.and_true,Bool.true_and,hmvs,hrvs,XG,XN,Xz])) ?_;simp only[AVal.cells];simp+decide only[qa,ev,putD,Slots.get,Slots.keep,if_true,if_false,setAt,List.set_cons_zero,List.set_cons_succ,Nat.zero_add,Nat.reduceAdd];apply hK;clear hK K;refine qN ?_;try simp only[Qf]
       refine retD_del (by rfl) Tryz.underlying74 (by repeat (first|exact AHeap.set_same _ _ _|assumption|refine(AHeap.set_ne _ _ (by first|assumption|exact Ne.symm (by assumption))).trans ?_)) (by rfl) (qbl _ b4 es4 0 hnot4) ?_;refine QN (?_) ?_
       ·simp+decide only[Qw,qp,qi,Slots.get,if_true,if_false,and_true,qp,qi,qg Xh QD,qW,qc,List.getD_cons_zero,List.getD_cons_succ,Nat.zero_add,Nat.reduceAdd,qh,allLive,Bool.and_true,QU,ne_eq,not_false_eq_true,ne_0q2_m,qc,List.getD_cons_zero,List.getD_cons_succ,Nat.zero_add,Nat.reduceAdd,qh,allLive,Bool.and_true]
       simp+decide only[Slots.get,if_true,if_false,Xa,qp,qi,qg Xh QD,qW,qc,List.getD_cons_zero,List.getD_cons_succ,Nat.zero_add,Nat.reduceAdd,qh,allLive,Bool.and_true,QU,ne_eq,not_false_eq_true,ne_0q2_m,qc,List.getD_cons_zero,List.getD_cons_succ,Nat.zero_add,Nat.reduceAdd,qh,allLive,Bool.and_true];rw[qcH,hE2];have hE19:=hE14.trans ((Sub.set hn_14q13).trans hs19);refine⟨_,Sub.refl _,none,st2, .nilSlice,⟨3,s.name.line,s.name.col⟩,trivial,⟨hfew2,c3,es4,nb3,heB3,hes4,?_⟩,rfl, .inl ⟨fun e=>absurd (congrArg FaultC.e e) (by simp[okF]),hX,rfl⟩⟩;change Sub (ZC B _ _ _ _ _ _ _) _;rw[<-heB3.set_m (c:=c3) (es:=es4++[(b4,nm)])];exact Sub.set_both (Sub.trans_set hE19 z0q2) _ _
      ·try simp only[decide_eq_true_eq,Bool.not_eq_false']at hb6
       have hE3:¬65536<(qbd s.reps out).length:=fun z=>by
        rw[if_pos z]at hrE;rw[hrE]at hb6;exact absurd hb6 (by decide)
       rw[if_neg hE3]at hrE hX;have hE1:E.1=qbd s.reps out:=by rw[hrE]
       refine Qa ?_;change Awp _ _ _ _ _ _ _;refine awp_rseq [4,5] (by rfl) fun K hK=>?_;simp+decide only[ev,qJ,qG,putD,Slots.put,Slots.get,if_true,if_false,true_and,↓qj,qf,↓Qn,↓qV,ZI,evP,List.map_nil,↓qd,qb];refine qm (by rfl) (by rfl) (by repeat (first|exact AHeap.set_same _ _ _|assumption|refine(AHeap.set_ne _ _ (by first|assumption|exact Ne.symm (by assumption))).trans ?_)) QD (by rfl) (by rfl) (by first|exact Nat.le_refl _|decide|(simp;done)|(simp;omega)) (Nat.zero_le _) (by first|rfl|(simp+decide only[ev,putD,Slots.put,Slots.get,if_true,if_false,AVal.cells,QF,Bool.and_true,Bool.true_and,hmvs,hrvs,XG,XN,Xz])) ?_;simp only[AVal.cells];simp+decide only[qa,ev,putD,Slots.get,Slots.keep,if_true,if_false,setAt,List.set_cons_zero,List.set_cons_succ,Nat.zero_add,Nat.reduceAdd];apply hK;clear hK K;refine qN ?_;refine retD_del (by rfl) Tryz.underlying74 (by repeat (first|exact AHeap.set_same _ _ _|assumption|refine(AHeap.set_ne _ _ (by first|assumption|exact Ne.symm (by assumption))).trans ?_)) (by rfl) (qbl _ b4 es4 0 hnot4) ?_;refine QN (?_) ?_
       ·simp+decide only[Qw,qp,qi,Slots.get,if_true,if_false,and_true,qp,qi,qg Xh QD,qW,qc,List.getD_cons_zero,List.getD_cons_succ,Nat.zero_add,Nat.reduceAdd,qh,allLive,Bool.and_true,QU,ne_eq,not_false_eq_true,ne_0q2_m,qc,List.getD_cons_zero,List.getD_cons_succ,Nat.zero_add,Nat.reduceAdd,qh,allLive,Bool.and_true]
       simp+decide only[Slots.get,if_true,if_false,Xa,qp,qi,qg Xh QD,qW,qc,List.getD_cons_zero,List.getD_cons_succ,Nat.zero_add,Nat.reduceAdd,qh,allLive,Bool.and_true,QU,ne_eq,not_false_eq_true,ne_0q2_m,qc,List.getD_cons_zero,List.getD_cons_succ,Nat.zero_add,Nat.reduceAdd,qh,allLive,Bool.and_true];rw[qcH];have hE14':Sub (ZC B kx km (.slice lcm om qs.length cm) c3 (es4++[(b4,nm)]) nb3 st2.copies) (h14q9.set k14q13 ⟨[.int .i64 bf.e, .int .i64 bf.line, .int .i64 bf.col],0⟩):=Sub.trans_set hE14 (hE14.none hn_14q13);obtain⟨e1,e2⟩:=heB3.buf hE14' o1;have hE19:Sub (ZC (QY B tb) kx km (.slice lcm om qs.length cm) c3 (es4++[(b4,nm)]) nb3 st2.copies) h19q3:=by rw[e1,o3];exact Sub.bufBoth hE14'
       have z7:ZC (QY B tb) kx km (.slice lcm om qs.length cm) c3 (es4++[(b4,nm)]) nb3 st2.copies k0q2=none:=by rw[e1];exact bufH_off z0q2 ((AHeap.set_ne _ _ ne_14q13_0q2.symm).trans (hs2h _ _ (hsB2 _ _ b1_2))) o1
       have hob:bufOk B 5 tb:=o1.sub ((by repeat (first|exact Sub.refl _|assumption|refine Sub.set_both ?_ _ _|refine Sub.trans_set ?_ (by repeat (first|assumption|refine(AHeap.set_ne _ _ (by first|assumption|exact Ne.symm (by assumption))).trans ?_)))):Sub B (h14q9.set k14q13 ⟨[.int .i64 bf.e, .int .i64 bf.line, .int .i64 bf.col],0⟩));refine⟨_,Sub.refl _,tb,st2,ov,okF,hob,⟨hfew2,c3,es4,nb3,e2,hes4,?_⟩,rfl, .inr ⟨rfl,qbd s.reps out,hX,?_,by omega,w5,w6⟩⟩
       ·rw[<-e2.set_m (c:=c3) (es:=es4++[(b4,nm)])]
        exact Sub.set_both (Sub.trans_set hE19 z7) _ _
       ·rw[hov,<-hE1]
        exact(IsL.buf (hob.sub (qda _)) (by decide) o2 Ya (Sub.refl _)).clip
end Go.Proofs.YtlhhaagmakhilaaGreatDoor
namespace Go.Proofs.YtlhhaagmakhilaaGreatDoor
open Go.AM
open Go.Proofs
open Go.Col (Str FaultC okF)
open Go.Tok
open Go.Cop
open Go.RowKit (Below)
set_option maxRecDepth 100000
def qay(h:AHeap):Option Buf->AHeap
 |none=>h
 |some b=>h.del b.blk
def WN(j:Nat):Option Buf->Prop
 |none=>True
 |some b=>j≠b.blk
theorem WY{h:AHeap}{tb:Option Buf}{j:Nat}{c:Blk}(hj:h j=some c)(hn:WN j tb):qay h tb j=some c:=by
 cases tb with
 |none=>exact hj
 |some b=>simp only[qay,AHeap.del,show j≠b.blk from hn,if_false];exact hj
theorem Wh{G:AHeap}{es j:Nat}{tb:Option Buf}{c:Blk}(hb:bufOk G es tb)(hj:G j=some c):WN j tb:=by
 cases tb with
 |none=>trivial
 |some b=>exact bufNe hb hj
theorem noBlk_new{h G:AHeap}{j:Nat}{tb:Option Buf}(hs:Sub (QY G tb) h)(hj:h j=none):WN j tb:=by
 cases tb with
 |none=>trivial
 |some b=>
  intro e;have:=hs b.blk _ (AHeap.set_same _ _ _);rw[<-e,hj]at this;cases this
theorem qca{A h:AHeap}{es:Nat}{tb:Option Buf}(hs:Sub A h)(hb:bufOk A es tb):Sub A (qay h tb):=fun j c hj=>WY (hs j c hj) (Wh hb hj)
theorem offB_le(h:AHeap)(tb:Option Buf):Sub (qay h tb) h:=by
 cases tb with
 |none=>exact Sub.refl _
 |some b=>
  intro j c hj;by_cases e:j=b.blk
  ·subst e;simp[qay,AHeap.del]at hj
  ·simpa[qay,AHeap.del,e]using hj
def UI(h:AHeap)(kx km:Nat)(nb:Option Buf):AHeap:=qay ((h.del kx).del km) nb
theorem base_at{h:AHeap}{kx km:Nat}{nb:Option Buf}{j:Nat}{c:Blk}(hj:h j=some c)(hx:j≠kx)(hm:j≠km)(hn:WN j nb):UI h kx km nb j=some c:=WY (by simp only[AHeap.del,hx,hm,if_false];exact hj) hn
section
variable {B h:AHeap} {kx km:Nat} {mv:AVal} {c cp:Nat} {es:List (Nat×Str)} {nb:Option Buf} {ns:List Str}
theorem base_ok(he:ExOk B kx km nb ns):ExOk (UI h kx km nb) kx km nb ns:=by
 have hk:∀j,(j=kx\/j=km)->UI h kx km nb j=none:=fun j hj=>by
  have:((h.del kx).del km) j=none:=by
   rcases hj with rfl|rfl
   ·by_cases e:j=km<;>simp[AHeap.del,e]
   ·simp[AHeap.del]
  cases hb:UI h kx km nb j with
  |none=>rfl
  |some d=>
   have:=offB_le _ _ j d hb;rw[‹((h.del kx).del km) j=none›]at this;cases this
 refine⟨hk km (.inr rfl),hk kx (.inl rfl),he.ne,fun M=>⟨(AHeap.set_ne _ _ he.ne.symm).trans (hk kx (.inl rfl)),fun X=>?_,(he.use M).eq⟩⟩;have h1:=(he.use M).ok X;cases nb with
 |none=>trivial
 |some b=>
  refine⟨?_,h1.2⟩;have h2:((B.set km M).set kx X) b.blk=none:=h1.1;have e1:b.blk≠kx:=fun e=>by rw[e,AHeap.set_same]at h2;cases h2
  rw[AHeap.set_ne _ _ e1]at h2;have e2:b.blk≠km:=fun e=>by rw[e,AHeap.set_same]at h2;cases h2
  refine(AHeap.set_ne _ _ e1).trans ((AHeap.set_ne _ _ e2).trans ?_);simp[UI,qay,AHeap.del]
theorem qds(he:ExOk B kx km nb ns){j:Nat}{d:Blk}(hj:B j=some d):j≠kx/\j≠km/\WN j nb:=by
 refine⟨(fun e=>by rw[e,he.bx]at hj;cases hj),(fun e=>by rw[e,he.bm]at hj;cases hj),?_⟩;have hne:j≠km:=fun e=>by rw[e,he.bm]at hj;cases hj
 have hnx:j≠kx:=fun e=>by rw[e,he.bx]at hj;cases hj
 exact Wh ((he.use ⟨[],0⟩).ok ⟨[],0⟩) ((AHeap.set_ne _ _ hnx).trans ((AHeap.set_ne _ _ hne).trans hj))
theorem qdr(he:ExOk B kx km nb ns)(hs:Sub (ZC B kx km mv c es nb cp) h){j:Nat}(hj:h j=none):j≠kx/\j≠km/\WN j nb:=by
 refine⟨fun e=>?_,fun e=>?_,noBlk_new hs hj⟩
 ·have:=hs _ _ (he.x (mv:=mv) (c:=c) (es:=es) (cp:=cp))
  rw[<-e,hj]at this;cases this
 ·have:=hs _ _ (he.m (mv:=mv) (c:=c) (es:=es) (cp:=cp))
  rw[<-e,hj]at this;cases this
theorem base_above(he:ExOk B kx km nb ns){B':AHeap}(hb:∀j d,B' j=some d->j≠kx/\j≠km/\WN j nb)(hs:Sub B' h):Sub B' (UI h kx km nb):=fun j d hj=>by
 obtain⟨h1,h2,h3⟩:=hb j d hj;exact base_at (hs j d hj) h1 h2 h3
theorem base_sub(he:ExOk B kx km nb ns)(hs:Sub (ZC B kx km mv c es nb cp) h):Sub (ZC (UI h kx km nb) kx km mv c es nb cp) h:=by
 have hx:=hs _ _ (he.x (mv:=mv) (c:=c) (es:=es) (cp:=cp));have hm:=hs _ _ (he.m (mv:=mv) (c:=c) (es:=es) (cp:=cp));have hn:∀b,nb=some b->h b.blk=some ⟨b.cells,0⟩:=fun b e=>by
  subst e;exact hs _ _ (AHeap.set_same _ _ _)
 have hle:Sub (UI h kx km nb) h:=(offB_le _ _).trans fun j d hj=>by
  by_cases e1:j=km
  ·subst e1;simp[AHeap.del]at hj
  ·by_cases e2:j=kx
   ·subst e2;simp[AHeap.del]at hj
   ·simpa[AHeap.del,e1,e2]using hj
 have hG:Sub (((UI h kx km nb).set km (Xt c (es.map opC))).set kx ⟨[mv, .map km,QT 1 nb, .int .i64 cp],0⟩) h:=fun j d hj=>by
  by_cases e2:j=kx
  ·subst e2
   rw[AHeap.set_same]at hj;rw[<-hj];exact hx
  ·rw[AHeap.set_ne _ _ e2]at hj
   by_cases e1:j=km
   ·subst e1
    rw[AHeap.set_same]at hj;rw[<-hj];exact hm
   ·rw[AHeap.set_ne _ _ e1]at hj
    exact hle j d hj
 unfold ZC qaH;cases nb with
 |none=>exact hG
 |some b=>
  intro j d hj;by_cases e:j=b.blk
  ·subst e
   rw[show QY (((UI h kx km (some b)).set km (Xt c (es.map opC))).set kx ⟨[mv, .map km,QT 1 (some b), .int .i64 cp],0⟩) (some b)=(((UI h kx km (some b)).set km (Xt c (es.map opC))).set kx ⟨[mv, .map km,QT 1 (some b), .int .i64 cp],0⟩).set b.blk ⟨b.cells,0⟩from rfl,AHeap.set_same]at hj;rw[<-hj];exact hn b rfl
  ·rw[show QY (((UI h kx km (some b)).set km (Xt c (es.map opC))).set kx ⟨[mv, .map km,QT 1 (some b), .int .i64 cp],0⟩) (some b)=(((UI h kx km (some b)).set km (Xt c (es.map opC))).set kx ⟨[mv, .map km,QT 1 (some b), .int .i64 cp],0⟩).set b.blk ⟨b.cells,0⟩from rfl,AHeap.set_ne _ _ e]at hj
   exact hG j d hj
end
section
variable {lim:Bool} {mem:List MemC} {op:List Str} {rec:List TokC->List Str->Xs->Xr} {l:List TokC}
theorem listGo_fuel:∀(f g i:Nat) (out:List TokC) (st:Xs),i<=l.length->l.length<f+i->l.length<g+i->Wt lim mem op rec l f i out st=Wt lim mem op rec l g i out st
 |0,g,i,out,st,hi,h1,_=>by omega
 |f+1,0,i,out,st,hi,_,h2=>by omega
 |f+1,g+1,i,out,st,hi,h1,h2=>by
  rw[Wt,Wt];simp only;split
  ·rfl
  ·rename_i hc
   have hcl:=copyAt_le hi;obtain⟨s1,s2,s3,s4⟩:=qaI (l:=l) (i:=Xu l i+1) (by omega);split
   ·rfl
   ·rename_i hok
    have h3:=s3 (by simpa using hok);cases WZ lim mem op rec (QG l (Xu l i+1)) st with
    |bad f'=>rfl
    |ok inner st'=>
     simp only;split
     ·rfl
     ·exact listGo_fuel f g _ _ _ s2 (by omega) (by omega)
def listR(lim:Bool)(mem:List MemC)(op:List Str)(rec:List TokC->List Str->Xs->Xr)(l:List TokC)(i:Nat)(out:List TokC)(st:Xs):Xr:=Wt lim mem op rec l (l.length+1-i) i out st
theorem listR_step{i:Nat}(hi:i<=l.length)(out:List TokC)(st:Xs):listR lim mem op rec l i out st=
 if l.length<=Xu l i then .ok (out++l.drop i) st
 else if (QG l (Xu l i+1)).ok=false then .bad (qcE l (Xu l i) (QG l (Xu l i+1)).at_)
 else match WZ lim mem op rec (QG l (Xu l i+1)) st with
  | .bad f=> .bad f
  | .ok inner st'=>if qai lim (out++Uw l i (Xu l i)++inner)=true then .bad ⟨3,(QG l (Xu l i+1)).name.line,(QG l (Xu l i+1)).name.col⟩else listR lim mem op rec l (QG l (Xu l i+1)).at_ (out++Uw l i (Xu l i)++inner) st':=by
 unfold listR;rw[show l.length+1-i=(l.length-i)+1 by omega,Wt];simp only;split
 ·rfl
 ·rename_i hc
  have hcl:=copyAt_le hi;obtain⟨s1,s2,s3,s4⟩:=qaI (l:=l) (i:=Xu l i+1) (by omega);split
  ·rfl
  ·rename_i hok
   have h3:=s3 (by simpa using hok);cases WZ lim mem op rec (QG l (Xu l i+1)) st with
   |bad f'=>rfl
   |ok inner st'=>
    simp only;split
    ·rfl
    ·exact listGo_fuel _ _ _ _ _ s2 (by omega) (by omega)
end
end Go.Proofs.YtlhhaagmakhilaaGreatDoor
namespace Go.Proofs.YtlhhaagmakhilaaGreatDoor
open Go.AM
open Go.Proofs
open Go.Col (Str FaultC okF)
open Go.Tok
open Go.Cop
open Go.RowKit (Below)
set_option maxRecDepth 100000
theorem bufOk_same{H H':AHeap}{es:Nat}{b:Option Buf}(hb:bufOk H es b)(hn:∀j,H j=none->H' j=none):bufOk H' es b:=by
 cases b with
 |none=>trivial
 |some b=>exact⟨hn _ hb.1,hb.2⟩
theorem bufOk_at{H H':AHeap}{es:Nat}{b:Option Buf}(hb:bufOk H es b)(hn:∀b',b=some b'->H' b'.blk=none):bufOk H' es b:=by
 cases b with
 |none=>trivial
 |some b=>exact⟨hn _ rfl,hb.2⟩
theorem WE{B B':AHeap}(hn:∀j,B j=none->B' j=none)(k:Nat)(c:Blk):∀j,B.set k c j=none->B'.set k c j=none:=fun j hj=>by
 by_cases e:j=k
 ·subst e;rw[AHeap.set_same]at hj;cases hj
 ·rw[AHeap.set_ne _ _ e]at hj|-
  exact hn j hj
theorem ExOk.same{B B':AHeap}{kx km:Nat}{nb:Option Buf}{ns:List Str}(he:ExOk B kx km nb ns)(hn:∀j,B j=none->B' j=none):ExOk B' kx km nb ns:=
 ⟨hn _ he.bm,hn _ he.bx,he.ne,fun M=>⟨WE hn km M _ (he.use M).bx,fun X=>bufOk_same ((he.use M).ok X) (WE (WE hn km M) kx X),(he.use M).eq⟩⟩
theorem expH_same{B B':AHeap}{kx km:Nat}{mv:AVal}{c cp:Nat}{es:List (Nat×Str)}{nb:Option Buf}(hn:∀j,B j=none->B' j=none):∀j,ZC B kx km mv c es nb cp j=none->ZC B' kx km mv c es nb cp j=none:=by
 have h1:=WE (WE hn km (Xt c (es.map opC))) kx ⟨[mv, .map km,QT 1 nb, .int .i64 cp],0⟩;unfold ZC qaH;cases nb with
 |none=>exact h1
 |some b=>exact WE h1 b.blk ⟨b.cells,0⟩
theorem swap_none{A:AHeap}{k:Nat}(X Y:Blk):∀j,A.set k X j=none->A.set k Y j=none:=fun j hj=>by
 by_cases e:j=k
 ·subst e;rw[AHeap.set_same]at hj;cases hj
 ·rw[AHeap.set_ne _ _ e]at hj|-
  exact hj
theorem sub_set_in{A B:AHeap}{k:Nat}{c:Blk}(hs:Sub A B)(hk:B k=some c):Sub (A.set k c) B:=fun j d hj=>by
 by_cases e:j=k
 ·subst e;rw[AHeap.set_same]at hj;rw[<-hj];exact hk
 ·rw[AHeap.set_ne _ _ e]at hj;exact hs j d hj
def hasB(h:AHeap)(tb:Option Buf):Prop:=∀b,tb=some b->h b.blk=some ⟨b.cells,0⟩
theorem hasB.mono{h h':AHeap}{tb:Option Buf}(hh:hasB h tb)(hs:Sub h h'):hasB h' tb:=fun b e=>hs _ _ (hh b e)
theorem hasB_buf(H:AHeap)(tb:Option Buf):hasB (QY H tb) tb:=fun b e=>by subst e;exact AHeap.set_same _ _ _
theorem hasB.set{h:AHeap}{tb:Option Buf}{j:Nat}(hh:hasB h tb)(hn:WN j tb)(c:Blk):hasB (h.set j c) tb:=fun b e=>by
 subst e;rw[AHeap.set_ne _ _ (Ne.symm hn)];exact hh b rfl
theorem noBlk_has{h:AHeap}{tb:Option Buf}{j:Nat}(hh:hasB h tb)(hj:h j=none):WN j tb:=by
 cases tb with
 |none=>trivial
 |some b=>
  intro e;have:=hh b rfl;rw[<-e,hj]at this;cases this
theorem offB_has{G h:AHeap}{es:Nat}{tb:Option Buf}(hb:bufOk G es tb)(hh:hasB h tb):bufOk (qay h tb) es tb/\Sub (QY (qay h tb) tb) h:=by
 cases tb with
 |none=>exact⟨trivial,Sub.refl _⟩
 |some b=>
  refine⟨⟨by simp[qay,AHeap.del],hb.2⟩,fun j c hj=>?_⟩;have h1:=hh b rfl;by_cases e:j=b.blk
  ·subst e
   rw[show QY (qay h (some b)) (some b)=(qay h (some b)).set b.blk ⟨b.cells,0⟩from rfl,AHeap.set_same]at hj;rw[<-hj];exact h1
  ·rw[show QY (qay h (some b)) (some b)=(qay h (some b)).set b.blk ⟨b.cells,0⟩from rfl,AHeap.set_ne _ _ e]at hj
   simpa[qay,AHeap.del,e]using hj
theorem bufOk_newE{B H E:AHeap}{es:Nat}{tb:Option Buf}(hb:bufOk B es tb)(hE:NewE B H E)(hh:hasB H tb):bufOk E es tb:=by
 cases tb with
 |none=>trivial
 |some b=>exact⟨hE.none (hh b rfl) hb.1,hb.2⟩
theorem ExOk.newE{B H E:AHeap}{kx km:Nat}{mv:AVal}{c cp:Nat}{es:List (Nat×Str)}{nb:Option Buf}{ns:List Str}(he:ExOk B kx km nb ns)(hE:NewE B H E)(hs:Sub (ZC B kx km mv c es nb cp) H):ExOk E kx km nb ns:=by
 have e1:E km=none:=hE.none (hs _ _ he.m) he.bm;have e2:E kx=none:=hE.none (hs _ _ he.x) he.bx;refine⟨e1,e2,he.ne,fun M=>⟨(AHeap.set_ne _ _ he.ne.symm).trans e2,fun X=>?_,(he.use M).eq⟩⟩;refine bufOk_at ((he.use M).ok X) fun b hb=>?_;subst hb;have h2:((B.set km M).set kx X) b.blk=none:=((he.use M).ok X).1;have q1:b.blk≠kx:=fun e=>by rw[e,AHeap.set_same]at h2;cases h2
 rw[AHeap.set_ne _ _ q1]at h2;have q2:b.blk≠km:=fun e=>by rw[e,AHeap.set_same]at h2;cases h2
 rw[AHeap.set_ne _ _ q2]at h2;exact(AHeap.set_ne _ _ q1).trans ((AHeap.set_ne _ _ q2).trans (hE.none (hs b.blk _ (AHeap.set_same _ _ _)) h2))
structure LsG where
 i:Nat
 c:Nat
 es:List (Nat×Str)
 nb:Option Buf
 st:Xs
 tb:Option Buf
 out:List TokC
structure LsOk(B:AHeap)(kx km k0 k1:Nat)(mv:AVal)(op:List Str)(l:List TokC)(R:Nat->List TokC->Xs->Xr)(X:Xr)(s:LsG):Prop where
 i:s.i<=l.length
 ex:∀Y,ExOk ((B.set k0 ⟨[.int .i64 0, .int .i64 0, .int .i64 0],0⟩).set k1 Y) kx km s.nb s.st.names
 op:s.es.map (·.2)=op
 ok:∀Y,bufOk (ZC ((B.set k0 ⟨[.int .i64 0, .int .i64 0, .int .i64 0],0⟩).set k1 Y) kx km mv s.c s.es s.nb s.st.copies) 5 s.tb
 eq:Uc s.tb=(s.out.map Xv).flatten
 len:s.out.length<=65536
 nm:s.st.names.length<=s.st.copies
 cp:s.st.copies<=4096
 go:R s.i s.out s.st=X
end Go.Proofs.YtlhhaagmakhilaaGreatDoor
namespace Go.Proofs.YtlhhaagmakhilaaGreatDoor
open Go.AM
open Go.Proofs
open Go.Col (Str FaultC okF)
open Go.Tok
open Go.Cop
open Go.RowKit (Below)
set_option maxRecDepth 100000
set_option maxHeartbeats 4000000 in
theorem c_listS(w0:World)(h B:AHeap)(kx km:Nat)(mv:AVal)(mems:List MemC)(op:List Str)(st:Xs)(v:AVal)(l:List TokC)(rec:List TokC->List Str->Xs->Xr)(hx:ExpR B kx km mv op st h)(hms:IsMems w0 B mv mems)(hml:mems.length<=1000000)(hmt:∀m∈mems,m.toks.length<=100000)
 (hv:IsL w0 B 5 v (l.map Xv)) (hl:l.length<=100000) (hst:st.names.length<=st.copies) (hst2:st.copies<=4096) (hop8:op.length<=8)
 (hrec:op.length<8->∀nm,RecOk w0 kx km mv mems (op++[nm]) rec):
 ACall Tryz.prog w0 32 [.ptr (.own kx) 0,v] h (ListR w0 B kx km mv op (Wt true mems op rec l (l.length+1) 0 [] st)):=by
 obtain⟨hfew,c,es,nb,he,hes,hsh⟩:=hx;have hmvs:mv.scal=true:=by obtain⟨qs,-,q2,-⟩:=hms;exact q2.scal
 have hmvl:=Yp hmvs;have hlv:=hv.live;have hvs:=hv.scal;have hSv:Sc v=True:=eq_true (isL_Sc hv);have nv:=Za hv;refine ACall.down hsh ?_;obtain⟨X,hX⟩:∃X,X=Wt true mems op rec l (l.length+1) 0 [] st:=⟨_,rfl⟩
 have hX0:listR true mems op rec l 0 [] st=X:=hX.symm;rw[<-hX];obtain⟨H,hH⟩:∃H,H=ZC B kx km mv c es nb st.copies:=⟨_,rfl⟩
 have hs_H:Sub B H:=by rw[hH];exact he.above
 have eb_x:H kx=some ⟨[mv, .map km,QT 1 nb, .int .i64 st.copies],0⟩:=by rw[hH];exact he.x
 have eb_m:H km=some (Xt c (es.map opC)):=by rw[hH];exact he.m
 have ne_x_m:kx≠km:=he.ne.symm;have hrvs:(AVal.bool true).scal=true:=rfl;have hrvl:(AVal.bool true).live=true:=rfl;have hbvl:(AVal.bool true).live=true:=rfl;have hbl:=Xm 5 none;have hbn:=Xm 1 nb;rw[<-hH];refine qR (n:=52) (rs:=[.tmp 4, .cell 5 35]) Tryz.func32 rfl rfl rfl rfl (Nat.le_of_ble_eq_true rfl) ?_;simp only[Qc];refine awp_rseq [0,1,5] (by rfl) fun K hK=>?_;simp+decide only[ev,qJ,qG,putD,Slots.put,if_false,true_and,↓qd,qb,Nat.zero_add];refine Qi qaF (cs:=[.int .i64 0, .int .i64 0, .int .i64 0]) (by rfl) fun k0q1 hk0q1=>?_;have hn_0q1:H k0q1=none:=by first|assumption|(simp only[AHeap.set_none]at hk0q1;simp only[hk0q1])
 have hf_0q1:B k0q1=none:=Sub.none hs_H hn_0q1;have ne_0q1_x:k0q1≠kx:=AHeap.ne_some hn_0q1 eb_x;have ne_0q1_m:k0q1≠km:=AHeap.ne_some hn_0q1 eb_m;simp+decide only[qa,putD,Slots.put,Slots.keep,if_true,if_false];apply hK;clear hK K;refine awp_rseq [0,5,6] (by rfl) fun K hK=>?_;simp+decide only[ev,qJ,qG,putD,Slots.put,Slots.get,if_true,if_false,true_and,↓qj,qf,↓Qn,↓qV,bld89_0,evP,List.map_cons,List.map_nil,hSv];refine Qi ze89 (cs:=[.nilSlice, .int .i64 0]) (by rfl) fun k1q2 hk1q2=>?_;have ne_1q2_0q1:k1q2≠k0q1:=by simp only[AHeap.set_none]at hk1q2;simp only[hk1q2,ne_eq,not_false_eq_true]
 have hn_1q2:H k1q2=none:=by first|assumption|(simp only[AHeap.set_none]at hk1q2;simp only[hk1q2])
 have hf_1q2:B k1q2=none:=Sub.none hs_H hn_1q2;have ne_1q2_x:k1q2≠kx:=AHeap.ne_some hn_1q2 eb_x;have ne_1q2_m:k1q2≠km:=AHeap.ne_some hn_1q2 eb_m;refine qm (by rfl) (by rfl) (by repeat (first|exact AHeap.set_same _ _ _|assumption|refine(AHeap.set_ne _ _ (by first|assumption|exact Ne.symm (by assumption))).trans ?_)) sz89 (by rfl) (by rfl) (by first|exact Nat.le_refl _|decide|(simp;done)|(simp;omega)) (Nat.zero_le _) (by first|rfl|(simp+decide only[ev,putD,Slots.put,Slots.get,if_true,if_false,AVal.cells,QF,Bool.and_true,hvs,XG])) ?_;simp only[AHeap.set_set,AVal.cells];simp+decide only[qa,ev,putD,Slots.put,Slots.get,Slots.keep,if_true,if_false,setAt,List.set_cons_zero,List.set_cons_succ,Nat.zero_add];apply hK;clear hK K;obtain⟨y1,y2⟩:=he.lay (mv:=mv) (c:=c) (es:=es) (cp:=st.copies) (j:=k0q1) (by rw[<-hH];exact hn_0q1) ⟨[.int .i64 0, .int .i64 0, .int .i64 0],0⟩;obtain⟨y3,y4⟩:=y2.lay (mv:=mv) (c:=c) (es:=es) (cp:=st.copies) (j:=k1q2) (by rw[<-y1,<-hH];exact(AHeap.set_ne _ _ ne_1q2_0q1).trans hn_1q2) ⟨[v, .int .i64 0],0⟩;refine awp_rseq [0,5,6,7] (by rfl) fun K hK=>?_;simp+decide only[qa,ev,qJ,qG,putD,Slots.put,Slots.keep,if_true,if_false,true_and,↓qd,qb];apply hK;clear hK K;refine QB ?_;refine XH [0,5,6,7] (fun s:LsG=>[(0, .ptr (.own kx) 0),(5, .ptr (.own k0q1) 0),(6, .ptr (.own k1q2) 0),(7,QT 5 s.tb)]) (fun s:LsG=>QY (ZC ((B.set k0q1 ⟨[.int .i64 0, .int .i64 0, .int .i64 0],0⟩).set k1q2 ⟨[v, .int .i64 s.i],0⟩) kx km mv s.c s.es s.nb s.st.copies) s.tb) (fun s:LsG=>LsOk B kx km k0q1 k1q2 mv op l (listR true mems op rec l) X s) (fun s:LsG=>l.length-s.i) ⟨0,c,es,nb,st,none,[]⟩ (by rfl) (by(show Sub (ZC _ _ _ _ _ _ _ _) _);rw[show((((0:Nat):Int)))=(0:Int)from rfl,<-y3,<-y1,<-hH];exact Sub.refl _) ⟨Nat.zero_le _,fun Y=>y4.same (swap_none _ _),hes,fun Y=>trivial,rfl,Nat.zero_le _,hst,hst2,hX0⟩ ?_;rintro⟨i,c,es,nb,st,tb,out⟩ ⟨g1,g2,g3,g4,g5,g6,g7,g8,g9⟩;simp only at g1 g2 g3 g4 g5 g6 g7 g8 g9|-
 have g2i:=g2 ⟨[v, .int .i64 i],0⟩;have g4i:=g4 ⟨[v, .int .i64 i],0⟩;obtain⟨G,hG⟩:∃G,G=(B.set k0q1 ⟨[.int .i64 0, .int .i64 0, .int .i64 0],0⟩).set k1q2 ⟨[v, .int .i64 i],0⟩:=⟨_,rfl⟩
 rw[<-hG]at g2i g4i|-
 have hBG:Sub B G:=by rw[hG];exact(by repeat (first|exact Sub.refl _|assumption|refine Sub.set_both ?_ _ _|refine Sub.trans_set ?_ (by repeat (first|assumption|refine(AHeap.set_ne _ _ (by first|assumption|exact Ne.symm (by assumption))).trans ?_))))
 have gb_0:G k0q1=some ⟨[.int .i64 0, .int .i64 0, .int .i64 0],0⟩:=by rw[hG];exact(by repeat (first|exact AHeap.set_same _ _ _|assumption|refine(AHeap.set_ne _ _ (by first|assumption|exact Ne.symm (by assumption))).trans ?_))
 have gb_1:G k1q2=some ⟨[v, .int .i64 i],0⟩:=by rw[hG];exact AHeap.set_same _ _ _
 obtain⟨H1,hH1⟩:∃H1,H1=QY (ZC G kx km mv c es nb st.copies) tb:=⟨_,rfl⟩
 have hbuf:Sub (ZC G kx km mv c es nb st.copies) H1:=by rw[hH1];exact Sub.buf g4i
 have hs_H1:Sub B H1:=(hBG.trans g2i.above).trans hbuf;have eb_x:H1 kx=some ⟨[mv, .map km,QT 1 nb, .int .i64 st.copies],0⟩:=hbuf _ _ g2i.x;have eb_m:H1 km=some (Xt c (es.map opC)):=hbuf _ _ g2i.m;have eb_0q1:H1 k0q1=some ⟨[.int .i64 0, .int .i64 0, .int .i64 0],0⟩:=hbuf _ _ (g2i.above _ _ gb_0);have eb_1q2:H1 k1q2=some ⟨[v, .int .i64 i],0⟩:=hbuf _ _ (g2i.above _ _ gb_1);have has1:hasB H1 tb:=by rw[hH1];exact hasB_buf _ _
 have heB:ExOk B kx km nb st.names:=g2i.down hBG;have hokB:bufOk (ZC B kx km mv c es nb st.copies) 5 tb:=g4i.sub (qcc hBG);have hokB0:bufOk B 5 tb:=hokB.sub heB.above;have hEB1:Sub (ZC B kx km mv c es nb st.copies) H1:=(qcc hBG).trans hbuf;have zB0:ZC B kx km mv c es nb st.copies k0q1=none:=g2i.off gb_0 hf_0q1;have zB1:ZC B kx km mv c es nb st.copies k1q2=none:=g2i.off gb_1 hf_1q2;have hbl:=Xm 5 tb;have hbn:=Xm 1 nb;have hstp:=listR_step (lim:=true) (mem:=mems) (op:=op) (rec:=rec) g1 out st;rw[g9]at hstp;rw[<-hH1];refine QB ?_;refine awp_rseq [0,5,6,7,8,9,10,11] (by rfl) fun K hK=>?_;refine QI (by rfl) (by rfl) (c_nextP w0 H1 B k1q2 v l i eb_1q2 hs_H1 hf_1q2 hv (by omega) g1) fun x3q0 h3q0 hx3q0=>?_;obtain⟨hsub3,j,eb_1q2,hj,hcase⟩:=hx3q0;have hcl:=copyAt_le g1;have hstm:Xu l i<l.length->_:=fun hc=>qaI (l:=l) (i:=Xu l i+1) (by omega);have hrps:=statement_reps l (Xu l i+1);obtain⟨ci,hci⟩:∃ci,ci=Xu l i:=⟨_,rfl⟩
 rw[<-hci]at hcase hcl hstm hrps hstp;obtain⟨sm,hsm⟩:∃sm,sm=QG l (ci+1):=⟨_,rfl⟩
 rw[<-hsm]at hcase hstm hrps hstp;obtain⟨bv,t,rv,more,f,E,rfl,hbvl,hrvs,hE3,hE3s,hcase⟩:∃bv t rv more f E,x3q0=nextV bv t rv more f/\bv.live=true/\rv.scal=true/\NewE B H1 E/\Sub E h3q0/\
  ((f≠okF/\X= .bad f)\/(f=okF/\more=false/\X= .ok (out++l.drop i) st/\IsL w0 B 5 bv ((l.drop i).map Xv))\/
   (f=okF/\more=true/\ci<l.length/\sm.ok=true/\t=sm.name/\j=sm.at_/\IsL w0 B 5 bv ((Uw l i ci).map Xv)/\IsReps w0 E rv sm.reps)):=by
  have hle:Sub B (H1.del k1q2):=qbA hs_H1 hf_1q2;rcases hcase with⟨z1,bv,rfl,z2⟩|⟨z1,z2,rfl⟩|⟨z1,z2,z3,bv,rv,E,rfl,z4,z5,z6,z7⟩
  ·rw[if_pos z1]at hstp
   exact⟨bv,_,_,_,_,B,rfl,z2.live,rfl,NewE.refl _ _,hle.trans hsub3, .inr (.inl ⟨rfl,rfl,hstp,z2⟩)⟩
  ·rw[if_neg (by omega),if_pos z2]at hstp
   exact⟨.nilSlice,_,_,_,_,B,rfl,rfl,rfl,NewE.refl _ _,hle.trans hsub3, .inl ⟨faultAt_ne _ _ _,hstp⟩⟩
  ·exact⟨bv,_,rv,_,_,E,rfl,z4.live,(by obtain⟨qs,-,q2,-⟩:=z7;exact q2.scal),z5,z6, .inr (.inr ⟨rfl,rfl,z1,z2,rfl,z3,z4,z7⟩)⟩
 have hrvl:=Yp hrvs;have hd:∀k d,H1 k=some d->k≠k1q2->h3q0 k=some d:=fun k d hk hn=>hsub3 k d (by simp only[AHeap.del,hn,if_false];exact hk);have eb_x:h3q0 kx=some ⟨[mv, .map km,QT 1 nb, .int .i64 st.copies],0⟩:=hd _ _ eb_x ne_1q2_x.symm;have eb_m:h3q0 km=some (Xt c (es.map opC)):=hd _ _ eb_m ne_1q2_m.symm;have eb_0q1:h3q0 k0q1=some ⟨[.int .i64 0, .int .i64 0, .int .i64 0],0⟩:=hd _ _ eb_0q1 ne_1q2_0q1.symm;have hs_h3q0:Sub B h3q0:=(qbA hs_H1 hf_1q2).trans hsub3;have hEB3:Sub (ZC B kx km mv c es nb st.copies) h3q0:=(qbA hEB1 zB1).trans hsub3;have has3:hasB h3q0 tb:=fun b e=>hd _ _ (has1 b e) (by subst e;exact Ne.symm (bufNe g4i (g2i.above _ _ gb_1)));unfold nextV stmC;simp+decide only[ev,putD,Slots.put,Slots.get,if_true,if_false,true_and,↓qj,qf,↓QJ,QA,QH,List.length_cons,List.length_nil,List.getD_cons_zero,List.getD_cons_succ,List.getD_cons_zero,List.getD_cons_succ,Nat.zero_add,Nat.reduceAdd,QS];refine Qi ze91 (cs:=[.int .u8 0, .str [], .int .i64 0, .int .i64 0, .bool false, .nilSlice]) (by rfl) fun k3q6 hk3q6=>?_;have hn_3q6:h3q0 k3q6=none:=by first|assumption|(simp only[AHeap.set_none]at hk3q6;simp only[hk3q6])
 have hf_3q6:B k3q6=none:=Sub.none hs_h3q0 hn_3q6;have ne_3q6_x:k3q6≠kx:=AHeap.ne_some hn_3q6 eb_x;have ne_3q6_m:k3q6≠km:=AHeap.ne_some hn_3q6 eb_m;have ne_3q6_0q1:k3q6≠k0q1:=AHeap.ne_some hn_3q6 eb_0q1;have ne_3q6_1q2:k3q6≠k1q2:=AHeap.ne_some hn_3q6 eb_1q2;refine Qi qaF (cs:=[.int .i64 0, .int .i64 0, .int .i64 0]) (by rfl) fun k3q7 hk3q7=>?_;have ne_3q7_3q6:k3q7≠k3q6:=by simp only[AHeap.set_none]at hk3q7;simp only[hk3q7,ne_eq,not_false_eq_true]
 have hn_3q7:h3q0 k3q7=none:=by first|assumption|(simp only[AHeap.set_none]at hk3q7;simp only[hk3q7])
 have hf_3q7:B k3q7=none:=Sub.none hs_h3q0 hn_3q7;have ne_3q7_x:k3q7≠kx:=AHeap.ne_some hn_3q7 eb_x;have ne_3q7_m:k3q7≠km:=AHeap.ne_some hn_3q7 eb_m;have ne_3q7_0q1:k3q7≠k0q1:=AHeap.ne_some hn_3q7 eb_0q1;have ne_3q7_1q2:k3q7≠k1q2:=AHeap.ne_some hn_3q7 eb_1q2;simp+decide only[ev,putD,Slots.put,Slots.get,if_true,if_false,true_and,↓qd,qb];refine qm (by rfl) (by rfl) (by repeat (first|exact AHeap.set_same _ _ _|assumption|refine(AHeap.set_ne _ _ (by first|assumption|exact Ne.symm (by assumption))).trans ?_)) Uv (by rfl) (by rfl) (by first|exact Nat.le_refl _|decide|(simp;done)|(simp;omega)) (Nat.zero_le _) (by first|rfl|(simp+decide only[ev,Slots.get,if_true,if_false,AVal.cells,QF,Bool.and_true,hrvs,XG,XN,Xz])) ?_;simp only[AVal.cells];simp+decide only[ev,putD,Slots.put,Slots.get,if_true,if_false,true_and,↓qd,qb,setAt,List.set_cons_zero,List.set_cons_succ,Nat.zero_add,Nat.reduceAdd];refine qm (by rfl) (by rfl) (by repeat (first|exact AHeap.set_same _ _ _|assumption|refine(AHeap.set_ne _ _ (by first|assumption|exact Ne.symm (by assumption))).trans ?_)) QD (by rfl) (by rfl) (by first|exact Nat.le_refl _|decide|(simp;done)|(simp;omega)) (Nat.zero_le _) (by first|rfl|(simp+decide only[ev,putD,Slots.put,Slots.get,if_true,if_false,AVal.cells,QF,Bool.and_true,Bool.true_and,hvs,hrvs,XG,XN,Xz])) ?_;simp only[AVal.cells];simp+decide only[qa,ev,putD,Slots.get,Slots.keep,if_true,if_false,setAt,List.set_cons_zero,List.set_cons_succ,Nat.zero_add,Nat.reduceAdd];apply hK;clear hK K;refine qO ?_;refine awp_rseq [0,5,6,7,8,9,10,11,23] (by rfl) fun K hK=>?_;simp+decide only[qa,ev,qJ,qG,putD,Slots.put,Slots.get,Slots.keep,if_true,if_false,true_and,↓qF,Qb,qg Xh QD,↓Qn,↓qV,ZI,evP,List.map_nil,↓qC,qo,qZ,cond_false,Yv,ne35,QV,qc,List.getD_cons_zero,List.getD_cons_succ,Nat.zero_add,Nat.reduceAdd,qh,allLive,Bool.and_true,WF];apply hK;clear hK K;refine qL (b:=_) rfl (fun hb1=>?_) (fun hb1=>?_)
 ·try simp only[decide_eq_false_iff_not,Bool.not_eq_true']at hb1
  have hXb:X= .bad f:=by
   rcases hcase with⟨-,z⟩|⟨z,-⟩|⟨z,-⟩
   ·exact z
   ·exact absurd z hb1
   ·exact absurd z hb1
  refine XU 2 [4,5] mixed (by kernel_rfl) (by rfl) (by rfl) fun K hK=>?_;simp+decide only[ev,qJ,qG,putD,Slots.put,Slots.get,if_true,if_false,true_and,↓qF,Qb,qg Xh QD,↓qd,qb,QV,qc,List.getD_cons_zero,List.getD_cons_succ,Nat.zero_add,Nat.reduceAdd,qh,allLive,Bool.and_true];refine qm (by rfl) (by rfl) (by repeat (first|exact AHeap.set_same _ _ _|assumption|refine(AHeap.set_ne _ _ (by first|assumption|exact Ne.symm (by assumption))).trans ?_)) QD (by rfl) (by rfl) (by first|exact Nat.le_refl _|decide|(simp;done)|(simp;omega)) (Nat.zero_le _) (by first|rfl|(simp+decide only[ev,putD,Slots.put,Slots.get,if_true,if_false,AVal.cells,QF,Bool.and_true,Bool.true_and,hvs,hrvs,XG,XN,Xz])) ?_;simp only[AVal.cells];simp+decide only[qa,ev,putD,Slots.get,Slots.keep,if_true,if_false,setAt,List.set_cons_zero,List.set_cons_succ,Nat.zero_add,Nat.reduceAdd];apply hK;clear hK K;refine qN ?_;try simp only[Qf,Qr]
  refine QN (?_) ?_
  ·simp+decide only[Qw,qp,qi,Slots.get,if_true,if_false,and_true,qp,qi,qg Xh QD,qW,qc,List.getD_cons_zero,List.getD_cons_succ,Nat.zero_add,Nat.reduceAdd,qh,allLive,Bool.and_true,qc,List.getD_cons_zero,List.getD_cons_succ,Nat.zero_add,Nat.reduceAdd,qh,allLive,Bool.and_true]
  simp+decide only[Slots.get,if_true,if_false,Xa,qp,qi,qg Xh QD,qW,qc,List.getD_cons_zero,List.getD_cons_succ,Nat.zero_add,Nat.reduceAdd,qh,allLive,Bool.and_true,qc,List.getD_cons_zero,List.getD_cons_succ,Nat.zero_add,Nat.reduceAdd,qh,allLive,Bool.and_true];have z36:=hEB3.none hn_3q6;have z37:=hEB3.none hn_3q7;exact⟨_,Sub.refl _,none,st, .nilSlice,f,trivial,⟨by omega,c,es,nb,heB,g3,(by repeat (first|exact Sub.refl _|assumption|refine Sub.set_both ?_ _ _|refine Sub.trans_set ?_ (by repeat (first|assumption|refine(AHeap.set_ne _ _ (by first|assumption|exact Ne.symm (by assumption))).trans ?_))))⟩,rfl, .inl ⟨hb1,hXb,rfl⟩⟩
 ·try simp only[decide_eq_true_eq,Bool.not_eq_false']at hb1
  obtain⟨hf0,bl,hbl5,hbll,hcase⟩:f=okF/\∃bl,IsL w0 B 5 bv (bl.map Xv)/\bl.length<=l.length/\((more=false/\X= .ok (out++bl) st)\/(more=true/\ci<l.length/\sm.ok=true/\t=sm.name/\j=sm.at_/\bl=Uw l i ci/\IsReps w0 E rv sm.reps)):=by
   rcases hcase with⟨z,-⟩|⟨z1,z2,z3,z4⟩|⟨z1,z2,z3,z4,z5,z6,z7,z8⟩
   ·exact absurd (by simpa using hb1) z
   ·exact⟨z1,_,z4,by rw[List.length_drop];omega, .inl ⟨z2,z3⟩⟩
   ·exact⟨z1,_,z7,cutT_len _ _ _, .inr ⟨z2,z3,z4,z5,z6,rfl,z8⟩⟩
  refine Qa ?_;change Awp _ _ _ _ _ _ _;obtain⟨C6,hC6⟩:∃C6,C6=(h3q0.set k3q6 ⟨[.int .u8 t.kind.toNat, .str t.text, .int .i64 t.line, .int .i64 t.col, .bool t.left,rv],0⟩).set k3q7 ⟨[.int .i64 f.e, .int .i64 f.line, .int .i64 f.col],0⟩:=⟨_,rfl⟩
  refine Awp.forget (h':=C6) (by rw[hC6];exact Sub.set_both (Sub.set_both (Sub.trans_set (Sub.set hn_3q6) hn_3q7) _ _) _ _) ?_;have h36:Sub h3q0 C6:=by rw[hC6];exact Sub.trans_set (Sub.set hn_3q6) hn_3q7
  have hs_C6:Sub B C6:=hs_h3q0.trans h36;have eb_x:C6 kx=some ⟨[mv, .map km,QT 1 nb, .int .i64 st.copies],0⟩:=h36 _ _ eb_x;have eb_m:C6 km=some (Xt c (es.map opC)):=h36 _ _ eb_m;have eb_0q1:C6 k0q1=some ⟨[.int .i64 0, .int .i64 0, .int .i64 0],0⟩:=h36 _ _ eb_0q1;have eb_1q2:C6 k1q2=some ⟨[v, .int .i64 j],0⟩:=h36 _ _ eb_1q2;have eb_3q6:C6 k3q6=some ⟨[.int .u8 t.kind.toNat, .str t.text, .int .i64 t.line, .int .i64 t.col, .bool t.left,rv],0⟩:=by rw[hC6];exact(by repeat (first|exact AHeap.set_same _ _ _|assumption|refine(AHeap.set_ne _ _ (by first|assumption|exact Ne.symm (by assumption))).trans ?_))
  have eb_3q7:C6 k3q7=some ⟨[.int .i64 f.e, .int .i64 f.line, .int .i64 f.col],0⟩:=by rw[hC6];exact AHeap.set_same _ _ _
  have has6:=has3.mono h36;obtain⟨of1,of2⟩:=offB_has g4i has6;have nb_x:WN kx tb:=Wh g4i g2i.x;have nb_m:WN km tb:=Wh g4i g2i.m;have nb_0:WN k0q1 tb:=Wh g4i (g2i.above _ _ gb_0);have nb_1:WN k1q2 tb:=Wh g4i (g2i.above _ _ gb_1);have nb_6:WN k3q6 tb:=noBlk_has has3 hn_3q6;have nb_7:WN k3q7 tb:=noBlk_has has3 hn_3q7;have of_x:=WY eb_x nb_x;have of_m:=WY eb_m nb_m;have of_0:=WY eb_0q1 nb_0;have of_1:=WY eb_1q2 nb_1;have of_6:=WY eb_3q6 nb_6;have of_7:=WY eb_3q7 nb_7;have of_B:Sub B (qay C6 tb):=qca hs_C6 hokB0;have of_E:Sub E (qay C6 tb):=qca (hE3s.trans h36) (bufOk_newE hokB0 hE3 has1);have of_X:Sub (ZC B kx km mv c es nb st.copies) (qay C6 tb):=qca (hEB3.trans h36) hokB;refine awp_rseq [0,5,6,7,9,10,11] (by rfl) fun K hK=>?_;simp+decide only[ev,putD,Slots.put,Slots.get,if_true,if_false,true_and,↓qj,qf];refine XY (es:=5) (zs:=out.map Xv) (xs:=bl.map Xv) (hZ:=qay C6 tb) (b:=tb) (by rfl) (by rfl) Tryz.underlying26 Tryz.underlying26 (fun k e=>by cases e) Xg by54 qby (by rfl) (by decide) (by rfl) of1 g5 Ya of2 (by rfl) (hbl5.mono hs_C6) (by rw[WB];intro z hz;obtain⟨t,_,rfl⟩:=List.mem_map.1 hz;rfl) (by simp;omega) (by simp;omega) fun tb2 h6 o1 o2 o3=>?_;have sub6:Sub (qay C6 tb) h6:=(Sub.buf o1).trans o3;have hs_h6:Sub B h6:=of_B.trans sub6;have eb_x:=sub6 _ _ of_x;have eb_m:=sub6 _ _ of_m;have eb_0q1:=sub6 _ _ of_0;have eb_1q2:=sub6 _ _ of_1;have eb_3q6:=sub6 _ _ of_6;have eb_3q7:=sub6 _ _ of_7;have hbl:=Xm 5 tb2;simp+decide only[qa,ev,putD,Slots.put,Slots.get,Slots.keep,if_true,if_false,true_and,↓qd,qb];apply hK;clear hK K;refine qO ?_;refine awp_rseq [0,5,6,7,9,11,29] (by rfl) fun K hK=>?_;simp+decide only[qa,ev,putD,Slots.put,Slots.get,Slots.keep,if_true,if_false,true_and,↓qj,qf,↓Yi,XE,ZY];apply hK;clear hK K;refine qL (b:=_) rfl (fun hb2=>?_) (fun hb2=>?_)
  ·try simp only[Bool.not_eq_true']at hb2
   have hXo:X= .ok (out++bl) st:=by
    rcases hcase with⟨-,z⟩|⟨z,-⟩
    ·exact z
    ·rw[z]at hb2;cases hb2
   refine awp_rseq [4,5] (by rfl) fun K hK=>?_;simp+decide only[ev,qJ,qG,putD,Slots.put,Slots.get,if_true,if_false,true_and,↓qj,qf,↓Qn,↓qV,ZI,evP,List.map_nil,↓qd,qb];refine qm (by rfl) (by rfl) (by repeat (first|exact AHeap.set_same _ _ _|assumption|refine(AHeap.set_ne _ _ (by first|assumption|exact Ne.symm (by assumption))).trans ?_)) QD (by rfl) (by rfl) (by first|exact Nat.le_refl _|decide|(simp;done)|(simp;omega)) (Nat.zero_le _) (by first|rfl|(simp+decide only[ev,putD,Slots.put,Slots.get,if_true,if_false,AVal.cells,QF,Bool.and_true,Bool.true_and,hvs,hrvs,XG,XN,Xz])) ?_;simp only[AVal.cells];simp+decide only[qa,ev,putD,Slots.get,Slots.keep,if_true,if_false,setAt,List.set_cons_zero,List.set_cons_succ,Nat.zero_add,Nat.reduceAdd];apply hK;clear hK K;refine qN ?_;try simp only[Qf,Qr]
   refine QN (?_) ?_
   ·simp+decide only[Qw,qp,qi,Slots.get,if_true,if_false,and_true,qp,qi,qg Xh QD,qW,qc,List.getD_cons_zero,List.getD_cons_succ,Nat.zero_add,Nat.reduceAdd,qh,allLive,Bool.and_true,qc,List.getD_cons_zero,List.getD_cons_succ,Nat.zero_add,Nat.reduceAdd,qh,allLive,Bool.and_true]
   simp+decide only[Slots.get,if_true,if_false,Xa,qp,qi,qg Xh QD,qW,qc,List.getD_cons_zero,List.getD_cons_succ,Nat.zero_add,Nat.reduceAdd,qh,allLive,Bool.and_true,qc,List.getD_cons_zero,List.getD_cons_succ,Nat.zero_add,Nat.reduceAdd,qh,allLive,Bool.and_true];obtain⟨e1,e2⟩:=heB.buf of_X o1;have hob:bufOk B 5 tb2:=o1.sub of_B;refine⟨_,Sub.refl _,tb2,st,QT 5 tb2,okF,hob,⟨by omega,c,es,nb,e2,g3,Sub.trans_set (by rw[e1];exact(Sub.bufBoth of_X).trans o3) (by rw[e1];exact bufH_off zB0 of_0 o1)⟩,rfl, .inr ⟨rfl,out++bl,hXo,?_,by rw[List.length_append];omega,g7,g8⟩⟩;exact IsL.buf (hob.sub (qda _)) (by decide) (by rw[o2,List.map_append,List.flatten_append]) Ya (Sub.refl _)
  ·try simp only[Bool.not_eq_false']at hb2
   obtain⟨m2,m3,rfl,m5,m6,hrp⟩:ci<l.length/\sm.ok=true/\t=sm.name/\j=sm.at_/\bl=Uw l i ci/\IsReps w0 E rv sm.reps:=by
    rcases hcase with⟨z,-⟩|⟨-,z⟩
    ·rw[z]at hb2;cases hb2
    ·exact z
   have hm0:=hstm m2;rw[if_neg (by omega),if_neg (by rw[m3];decide)]at hstp;obtain⟨Bc,hBc⟩:∃Bc,Bc=UI h6 kx km nb:=⟨_,rfl⟩
   have heBc:ExOk Bc kx km nb st.names:=by rw[hBc];exact base_ok heB
   have hsBc:Sub (ZC Bc kx km mv c es nb st.copies) h6:=by rw[hBc];exact base_sub heB (of_X.trans sub6)
   have bc_B:Sub B Bc:=by rw[hBc];exact base_above heB (fun j d hj=>qds heB hj) hs_h6
   have bc_E:Sub E Bc:=by rw[hBc];exact base_above heB (fun j d hj=>qds (heB.newE hE3 hEB1) hj) (of_E.trans sub6)
   have bc_0:Bc k0q1=some ⟨[.int .i64 0, .int .i64 0, .int .i64 0],0⟩:=by
    obtain⟨a1,a2,a3⟩:=qds g2i gb_0;rw[hBc];exact base_at eb_0q1 a1 a2 a3
   have bc_1:Bc k1q2=some ⟨[v, .int .i64 j],0⟩:=by
    obtain⟨a1,a2,a3⟩:=qds g2i gb_1;rw[hBc];exact base_at eb_1q2 a1 a2 a3
   have bc_6:Bc k3q6=some ⟨[.int .u8 sm.name.kind.toNat, .str sm.name.text, .int .i64 sm.name.line, .int .i64 sm.name.col, .bool sm.name.left,rv],0⟩:=by
    obtain⟨a1,a2,a3⟩:=qdr heB hEB3 hn_3q6;rw[hBc];exact base_at eb_3q6 a1 a2 a3
   have bc_7:Bc k3q7=some ⟨[.int .i64 f.e, .int .i64 f.line, .int .i64 f.col],0⟩:=by
    obtain⟨a1,a2,a3⟩:=qdr heB hEB3 hn_3q7;rw[hBc];exact base_at eb_3q7 a1 a2 a3
   have bc_tb:hasB Bc tb2:=fun b e=>by
    subst e;obtain⟨a1,a2,a3⟩:=qdr heB of_X o1.1;rw[hBc];exact base_at (o3 _ _ (AHeap.set_same _ _ _)) a1 a2 a3
   have nb2_x:WN kx tb2:=Wh o1 of_x;have nb2_m:WN km tb2:=Wh o1 of_m;have nb2_0:WN k0q1 tb2:=Wh o1 of_0;have nb2_1:WN k1q2 tb2:=Wh o1 of_1;have nb2_6:WN k3q6 tb2:=Wh o1 of_6;have nb2_7:WN k3q7 tb2:=Wh o1 of_7;refine Qa ?_;change Awp _ _ _ _ _ _ _;refine awp_rseq [0,5,6,7,9,11,12] (by rfl) fun K hK=>?_;simp+decide only[ev,putD,Slots.put,Slots.get,if_true,if_false,true_and,↓qj,qf,↓qF,Qb,qg qcO Uv,Qp w0 eb_3q6,qc,List.getD_cons_zero,List.getD_cons_succ,Nat.zero_add,Nat.reduceAdd,qB,qh,qE,allLive,Bool.and_true,hrvl];refine QI (by rfl) (by rfl) (c_member w0 h6 Bc kx km mv mems op st sm rv rec ⟨by omega,c,es,nb,heBc,g3,hsBc⟩ (hms.mono bc_B) hml hmt (hrp.mono bc_E) (fun x hx=>by have:=hrps.1 x hx;omega) (by have:=hrps.2;omega) hm0.2.2.2 g7 g8 hop8 (fun h8=>hrec h8 sm.name.text)) fun x9q2 h9q2 hx9q2=>?_;obtain⟨tb0,st2,bv2,bf,htb0,hxr,rfl,hcase2⟩:=hx9q2;obtain⟨B2,hB2⟩:∃B2,B2=QY Bc tb0:=⟨_,rfl⟩
   rw[<-hB2]at hxr;obtain⟨hfew2,c2,es2,nb2,he2,hop2,hs2⟩:=hxr;have hsB2:Sub Bc B2:=by rw[hB2];exact Sub.buf htb0
   have bB2:Sub B B2:=bc_B.trans hsB2;have hs2h:Sub B2 h9q2:=he2.above.trans hs2;have hs_h9q2:Sub B h9q2:=bB2.trans hs2h;have eb_x:h9q2 kx=some ⟨[mv, .map km,QT 1 nb2, .int .i64 st2.copies],0⟩:=hs2 _ _ he2.x;have eb_m:h9q2 km=some (Xt c2 (es2.map opC)):=hs2 _ _ he2.m;have eb_0q1:=hs2h _ _ (hsB2 _ _ bc_0);have eb_1q2:=hs2h _ _ (hsB2 _ _ bc_1);have eb_3q6:=hs2h _ _ (hsB2 _ _ bc_6);have eb_3q7:=hs2h _ _ (hsB2 _ _ bc_7);have heB2:ExOk B kx km nb2 st2.names:=he2.down bB2;have hEB9:Sub (ZC B kx km mv c2 es2 nb2 st2.copies) h9q2:=(qcc bB2).trans hs2;have y0:ZC B kx km mv c2 es2 nb2 st2.copies k0q1=none:=he2.off (hsB2 _ _ bc_0) hf_0q1;have y7:ZC B kx km mv c2 es2 nb2 st2.copies k3q7=none:=he2.off (hsB2 _ _ bc_7) hf_3q7;have has9:hasB h9q2 tb2:=bc_tb.mono (hsB2.trans hs2h);have hbv2l:bv2.live=true:=by
    rcases hcase2 with⟨-,-,w3⟩|⟨-,inn,-,w3,-⟩
    ·rw[w3];rfl
    ·exact w3.live
   simp+decide only[ev,putD,Slots.put,Slots.get,if_true,if_false,true_and,↓qj,qf,↓QJ,QA,QH,List.length_cons,List.length_nil,List.getD_cons_zero,List.getD_cons_succ,↓qd,qb,List.getD_cons_zero,List.getD_cons_succ,Nat.zero_add,Nat.reduceAdd,QS];refine qm (by rfl) (by rfl) (by repeat (first|exact AHeap.set_same _ _ _|assumption|refine(AHeap.set_ne _ _ (by first|assumption|exact Ne.symm (by assumption))).trans ?_)) QD (by rfl) (by rfl) (by first|exact Nat.le_refl _|decide|(simp;done)|(simp;omega)) (Nat.zero_le _) (by first|rfl|(simp+decide only[ev,putD,Slots.put,Slots.get,if_true,if_false,AVal.cells,QF,Bool.and_true,Bool.true_and,hvs,hrvs,XG,XN,Xz])) ?_;simp only[AVal.cells];simp+decide only[qa,ev,putD,Slots.get,Slots.keep,if_true,if_false,setAt,List.set_cons_zero,List.set_cons_succ,Nat.zero_add,Nat.reduceAdd];apply hK;clear hK K;refine qO ?_;refine awp_rseq [0,5,6,7,9,11,12,40] (by rfl) fun K hK=>?_;simp+decide only[qa,ev,qJ,qG,putD,Slots.put,Slots.get,Slots.keep,if_true,if_false,true_and,↓qF,Qb,qg Xh QD,↓Qn,↓qV,ZI,evP,List.map_nil,↓qC,qo,qZ,cond_false,Yv,ne35,QV,qc,List.getD_cons_zero,List.getD_cons_succ,Nat.zero_add,Nat.reduceAdd,qh,allLive,Bool.and_true,WF];apply hK;clear hK K;refine qL (b:=_) rfl (fun hb3=>?_) (fun hb3=>?_)
   ·try simp only[decide_eq_false_iff_not,Bool.not_eq_true']at hb3
    obtain⟨w1,w2,w3⟩:bf≠okF/\WZ true mems op rec sm st= .bad bf/\bv2= .nilSlice:=by
     rcases hcase2 with z|⟨z,-⟩
     ·exact z
     ·exact absurd z hb3
    rw[w2]at hstp;simp only at hstp;refine XU 2 [4,5] mixed (by kernel_rfl) (by rfl) (by rfl) fun K hK=>?_;simp+decide only[ev,qJ,qG,putD,Slots.put,Slots.get,if_true,if_false,true_and,↓qF,Qb,qg Xh QD,↓qd,qb,QV,qc,List.getD_cons_zero,List.getD_cons_succ,Nat.zero_add,Nat.reduceAdd,qh,allLive,Bool.and_true];refine qm (by rfl) (by rfl) (by repeat (first|exact AHeap.set_same _ _ _|assumption|refine(AHeap.set_ne _ _ (by first|assumption|exact Ne.symm (by assumption))).trans ?_)) QD (by rfl) (by rfl) (by first|exact Nat.le_refl _|decide|(simp;done)|(simp;omega)) (Nat.zero_le _) (by first|rfl|(simp+decide only[ev,putD,Slots.put,Slots.get,if_true,if_false,AVal.cells,QF,Bool.and_true,Bool.true_and,hvs,hrvs,XG,XN,Xz])) ?_;simp only[AVal.cells];simp+decide only[qa,ev,putD,Slots.get,Slots.keep,if_true,if_false,setAt,List.set_cons_zero,List.set_cons_succ,Nat.zero_add,Nat.reduceAdd];apply hK;clear hK K;refine qN ?_;try simp only[Qf,Qr]
    refine QN (?_) ?_
    ·simp+decide only[Qw,qp,qi,Slots.get,if_true,if_false,and_true,qp,qi,qg Xh QD,qW,qc,List.getD_cons_zero,List.getD_cons_succ,Nat.zero_add,Nat.reduceAdd,qh,allLive,Bool.and_true,qc,List.getD_cons_zero,List.getD_cons_succ,Nat.zero_add,Nat.reduceAdd,qh,allLive,Bool.and_true]
    simp+decide only[Slots.get,if_true,if_false,Xa,qp,qi,qg Xh QD,qW,qc,List.getD_cons_zero,List.getD_cons_succ,Nat.zero_add,Nat.reduceAdd,qh,allLive,Bool.and_true,qc,List.getD_cons_zero,List.getD_cons_succ,Nat.zero_add,Nat.reduceAdd,qh,allLive,Bool.and_true];exact⟨_,Sub.refl _,none,st2, .nilSlice,bf,trivial,⟨hfew2,c2,es2,nb2,heB2,hop2,Sub.trans_set (Sub.trans_set hEB9 y7) y0⟩,rfl, .inl ⟨w1,hstp,rfl⟩⟩
   ·try simp only[decide_eq_true_eq,Bool.not_eq_false']at hb3
    obtain⟨w1,inn,w2,w3,w4,w5,w6⟩:bf=okF/\∃inn,WZ true mems op rec sm st= .ok inn st2/\IsL w0 (QY (fun _=>none) tb0) 5 bv2 (inn.map Xv)/\inn.length<=200000/\st2.names.length<=st2.copies/\st2.copies<=4096:=by
     rcases hcase2 with⟨z,-⟩|z
     ·exact absurd (by simpa using hb3) z
     ·exact z
    rw[w2]at hstp;simp only at hstp;refine Qa ?_;change Awp _ _ _ _ _ _ _;obtain⟨C12,hC12⟩:∃C12,C12=h9q2.set k3q7 ⟨[.int .i64 bf.e, .int .i64 bf.line, .int .i64 bf.col],0⟩:=⟨_,rfl⟩
    refine Awp.forget (h':=C12) (by rw[hC12];exact Sub.refl _) ?_;have hs_C12:Sub B C12:=by rw[hC12];exact(by repeat (first|exact Sub.refl _|assumption|refine Sub.set_both ?_ _ _|refine Sub.trans_set ?_ (by repeat (first|assumption|refine(AHeap.set_ne _ _ (by first|assumption|exact Ne.symm (by assumption))).trans ?_))))
    have eb_x:C12 kx=some ⟨[mv, .map km,QT 1 nb2, .int .i64 st2.copies],0⟩:=by rw[hC12];exact(by repeat (first|exact AHeap.set_same _ _ _|assumption|refine(AHeap.set_ne _ _ (by first|assumption|exact Ne.symm (by assumption))).trans ?_))
    have eb_m:C12 km=some (Xt c2 (es2.map opC)):=by rw[hC12];exact(by repeat (first|exact AHeap.set_same _ _ _|assumption|refine(AHeap.set_ne _ _ (by first|assumption|exact Ne.symm (by assumption))).trans ?_))
    have eb_0q1:C12 k0q1=some ⟨[.int .i64 0, .int .i64 0, .int .i64 0],0⟩:=by rw[hC12];exact(by repeat (first|exact AHeap.set_same _ _ _|assumption|refine(AHeap.set_ne _ _ (by first|assumption|exact Ne.symm (by assumption))).trans ?_))
    have eb_1q2:C12 k1q2=some ⟨[v, .int .i64 j],0⟩:=by rw[hC12];exact(by repeat (first|exact AHeap.set_same _ _ _|assumption|refine(AHeap.set_ne _ _ (by first|assumption|exact Ne.symm (by assumption))).trans ?_))
    have eb_3q6:C12 k3q6=some ⟨[.int .u8 sm.name.kind.toNat, .str sm.name.text, .int .i64 sm.name.line, .int .i64 sm.name.col, .bool sm.name.left,rv],0⟩:=by rw[hC12];exact(AHeap.set_ne _ _ ne_3q7_3q6.symm).trans eb_3q6
    have has12:hasB C12 tb2:=by rw[hC12];exact has9.set nb2_7 _
    obtain⟨p1,p2⟩:=offB_has o1 has12;have pf_x:=WY eb_x nb2_x;have pf_m:=WY eb_m nb2_m;have pf_0:=WY eb_0q1 nb2_0;have pf_1:=WY eb_1q2 nb2_1;have pf_6:=WY eb_3q6 nb2_6;have w3':IsL w0 C12 5 bv2 (inn.map Xv):=w3.mono (fun j d hj=>by
     cases tb0 with
     |none=>cases hj
     |some b=>
      have hjb:j=b.blk:=by
       rcases Nat.decEq j b.blk with e|e
       ·rw[show QY (fun _=>none) (some b)=AHeap.set (fun _=>none) b.blk ⟨b.cells,0⟩from rfl,AHeap.set_ne _ _ e]at hj
        cases hj
       ·exact e
      have h7:j≠k3q7:=fun e=>by
       have:=htb0.1;rw[<-hjb,e,bc_7]at this;cases this
      rw[hC12,AHeap.set_ne _ _ h7];refine hs2h _ _ ?_;rw[hB2];exact Sub.bufBoth (qda _) _ _ hj)
    refine awp_rseq [0,5,6,7,9] (by rfl) fun K hK=>?_;simp+decide only[ev,putD,Slots.put,Slots.get,if_true,if_false,true_and,↓qj,qf];refine XY (es:=5) (zs:=(out++bl).map Xv) (xs:=inn.map Xv) (hZ:=qay C12 tb2) (b:=tb2) (by rfl) (by rfl) Tryz.underlying26 Tryz.underlying26 (fun k e=>by cases e) Xg by54 qby (by rfl) (by decide) (by rfl) p1 (by rw[o2,List.map_append]) Ya p2 (by rfl) w3' (by rw[WB];intro z hz;obtain⟨t,_,rfl⟩:=List.mem_map.1 hz;rfl) (by simp;omega) (by simp;omega) fun tb3 h12 o4 o5 o6=>?_;have sub12:Sub (qay C12 tb2) h12:=(Sub.buf o4).trans o6;have hs_h12:Sub B h12:=(qca hs_C12 (o1.sub of_B)).trans sub12;have eb_x:=sub12 _ _ pf_x;have eb_m:=sub12 _ _ pf_m;have eb_0q1:=sub12 _ _ pf_0;have eb_1q2:=sub12 _ _ pf_1;have eb_3q6:=sub12 _ _ pf_6;have hbl:=Xm 5 tb3;have nbl3:=Za (l:=out++bl++inn) (IsL.buf (w0:=w0) o4 (by decide) (by rw[o5,List.map_append (l₁:=out++bl)]) Ya (Sub.refl _));simp+decide only[qa,ev,putD,Slots.put,Slots.get,Slots.keep,if_true,if_false,true_and,↓qd,qb];apply hK;clear hK K;refine awp_rseq [0,5,6,7,9,47] (by rfl) fun K hK=>?_;simp+decide only[qa,ev,qJ,qG,putD,Slots.put,Slots.get,Slots.keep,if_true,if_false,true_and,↓qj,qf,↓XA,QK,↓qC,qo,qD,cond_false,qz,Ur,nbl3];apply hK;clear hK K;refine qL (b:=_) rfl (fun hb4=>?_) (fun hb4=>?_)
    ·try simp only[decide_eq_true_eq]at hb4
     rw[<-m6,if_pos (by unfold qai;rw[Bool.true_and,decide_eq_true_eq];omega)]at hstp;refine XU 5 [4,5] mixed (by kernel_rfl) (by rfl) (by rfl) fun K hK=>?_;simp+decide only[ev,qJ,qG,putD,Slots.put,Slots.get,if_true,if_false,true_and,↓qA,ql,fa91_0,fa54_2,↓qF,Qb,qg ag33 qaZ,↓Qn,↓qV,Ud,evP,List.map_cons,List.map_nil,↓qd,qb,Qp w0 eb_3q6,qc,List.getD_cons_zero,List.getD_cons_succ,Nat.zero_add,Nat.reduceAdd,qh,allLive,Bool.and_true];refine qm (by rfl) (by rfl) (by repeat (first|exact AHeap.set_same _ _ _|assumption|refine(AHeap.set_ne _ _ (by first|assumption|exact Ne.symm (by assumption))).trans ?_)) QD (by rfl) (by rfl) (by first|exact Nat.le_refl _|decide|(simp;done)|(simp;omega)) (Nat.zero_le _) (by first|rfl|(simp+decide only[ev,putD,Slots.put,Slots.get,if_true,if_false,AVal.cells,QF,Bool.and_true,Bool.true_and,hvs,hrvs,XG,XN,Xz])) ?_;simp only[AVal.cells];simp+decide only[qa,ev,putD,Slots.get,Slots.keep,if_true,if_false,setAt,List.set_cons_zero,List.set_cons_succ,Nat.zero_add,Nat.reduceAdd];apply hK;clear hK K;refine qN ?_;try simp only[Qf,Qr]
     refine QN (?_) ?_
     ·simp+decide only[Qw,qp,qi,Slots.get,if_true,if_false,and_true,qp,qi,qg Xh QD,qW,qc,List.getD_cons_zero,List.getD_cons_succ,Nat.zero_add,Nat.reduceAdd,qh,allLive,Bool.and_true,qc,List.getD_cons_zero,List.getD_cons_succ,Nat.zero_add,Nat.reduceAdd,qh,allLive,Bool.and_true]
     simp+decide only[Slots.get,if_true,if_false,Xa,qp,qi,qg Xh QD,qW,qc,List.getD_cons_zero,List.getD_cons_succ,Nat.zero_add,Nat.reduceAdd,qh,allLive,Bool.and_true,qc,List.getD_cons_zero,List.getD_cons_succ,Nat.zero_add,Nat.reduceAdd,qh,allLive,Bool.and_true];have hEB12:Sub (ZC B kx km mv c2 es2 nb2 st2.copies) (qay C12 tb2):=qca (by rw[hC12];exact Sub.trans_set hEB9 y7) (bufOk_at o1 fun b e=>he2.off (hsB2 _ _ (bc_tb b e)) (by subst e;exact of_B.none o1.1));exact⟨_,Sub.refl _,none,st2, .nilSlice,⟨3,sm.name.line,sm.name.col⟩,trivial,⟨hfew2,c2,es2,nb2,heB2,hop2,Sub.trans_set (hEB12.trans sub12) y0⟩,rfl, .inl ⟨fun e=>absurd (congrArg FaultC.e e) (by simp[okF]),hstp,rfl⟩⟩
    ·try simp only[decide_eq_false_iff_not]at hb4
     rw[<-m6,if_neg (by unfold qai;rw[Bool.true_and,decide_eq_true_eq];omega),<-m5]at hstp;refine Qa ?_;try simp only[Ql,Yy]
     have hG2:Sub ((B.set k0q1 ⟨[.int .i64 0, .int .i64 0, .int .i64 0],0⟩).set k1q2 ⟨[v, .int .i64 j],0⟩) B2:=sub_set_in (sub_set_in bB2 (hsB2 _ _ bc_0)) (hsB2 _ _ bc_1);have hGC:Sub (ZC ((B.set k0q1 ⟨[.int .i64 0, .int .i64 0, .int .i64 0],0⟩).set k1q2 ⟨[v, .int .i64 j],0⟩) kx km mv c2 es2 nb2 st2.copies) (qay C12 tb2):=by
      refine qca (by rw[hC12];exact Sub.trans_set ((qcc hG2).trans hs2) (he2.off (hsB2 _ _ bc_7) ((AHeap.set_ne _ _ ne_3q7_1q2).trans ((AHeap.set_ne _ _ ne_3q7_0q1).trans hf_3q7)))) (bufOk_at o1 fun b e=>he2.off (hsB2 _ _ (bc_tb b e)) ?_);subst e;exact(AHeap.set_ne _ _ (Ne.symm nb2_1)).trans ((AHeap.set_ne _ _ (Ne.symm nb2_0)).trans (of_B.none o1.1))
     exact⟨⟨j,c2,es2,nb2,st2,tb3,out++bl++inn⟩,rfl,(Sub.bufBoth hGC).trans o6,⟨hj,fun Y=>(he2.down hG2).same (swap_none _ _),hop2,fun Y=>bufOk_same (o4.sub hGC) (expH_same (swap_none _ _)),by rw[o5,List.map_append (l₁:=out++bl)],by simp only;omega,w5,w6,hstp.symm⟩,by simp only;omega⟩
end Go.Proofs.YtlhhaagmakhilaaGreatDoor
namespace Go.Proofs.YtlhhaagmakhilaaGreatDoor
open Go.AM
open Go.Proofs
open Go.Col (Str FaultC okF)
open Go.Tok
open Go.Cop
open Go.RowKit (Below)
set_option maxRecDepth 100000
theorem c_list(w0:World)(kx km:Nat)(mv:AVal)(mems:List MemC)(hml:mems.length<=1000000)(hmt:∀m∈mems,m.toks.length<=100000):∀(d:Nat) (op:List Str),8<=d+op.length->RecOk w0 kx km mv mems op (qcS true mems d)
 |0,op,hd=>fun h8 h B v l st hx hms hv hl h1 h2=>c_listS w0 h B kx km mv mems op st v l (fun _ _ st=> .ok [] st) hx hms hml hmt hv hl h1 h2 h8 (fun hlt=>by omega)
 |d+1,op,hd=>fun h8 h B v l st hx hms hv hl h1 h2=>c_listS w0 h B kx km mv mems op st v l (qcS true mems d) hx hms hml hmt hv hl h1 h2 h8 (fun hlt nm=>c_list w0 kx km mv mems hml hmt d (op++[nm]) (by rw[List.length_append,List.length_singleton];omega))
theorem okCapG{w0:World}{h:AHeap}{es:Nat}{v:AVal}{xs:List (List AVal)}(hes:0<es)(hb:IsL w0 h es v xs):(Ye v).okIn (fun k=>(h k).isSome):=by
 cases hb with
 |nil=>simp only[Ye,AVal.okIn]
 |mk l o n c xs hn hw hc hl hcap=>
  cases l with
  |base b=>simp only[Ye,AVal.okIn]
  |own k=>
   simp only[Ye,AVal.okIn];intro h0;cases hk:h k with
   |some b=>rfl
   |none=>
    obtain⟨m,rfl⟩:∃m,n=m+1:=⟨n-1,by omega⟩
    obtain⟨e,rfl⟩:∃e,es=e+1:=⟨es-1,by omega⟩
    rw[show(m+1)*(e+1)=(m*(e+1)+e)+1 by rw[Nat.succ_mul];omega,qc]at hc;rw[<-hc]at hl;simp[allLive,rd,hk,AVal.live]at hl
theorem sub_ebuf{H:AHeap}{tb:Option Buf}(hh:hasB H tb):Sub (QY (fun _=>none) tb) H:=fun j d hj=>by
 cases tb with
 |none=>cases hj
 |some b=>
  rcases Nat.decEq j b.blk with e|e
  ·rw[show QY (fun _=>none) (some b)=AHeap.set (fun _=>none) b.blk ⟨b.cells,0⟩from rfl,AHeap.set_ne _ _ e]at hj
   cases hj
  ·subst e
   rw[show QY (fun _=>none) (some b)=AHeap.set (fun _=>none) b.blk ⟨b.cells,0⟩from rfl,AHeap.set_same]at hj;rw[<-hj];exact hh b rfl
theorem nam_len{w0:World}{h:AHeap}{v:AVal}{l:List Str}(hv:IsL w0 h 1 v (l.map namC)):∀H:AHeap,ZE Tryz.prog H 30 v=⟨True, .int .i64 l.length⟩:=by
 have:=hv.len Tryz.underlying30
 rwa [List.length_map]at this
theorem c_clipN(w0:World)(h:AHeap)(v:AVal)(l:List Str)(hv:IsL w0 h 1 v (l.map namC)):ACall Tryz.prog w0 34 [v] h (fun r h'=>r=Ye v/\h'=h):=by
 have hlen:=nam_len hv;have h3:=hv.slice3 Tryz.underlying30 sz9 .i64 .i64 none rfl;rw[List.length_map]at h3;have hlv:=hv.live;refine qR (n:=9) (rs:=[.tmp 2]) Tryz.func34 rfl rfl rfl rfl (Nat.le_of_ble_eq_true rfl) ?_;simp only[Qc];refine awp_rseq [0] (by rfl) fun K hK=>?_;simp+decide only[qa,ev,qJ,qG,putD,Slots.put,Slots.keep,if_true,if_false,true_and,↓qd,qb];apply hK;clear hK K;refine awp_rseq [2] (by rfl) fun K hK=>?_;simp+decide only[qa,ev,putD,Slots.put,Slots.get,Slots.keep,if_true,if_false,true_and,↓qj,qf,↓XA,QK,↓UJ,ZK,evO,↓qd,qb,hlen,h3];apply hK;clear hK K;refine qN ?_;refine qU _ (Sub.refl _) (qY (Qe)) ?_;simp+decide only[Slots.get,if_true,and_true,Qv];all_goals first|rfl|exact⟨rfl,rfl⟩|(simp+decide only[if_true,if_false, *];done)|(trace_state;fail)
def ExpandR(w0:World)(h:AHeap)(x:Xr)(r:AVal)(h':AHeap):Prop:=
 ∃(ov nv:AVal) (f:FaultC),r= .tuple [ov,nv,QS f]/\Sub h h'/\Ye ov=ov/\Ye nv=nv/\((f≠okF/\x= .bad f/\ov= .nilSlice/\nv= .nilSlice)\/(f=okF/\∃out st,x= .ok out st/\IsL w0 h' 5 ov (out.map Xv)/\IsL w0 h' 1 nv (st.names.map namC)/\out.length<=200000/\st.names.length<=4096))
set_option maxHeartbeats 2000000 in
theorem qdG(w0:World)(h:AHeap)(lv mv:AVal)(l:List TokC)(mems:List MemC)(hlv:IsL w0 h 5 lv (l.map Xv))(hms:IsMems w0 h mv mems)(hl:l.length<=100000)(hml:mems.length<=1000000)(hmt:∀m∈mems,m.toks.length<=100000):
 ACall Tryz.prog w0 13 [lv,mv] h (ExpandR w0 h (Wu true l mems)):=by
 have hll:=hlv.live;obtain⟨qs,hqs,hq2,hq3⟩:=hms;have hmvs:=hq2.scal;have hmvl:=Yp hmvs;have hSm:Sc mv=True:=eq_true (isL_Sc hq2);have hSk:∀k,Sc (.map k)=True:=fun k=>eq_true trivial;have hbvl:(AVal.bool true).live=true:=rfl;have hbnl:(AVal.bool true).live=true:=rfl;have hccl:∀v:AVal,v.live=true->(Ye v).live=true:=fun v hv=>by cases v<;>exact hv
 have hc1:(AVal.bool true).live=true:=rfl;have hc2:(AVal.bool true).live=true:=rfl;obtain⟨X,hX⟩:∃X,X=Wu true l mems:=⟨_,rfl⟩
 rw[<-hX];refine qR (n:=28) (rs:=[.tmp 4, .tmp 5, .cell 6 35]) Tryz.func13 rfl rfl rfl rfl (Nat.le_of_ble_eq_true rfl) ?_;simp only[Qc];refine awp_rseq [0,1,6] (by rfl) fun K hK=>?_;simp+decide only[ev,qJ,qG,putD,Slots.put,if_false,true_and,↓qd,qb,Nat.zero_add];refine Qi qaF (cs:=[.int .i64 0, .int .i64 0, .int .i64 0]) (by rfl) fun k0q2 hk0q2=>?_;try have hf_0q2:h k0q2=none:=by first|assumption|(simp only[AHeap.set_none]at hk0q2;simp only[hk0q2])
 simp+decide only[qa,putD,Slots.put,Slots.keep,if_true,if_false];apply hK;clear hK K;refine awp_rseq [0,6,7] (by rfl) fun K hK=>?_;simp+decide only[ev,putD,Slots.put,Slots.get,if_true,if_false,true_and,↓qj,qf];refine aOps_makeMap fun k1q1 hk1q1=>?_;have ne_1q1_0q2:k1q1≠k0q2:=by simp only[AHeap.set_none]at hk1q1;simp only[hk1q1,ne_eq,not_false_eq_true]
 try have hf_1q1:h k1q1=none:=by first|assumption|(simp only[AHeap.set_none]at hk1q1;simp only[hk1q1])
 simp+decide only[ev,qJ,qG,putD,Slots.put,Slots.get,if_true,if_false,true_and,↓Qn,↓qV,bld76_0_1,evP,List.map_cons,List.map_nil,hSm,hSk];refine Qi ze76 (cs:=[.nilSlice, .nilMap, .nilSlice, .int .i64 0]) (by rfl) fun k1q3 hk1q3=>?_;have ne_1q3_0q2:k1q3≠k0q2:=by simp only[AHeap.set_none]at hk1q3;simp only[hk1q3,ne_eq,not_false_eq_true]
 have ne_1q3_1q1:k1q3≠k1q1:=by simp only[AHeap.set_none]at hk1q3;simp only[hk1q3,ne_eq,not_false_eq_true]
 try have hf_1q3:h k1q3=none:=by first|assumption|(simp only[AHeap.set_none]at hk1q3;simp only[hk1q3])
 refine qm (by rfl) (by rfl) (by repeat (first|exact AHeap.set_same _ _ _|assumption|refine(AHeap.set_ne _ _ (by first|assumption|exact Ne.symm (by assumption))).trans ?_)) sz76 (by rfl) (by rfl) (by first|exact Nat.le_refl _|decide|(simp;done)|(simp;omega)) (Nat.zero_le _) (by first|rfl|(simp+decide only[ev,putD,Slots.put,Slots.get,if_true,if_false,AVal.cells,QF,Bool.and_true,Bool.true_and,hmvs,XG,sc_map])) ?_;simp only[AHeap.set_set,AVal.cells];simp+decide only[qa,ev,putD,Slots.put,Slots.get,Slots.keep,if_true,if_false,setAt,List.set_cons_zero,List.set_cons_succ,Nat.zero_add,Nat.reduceAdd];apply hK;clear hK K;obtain⟨B,hB⟩:∃B,B=h.set k0q2 ⟨[.int .i64 0, .int .i64 0, .int .i64 0],0⟩:=⟨_,rfl⟩
 have hs_hB:Sub h B:=by rw[hB];exact Sub.set hf_0q2
 have b_m:B k1q1=none:=by rw[hB];exact(AHeap.set_ne _ _ ne_1q1_0q2).trans hf_1q1
 have b_x:B k1q3=none:=by rw[hB];exact(AHeap.set_ne _ _ ne_1q3_0q2).trans hf_1q3
 have b_0:B k0q2=some ⟨[.int .i64 0, .int .i64 0, .int .i64 0],0⟩:=by rw[hB];exact AHeap.set_same _ _ _
 have heB:ExOk B k1q3 k1q1 none []:=⟨b_m,b_x,ne_1q3_1q1.symm,fun M=>⟨(AHeap.set_ne _ _ ne_1q3_1q1).trans b_x,fun _=>trivial,rfl⟩⟩
 rw[<-hB];have hlist:=c_list w0 k1q3 k1q1 mv mems hml hmt 8 [] (by simp) (by simp);refine awp_rseq [6,7,8,9] (by rfl) fun K hK=>?_;simp+decide only[ev,putD,Slots.put,Slots.get,if_true,if_false,true_and,↓qj,qf];refine QI (by rfl) (by rfl) (hlist _ B lv l ⟨[],0⟩ ⟨Nat.zero_le _,0,[],none,heB,rfl,Sub.refl _⟩ ⟨qs,hqs,hq2.mono hs_hB,fun q hq=>(hq3 q hq).mono hs_hB⟩ (hlv.mono hs_hB) hl (Nat.le_refl _) (by decide)) fun x2q1 h2q1 hx2q1=>?_;obtain⟨tb,st,bv,bf,htb,⟨hfew,c2,es2,nb,he2,hop2,hs2⟩,rfl,hcase⟩:=hx2q1;rw[show qcS true mems 8 l [] ⟨[],0⟩=X from hX.symm]at hcase;have hs2h:Sub (QY B tb) h2q1:=he2.above.trans hs2;have hs_h2q1:Sub h h2q1:=(hs_hB.trans (Sub.buf htb)).trans hs2h;have eb_1q3:h2q1 k1q3=some ⟨[mv, .map k1q1,QT 1 nb, .int .i64 st.copies],0⟩:=hs2 _ _ he2.x;have eb_0q2:h2q1 k0q2=some ⟨[.int .i64 0, .int .i64 0, .int .i64 0],0⟩:=hs2h _ _ (ZN htb b_0);have hbvl:bv.live=true:=by
  rcases hcase with⟨-,-,w3⟩|⟨-,inn,-,w3,-⟩
  ·rw[w3];rfl
  ·exact w3.live
 have hbnl:=Xm 1 nb;have hc1:=hccl bv hbvl;have hc2:=hccl _ hbnl;simp+decide only[ev,putD,Slots.put,Slots.get,if_true,if_false,true_and,↓qj,qf,↓QJ,QA,QH,List.length_cons,List.length_nil,List.getD_cons_zero,List.getD_cons_succ,List.getD_cons_zero,List.getD_cons_succ,Nat.zero_add,Nat.reduceAdd,QS];refine Qi qaF (cs:=[.int .i64 0, .int .i64 0, .int .i64 0]) (by rfl) fun k2q5 hk2q5=>?_;have hn_2q5:h2q1 k2q5=none:=by first|assumption|(simp only[AHeap.set_none]at hk2q5;simp only[hk2q5])
 have hf_2q5:h k2q5=none:=Sub.none hs_h2q1 hn_2q5;have ne_2q5_1q3:k2q5≠k1q3:=AHeap.ne_some hn_2q5 eb_1q3;have ne_2q5_0q2:k2q5≠k0q2:=AHeap.ne_some hn_2q5 eb_0q2;simp+decide only[ev,putD,Slots.put,Slots.get,if_true,if_false,true_and,↓qd,qb];refine qm (by rfl) (by rfl) (by repeat (first|exact AHeap.set_same _ _ _|assumption|refine(AHeap.set_ne _ _ (by first|assumption|exact Ne.symm (by assumption))).trans ?_)) QD (by rfl) (by rfl) (by first|exact Nat.le_refl _|decide|(simp;done)|(simp;omega)) (Nat.zero_le _) (by first|rfl|(simp+decide only[ev,putD,Slots.put,Slots.get,if_true,if_false,AVal.cells,QF,Bool.and_true,Bool.true_and,hmvs,XG,XN,Xz,sc_map])) ?_;simp only[AHeap.set_set,AVal.cells];simp+decide only[qa,ev,putD,Slots.get,Slots.keep,if_true,if_false,setAt,List.set_cons_zero,List.set_cons_succ,Nat.zero_add,Nat.reduceAdd];apply hK;clear hK K;refine qO ?_;refine awp_rseq [6,7,8,9,20] (by rfl) fun K hK=>?_;simp+decide only[qa,ev,qJ,qG,putD,Slots.put,Slots.get,Slots.keep,if_true,if_false,true_and,↓qF,Qb,qg Xh QD,↓Qn,↓qV,ZI,evP,List.map_nil,↓qC,qo,qZ,cond_false,Yv,ne35,QV,qc,List.getD_cons_zero,List.getD_cons_succ,Nat.zero_add,Nat.reduceAdd,qh,allLive,Bool.and_true,WF];apply hK;clear hK K;refine qL (b:=_) rfl (fun hb1=>?_) (fun hb1=>?_)
 ·try simp only[decide_eq_false_iff_not,Bool.not_eq_true']at hb1
  have hXb:X= .bad bf:=by
   rcases hcase with⟨-,z,-⟩|⟨z,-⟩
   ·exact z
   ·exact absurd z hb1
  refine XU 3 [4,5,6] mixed (by kernel_rfl) (by rfl) (by rfl) fun K hK=>?_;simp+decide only[ev,qJ,qG,putD,Slots.put,Slots.get,if_true,if_false,true_and,↓qF,Qb,qg Xh QD,↓qd,qb,QV,qc,List.getD_cons_zero,List.getD_cons_succ,Nat.zero_add,Nat.reduceAdd,qh,allLive,Bool.and_true];refine qm (by rfl) (by rfl) (by repeat (first|exact AHeap.set_same _ _ _|assumption|refine(AHeap.set_ne _ _ (by first|assumption|exact Ne.symm (by assumption))).trans ?_)) QD (by rfl) (by rfl) (by first|exact Nat.le_refl _|decide|(simp;done)|(simp;omega)) (Nat.zero_le _) (by first|rfl|(simp+decide only[ev,putD,Slots.put,Slots.get,if_true,if_false,AVal.cells,QF,Bool.and_true,Bool.true_and,hmvs,XG,XN,Xz,sc_map])) ?_;simp only[AVal.cells];simp+decide only[qa,ev,putD,Slots.get,Slots.keep,if_true,if_false,setAt,List.set_cons_zero,List.set_cons_succ,Nat.zero_add,Nat.reduceAdd];apply hK;clear hK K;refine qN ?_;try simp only[Qf]
  refine QN (?_) ?_
  ·simp+decide only[Qw,qp,qi,Slots.get,if_true,if_false,and_true,qp,qi,qg Xh QD,qW,qc,List.getD_cons_zero,List.getD_cons_succ,Nat.zero_add,Nat.reduceAdd,qh,allLive,Bool.and_true,qc,List.getD_cons_zero,List.getD_cons_succ,Nat.zero_add,Nat.reduceAdd,qh,allLive,Bool.and_true]
  simp+decide only[Slots.get,if_true,if_false,Qz,qp,qi,qg Xh QD,qW,qc,List.getD_cons_zero,List.getD_cons_succ,Nat.zero_add,Nat.reduceAdd,qh,allLive,Bool.and_true,qc,List.getD_cons_zero,List.getD_cons_succ,Nat.zero_add,Nat.reduceAdd,qh,allLive,Bool.and_true];exact⟨_,Sub.refl _, .nilSlice, .nilSlice,bf,rfl,(by repeat (first|exact Sub.refl _|assumption|refine Sub.set_both ?_ _ _|refine Sub.trans_set ?_ (by repeat (first|assumption|refine(AHeap.set_ne _ _ (by first|assumption|exact Ne.symm (by assumption))).trans ?_)))),rfl,rfl, .inl ⟨hb1,hXb,rfl,rfl⟩⟩
 ·try simp only[decide_eq_true_eq,Bool.not_eq_false']at hb1
  obtain⟨hf0,inn,w2,w3,w4,w5,w6⟩:bf=okF/\∃inn,X= .ok inn st/\IsL w0 (QY (fun _=>none) tb) 5 bv (inn.map Xv)/\inn.length<=200000/\st.names.length<=st.copies/\st.copies<=4096:=by
   rcases hcase with⟨z,-⟩|z
   ·exact absurd (by simpa using hb1) z
   ·exact z
  have hasT:hasB h2q1 tb:=(hasB_buf B tb).mono hs2h;have hasN:hasB h2q1 nb:=(hasB_buf _ nb).mono hs2;have nT:WN k0q2 tb:=Wh htb b_0;have nN:WN k0q2 nb:=(qds he2 (ZN htb b_0)).2.2;have hun:=he2.use ⟨[],0⟩;have w7:IsL w0 (QY (fun _=>none) nb) 1 (QT 1 nb) (st.names.map namC):=IsL.buf ((hun.ok ⟨[],0⟩).sub (qda _)) (by decide) hun.eq namC_wide (Sub.refl _);have w3h:=w3.mono (sub_ebuf hasT);have w7h:=w7.mono (sub_ebuf hasN);refine Qa ?_;change Awp _ _ _ _ _ _ _;obtain⟨C5,hC5⟩:∃C5,C5=h2q1.set k2q5 ⟨[.int .i64 bf.e, .int .i64 bf.line, .int .i64 bf.col],0⟩:=⟨_,rfl⟩
  refine Awp.forget (h':=C5) (by rw[hC5];exact Sub.refl _) ?_;have hs_C5:Sub h C5:=by rw[hC5];exact(by repeat (first|exact Sub.refl _|assumption|refine Sub.set_both ?_ _ _|refine Sub.trans_set ?_ (by repeat (first|assumption|refine(AHeap.set_ne _ _ (by first|assumption|exact Ne.symm (by assumption))).trans ?_))))
  have eb_1q3:C5 k1q3=some ⟨[mv, .map k1q1,QT 1 nb, .int .i64 st.copies],0⟩:=by rw[hC5];exact(by repeat (first|exact AHeap.set_same _ _ _|assumption|refine(AHeap.set_ne _ _ (by first|assumption|exact Ne.symm (by assumption))).trans ?_))
  have eb_0q2:C5 k0q2=some ⟨[.int .i64 0, .int .i64 0, .int .i64 0],0⟩:=by rw[hC5];exact(by repeat (first|exact AHeap.set_same _ _ _|assumption|refine(AHeap.set_ne _ _ (by first|assumption|exact Ne.symm (by assumption))).trans ?_))
  have hs25:Sub h2q1 C5:=by rw[hC5];exact Sub.set hn_2q5
  have hok1:(Ye bv).okIn (fun k=>(C5 k).isSome):=okCapG (by decide) (w3h.mono hs25);have hok2:(Ye (QT 1 nb)).okIn (fun k=>(C5 k).isSome):=okCapG (by decide) (w7h.mono hs25);refine Ww 8 [] [4,5,6] mixed (by kernel_rfl) (by rfl) fun K hK=>?_;simp only[List.take_succ_cons,List.take_zero,List.drop_succ_cons,List.drop_zero];simp+decide only[ev,putD,Slots.put,Slots.get,if_true,if_false,true_and,↓Um,qf];refine qbo (V:=Ye bv) (by rfl) (by rfl) (by first|trivial|(simp+decide only[AVal.okIn,WM,and_true,true_and,QS,posA,AHeap.set_same,Option.isSome_some];done)|(simp[AVal.okIn,WM,AHeap.set];done)) (fun g hg=>c_clipT w0 _ _ (inn.map Xv) (w3h.mono (Sub.trans hs25 hg))) ?_;simp+decide only[ev,putD,Slots.put,Slots.get,if_true,if_false,true_and,↓Zu,ql,fa76_2,↓WH,Zr,qy ag30,Qp w0 eb_1q3,List.getD_cons_zero,List.getD_cons_succ,Nat.zero_add,hbnl];refine qbo (V:=Ye (QT 1 nb)) (by rfl) (by rfl) (by first|trivial|(simp+decide only[AVal.okIn,WM,and_true,true_and,QS,posA,AHeap.set_same,Option.isSome_some];done)|(simp[AVal.okIn,WM,AHeap.set];done)) (fun g hg=>c_clipN w0 _ _ st.names (w7h.mono (Sub.trans hs25 hg))) ?_;simp+decide only[YI,ev,qJ,qG,putD,Slots.put,Slots.get,if_true,if_false,true_and,↓qao,↓qV,ZI,evP,List.map_nil,↓fp_assign,qb];refine qm (by rfl) (by rfl) (by repeat (first|exact AHeap.set_same _ _ _|assumption|refine(AHeap.set_ne _ _ (by first|assumption|exact Ne.symm (by assumption))).trans ?_)) QD (by rfl) (by rfl) (by first|exact Nat.le_refl _|decide|(simp;done)|(simp;omega)) (Nat.zero_le _) (by first|rfl|(simp+decide only[ev,putD,Slots.put,Slots.get,if_true,if_false,AVal.cells,QF,Bool.and_true,Bool.true_and,hmvs,XG,XN,Xz,sc_map])) ?_;simp only[AVal.cells];simp+decide only[qa,ev,putD,Slots.get,Slots.keep,if_true,if_false,setAt,List.set_cons_zero,List.set_cons_succ,Nat.zero_add,Nat.reduceAdd];apply hK;clear hK K;refine qN ?_;refine QN (?_) ?_
  ·simp+decide only[Qw,qp,qi,Slots.get,if_true,if_false,and_true,qp,qi,qg Xh QD,qW,qc,List.getD_cons_zero,List.getD_cons_succ,Nat.zero_add,Nat.reduceAdd,qh,allLive,Bool.and_true,qc,List.getD_cons_zero,List.getD_cons_succ,Nat.zero_add,Nat.reduceAdd,qh,allLive,Bool.and_true]
  simp+decide only[Slots.get,if_true,if_false,Qz,qp,qi,qg Xh QD,qW,qc,List.getD_cons_zero,List.getD_cons_succ,Nat.zero_add,Nat.reduceAdd,qh,allLive,Bool.and_true,qc,List.getD_cons_zero,List.getD_cons_succ,Nat.zero_add,Nat.reduceAdd,qh,allLive,Bool.and_true];refine⟨_,Sub.refl _,Ye bv,Ye (QT 1 nb),okF,rfl,(by repeat (first|exact Sub.refl _|assumption|refine Sub.set_both ?_ _ _|refine Sub.trans_set ?_ (by repeat (first|assumption|refine(AHeap.set_ne _ _ (by first|assumption|exact Ne.symm (by assumption))).trans ?_)))),capL_twice _,capL_twice _, .inr ⟨rfl,inn,st,w2,?_,?_,w4,by omega⟩⟩
  ·exact(w3.mono (sub_ebuf ((hasT.mono hs25).set nT _))).clip
  ·exact(w7.mono (sub_ebuf ((hasN.mono hs25).set nN _))).clip
end Go.Proofs.YtlhhaagmakhilaaGreatDoor
namespace Go.Proofs.YtlhhaagmakhilaaGreatDoor
open Go.AM
open Go.Proofs
open Go.Col (Str FaultC okF)
open Go.Tok
open Go.Cop
open Go.RowKit (Below)
set_option maxRecDepth 100000
end Go.Proofs.YtlhhaagmakhilaaGreatDoor
namespace Go.Proofs.YtlhhaagmakhilaaGreatDoor
open Go.AM
open Go.Proofs
open Go.Col
open Go.Tok
open Go.RowKit (Below)
set_option maxRecDepth 100000
def qch:Str->Str
 |[]=>[]
 |b::s=>if b=34 then 34::34::qch s else b::qch s
theorem dblE_app:∀a b:Str,qch (a++b)=qch a++qch b
 |[],_=>rfl
 |x::a,b=>by
  rw[List.cons_append,qch,qch,dblE_app a b];split<;>rfl
theorem dblE_none:∀{a:Str},(34:UInt8)∉a->qch a=a
 |[],_=>rfl
 |x::a,h=>by
  simp only[List.mem_cons,not_or]at h;rw[qch,if_neg (fun e=>h.1 e.symm),dblE_none h.2]
theorem dblE_len(s:Str):(qch s).length<=2*s.length:=by
 induction s with
 |nil=>exact Nat.le_refl _
 |cons b s ih=>
  rw[qch];split<;>simp only[List.length_cons]<;>omega
theorem repl_eq:∀(n:Nat) (s:Str),s.length<=n->Lib.replaceK [34] [34,34] (Lib.count s [34]) s=qch s
 |0,s,h=>by
  have:s=[]:=List.eq_nil_of_length_eq_zero (by omega);subst this;rfl
 |n+1,s,h=>by
  rcases index_one s 34 with⟨h1,h2⟩|⟨i,h1,h2,h3,h4⟩
  ·rw[Lib.count_miss h1,dblE_none h2]
   rfl
  ·have hc:Lib.count s [34]=Lib.count (s.drop (i+1)) [34]+1:=by
    have:=Lib.count_hit (s:=s) (sub:=[34]) (i:=i) (by decide) h1;rw[this,Nat.add_comm];rfl
   rw[hc,Lib.replaceK_hit _ _ _ _ i h1];have ih:=repl_eq n (s.drop (i+1)) (by rw[List.length_drop];omega);show s.take i++[34,34]++Lib.replaceK [34] [34,34] (Lib.count (s.drop (i+1)) [34]) (s.drop (i+1))=_
   rw[ih];conv=>rhs;rw[h3,dblE_app,dblE_none h4,qch,if_pos rfl]
   simp
theorem repl_len(s:Str):Lib.count s [34]<=s.length:=by
 have:∀(n:Nat) (s:Str),s.length<=n->Lib.count s [34]<=s.length:=by
  intro n;induction n with
  |zero=>
   intro s h;have:s=[]:=List.eq_nil_of_length_eq_zero (by omega);subst this;exact Nat.le_refl _
  |succ n ih=>
   intro s h;rcases index_one s 34 with⟨h1,h2⟩|⟨i,h1,h2,h3,h4⟩
   ·rw[Lib.count_miss h1];exact Nat.zero_le _
   ·rw[Lib.count_hit (s:=s) (sub:=[34]) (i:=i) (by decide) h1]
    have:=ih (s.drop (i+[34].length)) (by rw[List.length_drop];simp;omega);rw[List.length_drop]at this;simp only[List.length_cons,List.length_nil]at this|-
    omega
 exact this _ s (Nat.le_refl _)
theorem c_dbl(w0:World)(hm:MaxL w0)(h:AHeap)(s:Str)(hl:s.length<=100000000):ACall Tryz.prog w0 54 [.str s, .str [34], .str [34,34]] h (fun v h'=>v= .str (qch s)/\h'=h):=by
 obtain⟨m,hm⟩:=hm;have hlt:0<w0.heap.size:=cell_lt hm;refine acall_of_callsB (vals:=[.string ⟨⟨s⟩⟩, .string ⟨⟨[34]⟩⟩, .string ⟨⟨[34,34]⟩⟩]) (val:= .string ⟨⟨qch s⟩⟩) Tryz.func54 rfl rfl (fun fi vs hv=>?_) (fun fi=>rfl) fun w hb=>?_
 ·simp only[VRs,VR]at hv
  obtain⟨v,vs',rfl,rfl,v2,vs2,rfl,rfl,v3,vs3,rfl,rfl,rfl⟩:=hv;rfl
 ·have hw:w.cell? ⟨0,0,none⟩=some (.int .i64 m):=(hb.cell (p:=⟨0,0,none⟩) hlt).trans hm
  have hcn:Lib.countB ⟨⟨s⟩⟩ ⟨⟨[34]⟩⟩<=s.length:=by
   have h1:=repl_len s;exact h1
  refine(Tryz.strings_ReplaceAll ⟨⟨s⟩⟩ ⟨⟨[34]⟩⟩ ⟨⟨[34,34]⟩⟩ m w (by show s.length<_;omega) hw (by decide) (by show s.length+_*2<=_;omega)).mono fun e w' ⟨e1,e2⟩=>⟨?_,e2⟩
  rw[e1];show Ending.returned (.string ⟨⟨Lib.replaceAll s [34] [34,34]⟩⟩)=_
  unfold Lib.replaceAll Lib.replace Lib.replaceNum;rw[if_neg (by decide),if_pos (.inl (by decide)),repl_eq _ _ (Nat.le_refl _)]
def UM(t:TokC):Str:=if t.kind=3 then 34::qch t.text++[34]else if t.kind=6 then[46]else if t.kind=7 then[61,61]else t.text
def textE(l:List TokC):Str:=Lib.join (l.map UM) [32]
theorem textT_len(t:TokC):(UM t).length<=2*t.text.length+2:=by
 have:=dblE_len t.text;unfold UM;split
 ·simp;omega
 split
 ·simp
 split
 ·simp
 ·omega
def strT(s:Str):List AVal:=[.str s]
structure TxtOk(h:AHeap)(l:List TokC)(g:Nat×Option Buf):Prop where
 i:g.1<=l.length
 ok:bufOk h 1 g.2
 eq:Uc g.2=((l.take g.1).map fun t=>strT (UM t)).flatten
theorem join_lenT{sep:Str}{m:Nat}:∀{l:List Str},(∀x∈l,x.length<=m)->(Lib.join l sep).length<=l.length*(m+sep.length)
 |[],_=>by simp[Lib.join]
 |[x],h=>by
  have:=h x (by simp);simp[Lib.join];omega
 |x::y::l,h=>by
  have ih:=join_lenT (sep:=sep) (l:=y::l) fun z hz=>h z (by simp[hz]);have hx:=h x (by simp);have e:Lib.join (x::y::l) sep=x++sep++Lib.join (y::l) sep:=by
   unfold Lib.join;rw[List.intercalate_cons_cons]
  rw[e];simp only[List.length_append];have:(x::y::l).length*(m+sep.length)=(y::l).length*(m+sep.length)+(m+sep.length):=by
   rw[List.length_cons,Nat.add_mul,Nat.one_mul]
  omega
set_option maxHeartbeats 1000000 in
theorem c_Text(w0:World)(hm:MaxL w0)(h:AHeap)(v:AVal)(l:List TokC)(hv:IsL w0 h 5 v (l.map Xv))(hl:l.length<=65536)(hb:∀t∈l,t.text.length<=100000000):
 ACall Tryz.prog w0 45 [v] h (fun r h'=>r= .str (textE l)/\h'=h):=by
 have hlv:=hv.live;have hlen:=Za hv;refine qR (n:=42) (rs:=[.tmp 2]) Tryz.func45 rfl rfl rfl rfl (Nat.le_of_ble_eq_true rfl) ?_;simp only[Qc];refine awp_rseq [0] (by rfl) fun K hK=>?_;simp+decide only[qa,ev,qJ,qG,putD,Slots.put,Slots.keep,if_true,if_false,true_and,↓qd,qb];apply hK;clear hK K;refine awp_rseq [0,3] (by rfl) fun K hK=>?_;simp+decide only[qa,ev,qJ,qG,putD,Slots.put,Slots.keep,if_true,if_false,true_and,↓qd,qb];apply hK;clear hK K;refine qO ?_;refine awp_rseq [3,6,7,8] (by rfl) fun K hK=>?_;simp+decide only[qa,ev,qJ,qG,putD,Slots.put,Slots.get,Slots.keep,if_true,if_false,true_and,↓qj,qf,↓XA,QK,hlen];apply hK;clear hK K;refine QB ?_;refine XH [3,6,7,8] (fun g:Nat×Option Buf=>[(3,QT 1 g.2),(6,v),(7, .int .i64 l.length),(8, .int .i64 g.1)]) (fun g:Nat×Option Buf=>QY h g.2) (fun g:Nat×Option Buf=>TxtOk h l g) (fun g:Nat×Option Buf=>l.length-g.1) (0,none) (by rfl) (Sub.refl _) ⟨Nat.zero_le _,trivial,rfl⟩ ?_;rintro⟨i,b⟩ ⟨g1,g2,g3⟩;simp only at g1 g2 g3|-
 have hbs:=Sub.buf g2;refine awp_rseq [3,6,7,8,9] (by rfl) fun K hK=>?_;simp+decide only[qa,ev,putD,Slots.put,Slots.get,Slots.keep,if_true,if_false,true_and,↓qC,qo,qZ,cond_false,qz,Zd];apply hK;clear hK K;refine qO (qL (b:=_) rfl (fun hb1=>?_) (fun hb1=>?_))
 ·try simp only[decide_eq_true_eq]at hb1
  have hi:i<l.length:=by omega
  obtain⟨lc,o,c,rfl⟩:=qan hv (by omega);obtain⟨e0,e1,e2,e3,e4⟩:=qcn (hv.mono hbs) hi;obtain⟨t,ht⟩:∃t,t=l.getD i UL:=⟨_,rfl⟩
  have htk:l.take (i+1)=l.take i++[t]:=by rw[List.take_add_one,List.getElem?_eq_getElem hi,ht];simp[List.getD,hi]
  rw[<-ht]at e0 e1 e2 e3 e4;have htb:=hb t (by rw[ht,List.getD,List.getElem?_eq_getElem hi];exact List.getElem_mem hi);have hdl:=dblE_len t.text;refine Qa ?_;change Awp _ _ _ _ _ _ _;refine qO ?_;refine QB ?_;refine awp_rseq [3,5,6,7,8] (by rfl) fun K hK=>?_;simp+decide only[ev,putD,Slots.put,Slots.get,if_true,if_false,true_and,↓Xi,Qb,Qs Tryz.underlying26 Xg,↓qF,qg Zz Xg,qc,qB,qh,qE,allLive,Bool.and_true,e0,e1,e2,e3,e4,Int.toNat_natCast];repeat (with_reducible refine And.intro ?_ ?_;· first|trivial|omega|(intro hg;simp only[Bool.and_eq_true,Bool.or_eq_true,Bool.not_eq_true',Bool.and_eq_false_iff,Bool.or_eq_false_iff,Bool.not_eq_false',decide_eq_true_eq,decide_eq_false_iff_not,Zt]at hg;omega)|(simp only[List.length_append,List.length_map,List.length_range,List.length_replicate,List.length_take,List.length_drop,List.length_cons,List.length_nil,List.length_set,List.length_reverse];omega))
  refine Qi qby (cs:=[.int .u8 0, .str [], .int .i64 0, .int .i64 0, .bool false]) (by rfl) fun k4q2 hk4q2=>?_;try have hf_4q2:h k4q2=none:=by first|assumption|(simp only[AHeap.set_none]at hk4q2;simp only[hk4q2])
  refine qm (by rfl) (by rfl) (by repeat (first|exact AHeap.set_same _ _ _|assumption|refine(AHeap.set_ne _ _ (by first|assumption|exact Ne.symm (by assumption))).trans ?_)) Xg (by rfl) (by rfl) (by first|exact Nat.le_refl _|decide|(simp;done)|(simp;omega)) (Nat.zero_le _) (by rfl) ?_;simp only[AHeap.set_set,AVal.cells];simp+decide only[qa,ev,putD,Slots.put,Slots.get,Slots.keep,if_true,if_false,setAt,List.set_cons_zero,List.set_cons_succ,Nat.zero_add,Nat.reduceAdd];apply hK;clear hK K;refine awp_rseq [3,5,6,7,8,13] (by rfl) fun K hK=>?_;simp+decide only[qa,ev,putD,Slots.put,Slots.get,Slots.keep,if_true,if_false,true_and,↓qA,ql,fa54_0,↓qF,Qb,qy ag52,QV,List.getD_cons_zero,Nat.zero_add,qh];apply hK;clear hK K;refine QB ?_;refine awp_rseq [3,5,6,7,8,13,19] (by rfl) fun K hK=>?_;simp+decide only[qa,ev,qJ,qG,putD,Slots.put,Slots.get,Slots.keep,if_true,if_false,true_and,↓qC,qo,qD,cond_false,qz,XD,↓qd,qb];apply hK;clear hK K;refine qL (b:=_) rfl (fun hb2=>?_) (fun hb2=>?_)
  ·try simp only[decide_eq_true_eq]at hb2
   have hk:t.kind=3:=(XP _ 3).mp hb2;have htx:UM t=[34]++qch t.text++[34]:=by unfold UM;rw[if_pos hk];rfl
   refine XK [3,6,7,8] (by rfl) ?_;simp+decide only[ev,putD,Slots.put,Slots.get,if_true,if_false,true_and,↓qj,qf,↓qA,ql,qae,↓qF,Qb,qy ag9,QV,List.getD_cons_zero,List.getD_cons_succ,Nat.zero_add,qE];refine qM (V:= .str (qch t.text)) (by rfl) (by rfl) (c_dbl w0 hm _ t.text htb) ?_;simp+decide only[ev,qJ,qG,putD,Slots.put,Slots.get,if_true,if_false,↓qC,qo,qZ,cond_false,Zp,pS_add,YP];repeat (with_reducible refine And.intro ?_ ?_;· first|trivial|omega|(intro hg;simp only[Bool.and_eq_true,Bool.or_eq_true,Bool.not_eq_true',Bool.and_eq_false_iff,Bool.or_eq_false_iff,Bool.not_eq_false',decide_eq_true_eq,decide_eq_false_iff_not,Zt]at hg;omega)|(simp only[List.length_append,List.length_cons,List.length_nil];omega))
   refine QC (cs:=[.str ([34]++qch t.text++[34])]) (by kernel_rfl) fun k8q6 hk8q6=>?_;have ne_8q6_4q2:k8q6≠k4q2:=by simp only[AHeap.set_none]at hk8q6;simp only[hk8q6,ne_eq,not_false_eq_true]
   try have hf_8q6:h k8q6=none:=by first|assumption|(simp only[AHeap.set_none]at hk8q6;simp only[hk8q6])
   refine XY (es:=1) (zs:=(l.take i).map fun t=>strT (UM t)) (xs:=[strT ([34]++qch t.text++[34])]) (hZ:=h) (b:=b) (by rfl) (by rfl) Tryz.underlying30 Tryz.underlying30 (fun k e=>by cases e) sz9 by9 ze9 (by rfl) (by decide) (by rfl) g2 g3 (fun y hy=>by obtain⟨d,_,rfl⟩:=List.mem_map.1 hy;rfl) ((Sub.set hk4q2).trans (Sub.set hk8q6)) (by rfl) (IsL.own (AHeap.set_same _ _ _) (by simp[strT]) (by rfl) (by rfl) (.exact 1) (Nat.le_refl _)) (by rfl) (by simp;omega) (by simp;omega) fun b' h5 o1 o2 o3=>?_;have hbl':=Xm 1 b';simp+decide only[qa,ev,putD,Slots.put,Slots.get,Slots.keep,if_true,if_false,true_and,↓qd,qb];change Awp _ _ _ _ _ _ _;refine XK [3,6,7,8] (by rfl) ?_;simp+decide only[qa,ev,qJ,qG,putD,Slots.put,Slots.get,Slots.keep,if_true,if_false,true_and,↓qC,qo,qD,cond_false,qz,Xf,↓qj,qf];try simp(disch:=omega)only[wrap_i64]
   try simp only[Ql]
   exact⟨(i+1,b'),rfl,o3,⟨hi,o1,by simp only;rw[o2,htk,List.map_append,List.map_cons,List.map_nil,htx]⟩,by simp only;omega⟩
  ·try simp only[decide_eq_false_iff_not]at hb2
   have hk3:¬t.kind=3:=fun q=>hb2 ((XP _ 3).mpr q);refine awp_rseq [3,5,6,7,8,13,29] (by rfl) fun K hK=>?_;simp+decide only[qa,ev,qJ,qG,putD,Slots.put,Slots.get,Slots.keep,if_true,if_false,true_and,↓qC,qo,qD,cond_false,qz,XD,↓qd,qb];apply hK;clear hK K;refine qL (b:=_) rfl (fun hb3=>?_) (fun hb3=>?_)
   ·try simp only[decide_eq_true_eq]at hb3
    have hk:t.kind=6:=(XP _ 6).mp hb3;have htx:UM t=[46]:=by unfold UM;rw[if_neg hk3,if_pos hk]
    refine XK [3,6,7,8] (by rfl) ?_;simp+decide only[ev,putD,Slots.put,Slots.get,if_true,if_false,true_and,↓qj,qf];refine QC (cs:=[.str ([46])]) (by kernel_rfl) fun k10q1 hk10q1=>?_;have ne_10q1_4q2:k10q1≠k4q2:=by simp only[AHeap.set_none]at hk10q1;simp only[hk10q1,ne_eq,not_false_eq_true]
    try have hf_10q1:h k10q1=none:=by first|assumption|(simp only[AHeap.set_none]at hk10q1;simp only[hk10q1])
    refine XY (es:=1) (zs:=(l.take i).map fun t=>strT (UM t)) (xs:=[strT ([46])]) (hZ:=h) (b:=b) (by rfl) (by rfl) Tryz.underlying30 Tryz.underlying30 (fun k e=>by cases e) sz9 by9 ze9 (by rfl) (by decide) (by rfl) g2 g3 (fun y hy=>by obtain⟨d,_,rfl⟩:=List.mem_map.1 hy;rfl) ((Sub.set hk4q2).trans (Sub.set hk10q1)) (by rfl) (IsL.own (AHeap.set_same _ _ _) (by simp[strT]) (by rfl) (by rfl) (.exact 1) (Nat.le_refl _)) (by rfl) (by simp;omega) (by simp;omega) fun b' h5 o1 o2 o3=>?_;have hbl':=Xm 1 b';simp+decide only[qa,ev,putD,Slots.put,Slots.get,Slots.keep,if_true,if_false,true_and,↓qd,qb];change Awp _ _ _ _ _ _ _;refine XK [3,6,7,8] (by rfl) ?_;simp+decide only[qa,ev,qJ,qG,putD,Slots.put,Slots.get,Slots.keep,if_true,if_false,true_and,↓qC,qo,qD,cond_false,qz,Xf,↓qj,qf];try simp(disch:=omega)only[wrap_i64]
    try simp only[Ql]
    exact⟨(i+1,b'),rfl,o3,⟨hi,o1,by simp only;rw[o2,htk,List.map_append,List.map_cons,List.map_nil,htx]⟩,by simp only;omega⟩
   ·try simp only[decide_eq_false_iff_not]at hb3
    have hk6:¬t.kind=6:=fun q=>hb3 ((XP _ 6).mpr q);refine awp_rseq [3,5,6,7,8,34] (by rfl) fun K hK=>?_;simp+decide only[qa,ev,qJ,qG,putD,Slots.put,Slots.get,Slots.keep,if_true,if_false,true_and,↓qC,qo,qD,cond_false,qz,XD,↓qd,qb];apply hK;clear hK K;refine qL (b:=_) rfl (fun hb4=>?_) (fun hb4=>?_)
    ·try simp only[decide_eq_true_eq]at hb4
     have hk:t.kind=7:=(XP _ 7).mp hb4;have htx:UM t=[61,61]:=by unfold UM;rw[if_neg hk3,if_neg hk6,if_pos hk]
     refine XK [3,6,7,8] (by rfl) ?_;simp+decide only[ev,putD,Slots.put,Slots.get,if_true,if_false,true_and,↓qj,qf];refine QC (cs:=[.str ([61,61])]) (by kernel_rfl) fun k12q1 hk12q1=>?_;have ne_12q1_4q2:k12q1≠k4q2:=by simp only[AHeap.set_none]at hk12q1;simp only[hk12q1,ne_eq,not_false_eq_true]
     try have hf_12q1:h k12q1=none:=by first|assumption|(simp only[AHeap.set_none]at hk12q1;simp only[hk12q1])
     refine XY (es:=1) (zs:=(l.take i).map fun t=>strT (UM t)) (xs:=[strT ([61,61])]) (hZ:=h) (b:=b) (by rfl) (by rfl) Tryz.underlying30 Tryz.underlying30 (fun k e=>by cases e) sz9 by9 ze9 (by rfl) (by decide) (by rfl) g2 g3 (fun y hy=>by obtain⟨d,_,rfl⟩:=List.mem_map.1 hy;rfl) ((Sub.set hk4q2).trans (Sub.set hk12q1)) (by rfl) (IsL.own (AHeap.set_same _ _ _) (by simp[strT]) (by rfl) (by rfl) (.exact 1) (Nat.le_refl _)) (by rfl) (by simp;omega) (by simp;omega) fun b' h5 o1 o2 o3=>?_;have hbl':=Xm 1 b';simp+decide only[qa,ev,putD,Slots.put,Slots.get,Slots.keep,if_true,if_false,true_and,↓qd,qb];change Awp _ _ _ _ _ _ _;refine XK [3,6,7,8] (by rfl) ?_;simp+decide only[qa,ev,qJ,qG,putD,Slots.put,Slots.get,Slots.keep,if_true,if_false,true_and,↓qC,qo,qD,cond_false,qz,Xf,↓qj,qf];try simp(disch:=omega)only[wrap_i64]
     try simp only[Ql]
     exact⟨(i+1,b'),rfl,o3,⟨hi,o1,by simp only;rw[o2,htk,List.map_append,List.map_cons,List.map_nil,htx]⟩,by simp only;omega⟩
    ·try simp only[decide_eq_false_iff_not]at hb4
     have hk7:¬t.kind=7:=fun q=>hb4 ((XP _ 7).mpr q);have htx:UM t=t.text:=by unfold UM;rw[if_neg hk3,if_neg hk6,if_neg hk7]
     refine XK [3,6,7,8] (by rfl) ?_;simp+decide only[ev,putD,Slots.put,Slots.get,if_true,if_false,true_and,↓qj,qf,↓qA,ql,qae,↓qF,Qb,qy ag9,QV,List.getD_cons_zero,List.getD_cons_succ,Nat.zero_add,qE];refine QC (cs:=[.str (t.text)]) (by kernel_rfl) fun k6q3 hk6q3=>?_;have ne_6q3_4q2:k6q3≠k4q2:=by simp only[AHeap.set_none]at hk6q3;simp only[hk6q3,ne_eq,not_false_eq_true]
     try have hf_6q3:h k6q3=none:=by first|assumption|(simp only[AHeap.set_none]at hk6q3;simp only[hk6q3])
     refine XY (es:=1) (zs:=(l.take i).map fun t=>strT (UM t)) (xs:=[strT (t.text)]) (hZ:=h) (b:=b) (by rfl) (by rfl) Tryz.underlying30 Tryz.underlying30 (fun k e=>by cases e) sz9 by9 ze9 (by rfl) (by decide) (by rfl) g2 g3 (fun y hy=>by obtain⟨d,_,rfl⟩:=List.mem_map.1 hy;rfl) ((Sub.set hk4q2).trans (Sub.set hk6q3)) (by rfl) (IsL.own (AHeap.set_same _ _ _) (by simp[strT]) (by rfl) (by rfl) (.exact 1) (Nat.le_refl _)) (by rfl) (by simp;omega) (by simp;omega) fun b' h5 o1 o2 o3=>?_;have hbl':=Xm 1 b';simp+decide only[qa,ev,putD,Slots.put,Slots.get,Slots.keep,if_true,if_false,true_and,↓qd,qb];change Awp _ _ _ _ _ _ _;refine XK [3,6,7,8] (by rfl) ?_;simp+decide only[qa,ev,qJ,qG,putD,Slots.put,Slots.get,Slots.keep,if_true,if_false,true_and,↓qC,qo,qD,cond_false,qz,Xf,↓qj,qf];try simp(disch:=omega)only[wrap_i64]
     try simp only[Ql]
     exact⟨(i+1,b'),rfl,o3,⟨hi,o1,by simp only;rw[o2,htk,List.map_append,List.map_cons,List.map_nil,htx]⟩,by simp only;omega⟩
 ·try simp only[decide_eq_false_iff_not]at hb1
  refine XL ?_;change Awp _ _ _ _ _ _ _;have hie:i=l.length:=by omega
  rw[hie,List.take_length]at g3;have hst:IsStrs w0 (QY h b) (QT 1 b) (l.map UM):=by
   have:=IsL.buf (w0:=w0) g2 (by decide) g3 (by simp[strT]) (h:=QY h b) (Sub.refl _);unfold IsStrs;rw[List.map_map];exact this
  have hjl:(Lib.join (l.map UM) [32]).length<=140737488355328:=by
   refine Nat.le_trans (join_lenT (m:=200000002) fun y hy=>?_) ?_
   ·obtain⟨d,hd,rfl⟩:=List.mem_map.1 hy
    have h1:=textT_len d;have h2:=hb d hd;omega
   ·rw[List.length_map]
    exact Nat.le_trans (Nat.mul_le_mul_right _ hl) (by decide)
  refine awp_rseq [2] (by rfl) fun K hK=>?_;simp+decide only[ev,putD,Slots.put,Slots.get,if_true,if_false,true_and,↓qj,qf];refine qM (V:= .str (textE l)) (by rfl) (by rfl) (c_join w0 _ _ _ _ hst (by simp;omega) hjl) ?_;simp+decide only[qa,ev,putD,Slots.put,Slots.get,Slots.keep,if_true,if_false,true_and,↓qd,qb];apply hK;clear hK K;refine qN ?_;refine qU h hbs (qY (Qe)) ?_;simp+decide only[Slots.get,if_true,and_true,Qv];all_goals first|rfl|exact⟨rfl,rfl⟩|(simp+decide only[if_true,if_false, *];done)|(trace_state;fail)
end Go.Proofs.YtlhhaagmakhilaaGreatDoor
namespace Go.Proofs.YtlhhaagmakhilaaGreatDoor
open Go.AM
open Go.Proofs
open Go.Col (Str FaultC okF sp)
open Go.Tok
open Go.Cop
open Go.RowKit (Below)
set_option maxRecDepth 100000
theorem capV_live(tb:Option Buf):(Ye (QT 5 tb)).live=true:=by cases tb<;>rfl
theorem capV_Sc(tb:Option Buf):Sc (Ye (QT 5 tb))=True:=by cases tb<;>exact eq_true trivial
theorem qcL(w0:World)(hm:MaxL w0)(h:AHeap)(s:Str)(hl:s.length<=1000000):ACall Tryz.prog w0 20 [.str s] h (fun r h'=>OutR h (qaD s) r h'):=by
 have hsp:(sp 11++s).length<=9223372036854775807:=by simp[sp];omega
 have hcl:=capV_live none;refine qR (n:=12) (rs:=[.tmp 2]) Tryz.func20 rfl rfl rfl rfl (Nat.le_of_ble_eq_true rfl) ?_;simp only[Qc];refine awp_rseq [0] (by rfl) fun K hK=>?_;simp+decide only[qa,ev,qJ,qG,putD,Slots.put,Slots.keep,if_true,if_false,true_and,↓qd,qb];apply hK;clear hK K;refine awp_rseq [3] (by rfl) fun K hK=>?_;simp+decide only[ev,qJ,qG,putD,Slots.put,Slots.get,if_true,if_false,true_and,↓qj,qf,↓qC,qo,qZ,cond_false,Zp,pS_add];repeat (with_reducible refine And.intro ?_ ?_;· first|trivial|omega|(intro hg;simp only[Bool.and_eq_true,Bool.or_eq_true,Bool.not_eq_true',Bool.and_eq_false_iff,Bool.or_eq_false_iff,Bool.not_eq_false',decide_eq_true_eq,decide_eq_false_iff_not,Zt]at hg;omega)|(simp only[List.length_cons,List.length_nil];omega))
 refine QI (by rfl) (by rfl) (c_Source w0 hm _ (sp 11++s) false hsp) fun x1q2 h1q2 hx1q2=>?_;obtain⟨tb,rfl,o1,o2,hh1⟩:=hx1q2;have hs1:Sub h h1q2:=by rw[hh1];exact Sub.buf o1
 have hcl:=capV_live tb;have hs_h1q2:Sub h h1q2:=Sub.trans (by repeat (first|exact Sub.refl _|assumption|refine Sub.trans_set ?_ (by assumption))) hs1;have hr_h1q2:=hs_h1q2;simp+decide only[ev,putD,Slots.put,Slots.get,if_true,if_false,true_and,↓qj,qf,↓QJ,QA,QH,List.length_cons,List.length_nil,List.getD_cons_zero,List.getD_cons_succ,List.getD_cons_zero,List.getD_cons_succ,Nat.zero_add,Nat.reduceAdd,QS];refine Qi qaF (cs:=[.int .i64 0, .int .i64 0, .int .i64 0]) (by rfl) fun k1q6 hk1q6=>?_;have hn_1q6:h1q2 k1q6=none:=by first|assumption|(simp only[AHeap.set_none]at hk1q6;simp only[hk1q6])
 have hf_1q6:h k1q6=none:=Sub.none hs_h1q2 hn_1q6;simp+decide only[ev,putD,Slots.put,Slots.get,if_true,if_false,true_and,↓qd,qb];refine qm (by rfl) (by rfl) (by repeat (first|exact AHeap.set_same _ _ _|assumption|refine(AHeap.set_ne _ _ (by first|assumption|exact Ne.symm (by assumption))).trans ?_)) QD (by rfl) (by rfl) (by first|exact Nat.le_refl _|decide|(simp;done)|(simp;omega)) (Nat.zero_le _) (by rfl) ?_;simp only[AHeap.set_set,AVal.cells];simp+decide only[qa,ev,putD,Slots.get,Slots.keep,if_true,if_false,setAt,List.set_cons_zero,List.set_cons_succ,Nat.zero_add,Nat.reduceAdd];apply hK;clear hK K;refine awp_rseq [2] (by rfl) fun K hK=>?_;simp+decide only[qa,ev,putD,Slots.put,Slots.get,Slots.keep,if_true,if_false,true_and,↓qj,qf,↓qd,qb];apply hK;clear hK K;refine qN ?_;refine QN (qY (Qe)) ?_;simp+decide only[Slots.get,if_true,Qv];exact⟨QY h tb,by rw[<-hh1];exact Sub.set hn_1q6,tb,rfl,o1,o2,rfl⟩
theorem c_membersL(w0:World)(hm:MaxL w0)(h:AHeap):ACall Tryz.prog w0 24 [] h (fun r h'=>IsMems w0 h' r qcd/\Sub h h'):=by
 refine qR (n:=6) (rs:=[.tmp 0]) Tryz.func24 rfl rfl rfl rfl (Nat.le_of_ble_eq_true rfl) ?_;simp only[Qc];refine awp_rseq [] (by rfl) fun K hK=>?_;simp+decide only[qa,ev,qJ,qG,putD,Slots.put,Slots.keep,if_false,true_and,↓qd,qb];apply hK;clear hK K;refine awp_rseq [0] (by rfl) fun K hK=>?_;refine QI (by rfl) (by rfl) (qcL w0 hm _ _ (by decide)) fun x1q0 h1q0 hx1q0=>?_;have ht1:=hx1q0.toks (w0:=w0);obtain⟨tb1,hv1,a1,a2,a3⟩:=hx1q0;have hcl1:=capV_live tb1;have hcS1:=capV_Sc tb1;subst hv1;have hs_h1q0:Sub h h1q0:=Sub.trans (by repeat (first|exact Sub.refl _|assumption|refine Sub.trans_set ?_ (by assumption))) ht1.2.2;have hr_h1q0:=hs_h1q0;simp+decide only[ev,qJ,qG,putD,Slots.put,Slots.get,if_true,if_false,true_and,↓Qn,↓qV,bld57_0_1,evP,List.map_cons,List.map_nil,hcS1];refine QI (by rfl) (by rfl) (qcL w0 hm _ _ (by decide)) fun x1q2 h1q2 hx1q2=>?_;have ht2:=hx1q2.toks (w0:=w0);obtain⟨tb2,hv2,b1,b2,b3⟩:=hx1q2;have hcl2:=capV_live tb2;have hcS2:=capV_Sc tb2;subst hv2;have hs_h1q2:Sub h h1q2:=Sub.trans (by repeat (first|exact Sub.refl _|assumption|refine Sub.trans_set ?_ (by assumption))) ht2.2.2;have hr_h1q2:Sub h1q0 h1q2:=Sub.trans (by repeat (first|exact Sub.refl _|assumption|refine Sub.trans_set ?_ (by assumption))) ht2.2.2;simp+decide only[ev,qJ,qG,putD,Slots.put,Slots.get,if_true,if_false,true_and,↓Qn,↓qV,bld57_0_1,evP,List.map_cons,List.map_nil,hcS2];refine QC (cs:=[.str [65],Ye (QT 5 tb1), .str [66],Ye (QT 5 tb2)]) (by cases tb1<;>cases tb2<;>rfl) fun k1q4 hk1q4=>?_;have hn_1q4:h1q2 k1q4=none:=by first|assumption|(simp only[AHeap.set_none]at hk1q4;simp only[hk1q4])
 have hf_1q4:h k1q4=none:=Sub.none hs_h1q2 hn_1q4;simp+decide only[qa,ev,putD,Slots.put,Slots.get,Slots.keep,if_true,if_false,true_and,↓qd,qb];apply hK;clear hK K;refine qN ?_;refine QN (qY (Qe)) ?_;simp+decide only[Slots.get,if_true,Qv];have hs4:Sub h1q2 (h1q2.set k1q4 ⟨[.str [65],Ye (QT 5 tb1), .str [66],Ye (QT 5 tb2)],0⟩):=Sub.set hn_1q4;refine⟨_,Sub.refl _,⟨[(⟨[65],qaD [48,53,32,88,32,80,73,67,32,57,40,51,41,46]⟩,Ye (QT 5 tb1)),(⟨[66],qaD [48,49,32,82,46,32,67,79,80,89,32,65,32,82,69,80,76,65,67,73,78,71,32,88,32,66,89,32,89,46]⟩,Ye (QT 5 tb2))],rfl,?_,?_⟩,(by repeat (first|exact Sub.refl _|assumption|refine Sub.set_both ?_ _ _|refine Sub.trans_set ?_ (by repeat (first|assumption|refine(AHeap.set_ne _ _ (by first|assumption|exact Ne.symm (by assumption))).trans ?_))))⟩
 ·exact IsL.own (w0:=w0) (es:=2) (xs:=[[.str [65],Ye (QT 5 tb1)],[.str [66],Ye (QT 5 tb2)]]) (AHeap.set_same _ _ _) (by simp) rfl (by simp[allLive,qE,hcl1,hcl2]) (.exact 2) (Nat.le_refl _)
 ·intro q hq
  simp only[List.mem_cons,List.not_mem_nil,or_false]at hq;rcases hq with rfl|rfl
  ·exact(ht1.1.mono ht2.2.2).mono hs4
  ·exact ht2.1.mono hs4
theorem qcr(s:Str):(qaD s).length<=65536:=(source_small (sp 11++s) false).1
theorem qdD:∀m∈qcd,m.toks.length<=100000:=by
 intro m hm;simp only[qcd,List.mem_cons,List.not_mem_nil,or_false]at hm;rcases hm with rfl|rfl<;>(have:=qcr;exact Nat.le_trans (this _) (by decide))
def giveOk(s want:Str):Bool:=match Wu true (qaD s) qcd with
 | .ok out _=>decide (0<out.length) && (decide (out.length<=65536) && (out.all (fun t=>decide (t.text.length<=100000000)) && decide (textE out=want)))
 | .bad _=>false
def failOk(s:Str)(e col:Int):Bool:=match Wu true (qaD s) qcd with
 | .ok _ _=>false
 | .bad f=>decide (f=⟨e,1,col⟩)
theorem c_gives(w0:World)(hm:MaxL w0)(h:AHeap)(s want:Str)(hs:s.length<=1000000)(hg:giveOk s want=true):ACall Tryz.prog w0 25 [.str s, .str want] h (fun r h'=>r= .bool true/\h'=h):=by
 have hovl:(AVal.bool true).live=true:=rfl;have hnvl:(AVal.bool true).live=true:=rfl;refine qR (n:=30) (rs:=[.tmp 4]) Tryz.func25 rfl rfl rfl rfl (Nat.le_of_ble_eq_true rfl) ?_;simp only[Qc];refine awp_rseq [0,1] (by rfl) fun K hK=>?_;simp+decide only[qa,ev,qJ,qG,putD,Slots.put,Slots.keep,if_true,if_false,true_and,↓qd,qb,Nat.zero_add];apply hK;clear hK K;refine awp_rseq [1,5,7] (by rfl) fun K hK=>?_;simp+decide only[ev,putD,Slots.put,Slots.get,if_true,if_false,true_and,↓qj,qf];refine QI (by rfl) (by rfl) (qcL w0 hm _ s hs) fun x1q1 h1q1 hx1q1=>?_;have ht1:=hx1q1.toks (w0:=w0);have hs1:=ht1.2.2;have hs_h1q1:Sub h h1q1:=Sub.trans (by repeat (first|exact Sub.refl _|assumption|refine Sub.trans_set ?_ (by assumption))) hs1;have hr_h1q1:=hs_h1q1;refine QI (by rfl) (by rfl) (c_membersL w0 hm _) fun x1q2 h1q2 hx1q2=>?_;obtain⟨hms,hs2⟩:=hx1q2;have hs_h1q2:Sub h h1q2:=Sub.trans (by repeat (first|exact Sub.refl _|assumption|refine Sub.trans_set ?_ (by assumption))) hs2;have hr_h1q2:Sub h1q1 h1q2:=Sub.trans (by repeat (first|exact Sub.refl _|assumption|refine Sub.trans_set ?_ (by assumption))) hs2;refine QI (by rfl) (by rfl) (qdG w0 _ x1q1 x1q2 (qaD s) qcd (ht1.1.mono hs2) hms (by have:=qcr s;omega) (by decide) qdD) fun x1q3 h1q3 hx1q3=>?_;obtain⟨ov,nv,f,rfl,hs3,hc1,hc2,hcase⟩:=hx1q3;obtain⟨rfl,out,st,hX,hov,hnv,hl1,hl2⟩:f=okF/\∃out st,Wu true (qaD s) qcd= .ok out st/\IsL w0 h1q3 5 ov (out.map Xv)/\IsL w0 h1q3 1 nv (st.names.map namC)/\out.length<=200000/\st.names.length<=4096:=by
  rcases hcase with⟨-,z,-⟩|z
  ·unfold giveOk at hg
   rw[z]at hg;cases hg
  ·exact z
 unfold giveOk at hg;rw[hX]at hg;simp only[Bool.and_eq_true,decide_eq_true_eq,List.all_eq_true]at hg;obtain⟨g1,g2,g3,g4⟩:=hg;have hovl:=hov.live;have hnvl:=hnv.live;have nov:=Za hov;have hpos:(0:Int)<out.length:=by omega
 have hs_h1q3:Sub h h1q3:=Sub.trans (by repeat (first|exact Sub.refl _|assumption|refine Sub.trans_set ?_ (by assumption))) hs3;have hr_h1q3:Sub h1q2 h1q3:=Sub.trans (by repeat (first|exact Sub.refl _|assumption|refine Sub.trans_set ?_ (by assumption))) hs3;simp+decide only[ev,putD,Slots.put,Slots.get,if_true,if_false,true_and,↓qj,qf,↓QJ,QA,QH,List.length_cons,List.length_nil,List.getD_cons_zero,List.getD_cons_succ,List.getD_cons_zero,List.getD_cons_succ,Nat.zero_add,Nat.reduceAdd,QS];refine Qi qaF (cs:=[.int .i64 0, .int .i64 0, .int .i64 0]) (by rfl) fun k1q8 hk1q8=>?_;have hn_1q8:h1q3 k1q8=none:=by first|assumption|(simp only[AHeap.set_none]at hk1q8;simp only[hk1q8])
 have hf_1q8:h k1q8=none:=Sub.none hs_h1q3 hn_1q8;simp+decide only[ev,putD,Slots.put,Slots.get,if_true,if_false,true_and,↓qd,qb];refine qm (by rfl) (by rfl) (by repeat (first|exact AHeap.set_same _ _ _|assumption|refine(AHeap.set_ne _ _ (by first|assumption|exact Ne.symm (by assumption))).trans ?_)) QD (by rfl) (by rfl) (by first|exact Nat.le_refl _|decide|(simp;done)|(simp;omega)) (Nat.zero_le _) (by rfl) ?_;simp only[AHeap.set_set,AVal.cells];simp+decide only[qa,ev,putD,Slots.get,Slots.keep,if_true,if_false,setAt,List.set_cons_zero,List.set_cons_succ,Nat.zero_add,Nat.reduceAdd];apply hK;clear hK K;refine awp_rseq [4] (by rfl) fun K hK=>?_;simp+decide only[ev,qJ,qG,putD,Slots.put,Slots.get,if_true,if_false,true_and,↓qF,Qb,qg Xh QD,↓Qn,↓qV,ZI,evP,List.map_nil,↓qC,qo,qZ,cond_false,Yv,eq35,↓qj,qf,↓Xc,agP,Qu,qI,qH,qw,implies_true,decide_true,Qm,Bool.and_true,↓qbS,QK,↓Xd,qD,qz,Ur,↓QP,Qt,Qg,decide_true,Qm,Bool.and_true,Yr,cond_true,cond_false,QV,qc,List.getD_cons_zero,List.getD_cons_succ,Nat.zero_add,Nat.reduceAdd,qh,allLive,Bool.and_true,nov,hpos];refine Yf (by rfl) ?_;refine qM (V:= .str want) (by rfl) (by rfl) (by rw[<-g4];exact c_Text w0 hm _ ov out (hov.mono (by repeat (first|exact Sub.refl _|assumption|refine Sub.set_both ?_ _ _|refine Sub.trans_set ?_ (by repeat (first|assumption|refine(AHeap.set_ne _ _ (by first|assumption|exact Ne.symm (by assumption))).trans ?_))))) g2 (fun t ht=>g3 t ht)) ?_;simp+decide only[qa,ev,qJ,qG,putD,Slots.put,Slots.get,Slots.keep,if_true,if_false,true_and,↓Xc,qf,agP,Qu,qI,qH,qw,implies_true,decide_true,Qm,↓Xd,qo,qZ,cond_false,Zp,pS_eql,↓QP,Qt,Qg,↓qd,qb,decide_true,Qm,Yr,cond_true,cond_false];apply hK;clear hK K;refine qN ?_;refine qU h (by repeat (first|exact Sub.refl _|assumption|refine Sub.trans_set ?_ (by assumption))) (qY (Qe)) ?_;simp+decide only[Slots.get,if_true,and_true,Qv];all_goals first|rfl|exact⟨rfl,rfl⟩|(simp+decide only[if_true,if_false, *];done)|(trace_state;fail)
theorem c_fails(w0:World)(hm:MaxL w0)(h:AHeap)(s:Str)(e col:Int)(hs:s.length<=1000000)(hg:failOk s e col=true):ACall Tryz.prog w0 26 [.str s, .int .i64 e, .int .i64 col] h (fun r h'=>r= .bool true/\h'=h):=by
 refine qR (n:=32) (rs:=[.tmp 6]) Tryz.func26 rfl rfl rfl rfl (Nat.le_of_ble_eq_true rfl) ?_;simp only[Qc];refine awp_rseq [0,1,2] (by rfl) fun K hK=>?_;simp+decide only[qa,ev,qJ,qG,putD,Slots.put,Slots.keep,if_true,if_false,true_and,↓qd,qb,Nat.zero_add,Nat.reduceAdd];apply hK;clear hK K;refine awp_rseq [1,2,7,8,9] (by rfl) fun K hK=>?_;simp+decide only[ev,putD,Slots.put,Slots.get,if_true,if_false,true_and,↓qj,qf];refine QI (by rfl) (by rfl) (qcL w0 hm _ s hs) fun x1q1 h1q1 hx1q1=>?_;have ht1:=hx1q1.toks (w0:=w0);have hs1:=ht1.2.2;have hs_h1q1:Sub h h1q1:=Sub.trans (by repeat (first|exact Sub.refl _|assumption|refine Sub.trans_set ?_ (by assumption))) hs1;have hr_h1q1:=hs_h1q1;refine QI (by rfl) (by rfl) (c_membersL w0 hm _) fun x1q2 h1q2 hx1q2=>?_;obtain⟨hms,hs2⟩:=hx1q2;have hs_h1q2:Sub h h1q2:=Sub.trans (by repeat (first|exact Sub.refl _|assumption|refine Sub.trans_set ?_ (by assumption))) hs2;have hr_h1q2:Sub h1q1 h1q2:=Sub.trans (by repeat (first|exact Sub.refl _|assumption|refine Sub.trans_set ?_ (by assumption))) hs2;refine QI (by rfl) (by rfl) (qdG w0 _ x1q1 x1q2 (qaD s) qcd (ht1.1.mono hs2) hms (by have:=qcr s;omega) (by decide) qdD) fun x1q3 h1q3 hx1q3=>?_;obtain⟨ov,nv,f,rfl,hs3,hc1,hc2,hcase⟩:=hx1q3;obtain⟨hX,rfl,rfl⟩:Wu true (qaD s) qcd= .bad f/\ov= .nilSlice/\nv= .nilSlice:=by
  rcases hcase with⟨-,z⟩|⟨-,out,st,z,-⟩
  ·exact z
  ·unfold failOk at hg
   rw[z]at hg;cases hg
 unfold failOk at hg;rw[hX]at hg;simp only[decide_eq_true_eq]at hg;subst hg;have hs_h1q3:Sub h h1q3:=Sub.trans (by repeat (first|exact Sub.refl _|assumption|refine Sub.trans_set ?_ (by assumption))) hs3;have hr_h1q3:Sub h1q2 h1q3:=Sub.trans (by repeat (first|exact Sub.refl _|assumption|refine Sub.trans_set ?_ (by assumption))) hs3;simp+decide only[ev,putD,Slots.put,Slots.get,if_true,if_false,true_and,↓qj,qf,↓QJ,QA,QH,List.length_cons,List.length_nil,List.getD_cons_zero,List.getD_cons_succ,List.getD_cons_zero,List.getD_cons_succ,Nat.zero_add,Nat.reduceAdd,QS];refine Qi qaF (cs:=[.int .i64 0, .int .i64 0, .int .i64 0]) (by rfl) fun k1q8 hk1q8=>?_;have hn_1q8:h1q3 k1q8=none:=by first|assumption|(simp only[AHeap.set_none]at hk1q8;simp only[hk1q8])
 have hf_1q8:h k1q8=none:=Sub.none hs_h1q3 hn_1q8;simp+decide only[ev,putD,Slots.put,Slots.get,if_true,if_false,true_and,↓qd,qb];refine qm (by rfl) (by rfl) (by repeat (first|exact AHeap.set_same _ _ _|assumption|refine(AHeap.set_ne _ _ (by first|assumption|exact Ne.symm (by assumption))).trans ?_)) QD (by rfl) (by rfl) (by first|exact Nat.le_refl _|decide|(simp;done)|(simp;omega)) (Nat.zero_le _) (by rfl) ?_;simp only[AHeap.set_set,AVal.cells];simp+decide only[qa,ev,putD,Slots.get,Slots.keep,if_true,if_false,setAt,List.set_cons_zero,List.set_cons_succ,Nat.zero_add,Nat.reduceAdd];apply hK;clear hK K;refine awp_rseq [6] (by rfl) fun K hK=>?_;simp+decide only[qa,ev,qJ,qG,putD,Slots.put,Slots.get,Slots.keep,if_true,if_false,true_and,↓qj,qf,↓XA,QK,qdl Tryz.underlying26,qdl Tryz.underlying30,↓qC,qo,qZ,cond_false,qz,Xf,qD,XD,↓Zb,XI,Wy,agP,Qu,qI,qH,qw,implies_true,decide_true,Qm,Bool.and_true,qg Xh QD,↓Xc,↓ag_build,↓qV,bld33_0_1,evP,List.map_cons,List.map_nil,Ud,↓Xd,Yv,eq35,↓QP,Qt,Qg,↓qd,qb,decide_true,Qm,Bool.and_true,Yr,cond_true,cond_false,QV,qc,List.getD_cons_zero,List.getD_cons_succ,Nat.zero_add,Nat.reduceAdd,qh,allLive,Bool.and_true];apply hK;clear hK K;refine qN ?_;refine qU h (by repeat (first|exact Sub.refl _|assumption|refine Sub.trans_set ?_ (by assumption))) (qY (Qe)) ?_;simp+decide only[Slots.get,if_true,and_true,Qv];all_goals first|rfl|exact⟨rfl,rfl⟩|(simp+decide only[if_true,if_false, *];done)|(trace_state;fail)
end Go.Proofs.YtlhhaagmakhilaaGreatDoor
namespace Go.Proofs.YtlhhaagmakhilaaGreatDoor
open Go.AM
open Go.Proofs
open Go.Col (Str FaultC okF sp)
open Go.Tok
open Go.Cop
open Go.RowKit (Below)
set_option maxRecDepth 100000
def liveB:Bool:=match Wu true (qaD [67,79,80,89,32,34,66,34,46,32,77,79,86,69]) qcd with
 | .ok _ st=>decide (st.names=[[66],[65]])
 | .bad _=>false
theorem lv_names:liveB=true:=by decide+kernel
theorem lv_g1:giveOk [67,79,80,89,32,65,46] [48,53,32,88,32,80,73,67,32,57,40,51,41,32,46]=true:=by decide+kernel
theorem lv_f1:failOk [67,79,80,89,32,67,46] 7 17=true:=by decide+kernel
theorem lv_f2:failOk [67,79,80,89,32,65] 4 12=true:=by decide+kernel
theorem lv_f3:failOk [67,79,80,89,32,65,32,82,69,80,76,65,67,73,78,71,32,88,46] 4 30=true:=by decide+kernel
set_option maxHeartbeats 2000000 in
theorem c_lives04(w0:World)(hm:MaxL w0)(h:AHeap):ACall Tryz.prog w0 9 [] h (fun r h'=>r= .bool true/\h'=h):=by
 have hovl:(AVal.bool true).live=true:=rfl;have hnvl:(AVal.bool true).live=true:=rfl;refine qR (n:=44) (rs:=[.tmp 0]) Tryz.func9 rfl rfl rfl rfl (Nat.le_of_ble_eq_true rfl) ?_;simp only[Qc];refine awp_rseq [] (by rfl) fun K hK=>?_;simp+decide only[qa,ev,qJ,qG,putD,Slots.put,Slots.keep,if_false,true_and,↓qd,qb];apply hK;clear hK K;refine awp_rseq [2] (by rfl) fun K hK=>?_;refine QI (by rfl) (by rfl) (qcL w0 hm _ _ (by decide)) fun x1q0 h1q0 hx1q0=>?_;have ht1:=hx1q0.toks (w0:=w0);have hs1:=ht1.2.2;have hs_h1q0:Sub h h1q0:=Sub.trans (by repeat (first|exact Sub.refl _|assumption|refine Sub.trans_set ?_ (by assumption))) hs1;have hr_h1q0:=hs_h1q0;refine QI (by rfl) (by rfl) (c_membersL w0 hm _) fun x1q1 h1q1 hx1q1=>?_;obtain⟨hms,hs2⟩:=hx1q1;have hs_h1q1:Sub h h1q1:=Sub.trans (by repeat (first|exact Sub.refl _|assumption|refine Sub.trans_set ?_ (by assumption))) hs2;have hr_h1q1:Sub h1q0 h1q1:=Sub.trans (by repeat (first|exact Sub.refl _|assumption|refine Sub.trans_set ?_ (by assumption))) hs2;refine QI (by rfl) (by rfl) (qdG w0 _ x1q0 x1q1 _ qcd (ht1.1.mono hs2) hms (by have:=qcr [67,79,80,89,32,34,66,34,46,32,77,79,86,69];exact Nat.le_trans this (by decide)) (by decide) qdD) fun x1q2 h1q2 hx1q2=>?_;obtain⟨ov,nv,f,rfl,hs3,hc1,hc2,hcase⟩:=hx1q2;have hlb:=lv_names;unfold liveB at hlb;obtain⟨rfl,out,st,hX,hov,hnv,hl1,hl2⟩:f=okF/\∃out st,Wu true (qaD [67,79,80,89,32,34,66,34,46,32,77,79,86,69]) qcd= .ok out st/\IsL w0 h1q2 5 ov (out.map Xv)/\IsL w0 h1q2 1 nv (st.names.map namC)/\out.length<=200000/\st.names.length<=4096:=by
  rcases hcase with⟨-,z,-⟩|z
  ·rw[show Wu true (qaD [67,79,80,89,32,34,66,34,46,32,77,79,86,69]) qcd= .bad f from z]at hlb
   cases hlb
  ·exact z
 rw[hX]at hlb;simp only[decide_eq_true_eq]at hlb;rw[hlb]at hnv;have hovl:=hov.live;have hnvl:=hnv.live;have nnv:=nam_len hnv;have hs_h1q2:Sub h h1q2:=Sub.trans (by repeat (first|exact Sub.refl _|assumption|refine Sub.trans_set ?_ (by assumption))) hs3;have hr_h1q2:Sub h1q1 h1q2:=Sub.trans (by repeat (first|exact Sub.refl _|assumption|refine Sub.trans_set ?_ (by assumption))) hs3;simp+decide only[ev,putD,Slots.put,Slots.get,if_true,if_false,true_and,↓qj,qf,↓QJ,QA,QH,List.length_cons,List.length_nil,List.getD_cons_zero,List.getD_cons_succ,List.getD_cons_zero,List.getD_cons_succ,Nat.zero_add,Nat.reduceAdd,QS];refine Qi qaF (cs:=[.int .i64 0, .int .i64 0, .int .i64 0]) (by rfl) fun k1q7 hk1q7=>?_;have hn_1q7:h1q2 k1q7=none:=by first|assumption|(simp only[AHeap.set_none]at hk1q7;simp only[hk1q7])
 have hf_1q7:h k1q7=none:=Sub.none hs_h1q2 hn_1q7;simp+decide only[ev,putD,Slots.put,Slots.get,if_true,if_false,true_and,↓qd,qb];refine qm (by rfl) (by rfl) (by repeat (first|exact AHeap.set_same _ _ _|assumption|refine(AHeap.set_ne _ _ (by first|assumption|exact Ne.symm (by assumption))).trans ?_)) QD (by rfl) (by rfl) (by first|exact Nat.le_refl _|decide|(simp;done)|(simp;omega)) (Nat.zero_le _) (by rfl) ?_;simp only[AHeap.set_set,AVal.cells];simp+decide only[qa,ev,putD,Slots.get,Slots.keep,if_true,if_false,setAt,List.set_cons_zero,List.set_cons_succ,Nat.zero_add,Nat.reduceAdd];apply hK;clear hK K;refine Awp.forget (h':=h1q2) (Sub.set hn_1q7) ?_;obtain⟨lc,o,c,hnve⟩:=hnv.open (by simp);have hnv2:=hnv;rw[hnve]at hnv2;have e0:rd w0 h1q2 lc (o+0)= .str [66]:=hnv2.at0 (i:=0) (by simp) (by decide);have e1:rd w0 h1q2 lc (o+1)= .str [65]:=hnv2.at0 (i:=1) (by simp) (by decide);rw[Nat.add_zero]at e0;have hlen2:((([[66],[65]]:List Str).map namC).length:Int)=2:=by decide
 have i0:Int.toNat 0=0:=rfl;have i1:Int.toNat 1=1:=rfl;subst hnve;refine awp_rseq [0] (by kernel_rfl) fun K hK=>?_;refine qM (V:= .bool true) (by rfl) (by rfl) (c_gives w0 hm _ _ _ (by decide) lv_g1) ?_;simp+decide only[ev,putD,Slots.put,Slots.get,if_true,if_false,true_and,↓qj,qf];refine Yf (by rfl) ?_;refine qM (V:= .bool true) (by rfl) (by rfl) (c_gives w0 hm _ _ _ (by decide) (by decide+kernel)) ?_;simp+decide only[ev,qJ,qG,putD,Slots.put,Slots.get,if_true,if_false,true_and,↓QP,Qt,Qg,↓qj,qf,Yr,cond_true];refine Yf (by rfl) ?_;refine qM (V:= .bool true) (by rfl) (by rfl) (c_gives w0 hm _ _ _ (by decide) (by decide+kernel)) ?_;simp+decide only[ev,qJ,qG,putD,Slots.put,Slots.get,if_true,if_false,true_and,↓QP,Qt,Qg,↓qj,qf,Yr,cond_true];refine Yf (by rfl) ?_;refine qM (V:= .bool true) (by rfl) (by rfl) (c_fails w0 hm _ _ _ _ (by decide) lv_f1) ?_;simp+decide only[ev,qJ,qG,putD,Slots.put,Slots.get,if_true,if_false,true_and,↓QP,Qt,Qg,↓qj,qf,Yr,cond_true];refine Yf (by rfl) ?_;refine qM (V:= .bool true) (by rfl) (by rfl) (c_fails w0 hm _ _ _ _ (by decide) lv_f2) ?_;simp+decide only[ev,qJ,qG,putD,Slots.put,Slots.get,if_true,if_false,true_and,↓QP,Qt,Qg,↓qj,qf,Yr,cond_true];refine Yf (by rfl) ?_;refine qM (V:= .bool true) (by rfl) (by rfl) (c_fails w0 hm _ _ _ _ (by decide) lv_f3) ?_;simp+decide only[qa,ev,qJ,qG,putD,Slots.put,Slots.get,Slots.keep,if_true,if_false,true_and,↓QP,Qt,Qg,↓qj,qf,↓Xc,agP,Qu,qI,qH,qw,implies_true,decide_true,Qm,↓qbS,QK,XV Tryz.underlying30,↓Xd,qo,qD,cond_false,qz,XD,↓Yo,XI,Wy,Qs Tryz.underlying30 sz9,↓Zb,qy ag9,YP,Zp,pS_eql,↓qd,qb,decide_true,Qm,Yr,cond_true,cond_false,qE,i0,i1,e0,e1,Nat.mul_one,Nat.add_zero];apply hK;clear hK K;refine qN ?_;refine qU h (by repeat (first|exact Sub.refl _|assumption|refine Sub.trans_set ?_ (by assumption))) (qY (Qe)) ?_;simp+decide only[Slots.get,if_true,and_true,Qv];all_goals first|rfl|exact⟨rfl,rfl⟩|(simp+decide only[if_true,if_false, *];done)|(trace_state;fail)
end Go.Proofs.YtlhhaagmakhilaaGreatDoor
namespace Go.AM
section
variable {P:Program} {w0:World} {ops:List Oper} {K:Slots->AHeap->Prop}
end
end Go.AM
namespace Go.Proofs.YtlhhaagmakhilaaGreatDoor
open Go.AM
open Go.Proofs
open Go.Col (Str FaultC okF sp)
open Go.Tok
open Go.Cop
open Go.RowKit (Below)
set_option maxRecDepth 100000
end Go.Proofs.YtlhhaagmakhilaaGreatDoor
namespace Go.AM
theorem repCells_rows(z:List AVal)(m:Nat)(hz:0<z.length):ZP z (m*z.length)=(List.replicate m z).flatten:=by
 have hw:∀x∈List.replicate m z,x.length=z.length:=fun x hx=>by rw[(List.mem_replicate.1 hx).2]
 refine List.ext_getElem (by rw[Yn hw,List.length_replicate];simp[ZP]) fun i h1 h2=>?_;have hi:i<m*z.length:=by simpa[ZP]using h1
 have hd:i / z.length<m:=Nat.div_lt_of_lt_mul (by rw[Nat.mul_comm];exact hi);have hm:i%z.length<z.length:=Nat.mod_lt _ hz;have h3:=qdA hw (i:=i / z.length) (j:=i%z.length) (by rw[List.length_replicate];exact hd) hm;rw[show i / z.length*z.length+i%z.length=i by rw[Nat.mul_comm];exact Nat.div_add_mod _ _]at h3;have h4:(List.replicate m z).getD (i / z.length) []=z:=by simp[List.getD,hd]
 rw[h4,List.getElem?_eq_getElem h2,List.getElem?_eq_getElem hm]at h3;have h5:(ZP z (m*z.length))[i]=z.getD (i%z.length) .dead:=by simp[ZP]
 rw[h5,List.getD,List.getElem?_eq_getElem hm];exact(Option.some.inj h3).symm
theorem aOps_makeRow{P:Program}{w0:World}{ops rest:List Oper}{s:Slots}{h:AHeap}{K:Slots->AHeap->Prop}{dst:Option Tmp}{ty:TypeId}{pos:String}{af:Array Edge}{t e:TypeId}{x y:Operand}{m es by':Nat}{z:Value}{zs:List AVal}{k₁ k₂:IntKind}
 (ht:P.underlying t=some (.slice e)) (hs:ZT P e=some es) (hb:byOf P e=some by') (hz:WG P e=some z) (hzs:z.cells.size=es) (hza:z.cells.toList.map qG=zs) (hes:es≠0) (hx:ev s x= .int k₁ m) (hy:ev s y= .int k₂ m) (h1:(by':Int)*m<=281474976710656) (h2:m<=9223372036854775807)
 (hk:∀k,h k=none->QM P w0 ops rest (putD s dst (.slice (.own k) 0 m (.exact m))) (h.set k ⟨(List.replicate m zs).flatten,0⟩) K):
 QM P w0 ops (⟨dst, .makeSlice t x y,ty,pos,af,none⟩::rest) s h K:=by
 rw[qaC];simp only[eop,eMake,hx,hy,ht,hs,hb,hz,intA];refine⟨⟨by omega,by omega,h1,by omega,hzs,hes⟩,fun k hk'=>?_⟩;have hl:zs.length=es:=by rw[<-hza,List.length_map,Array.length_toList,hzs]
 have e:ZP (z.cells.toList.map qG) ((m:Int).toNat*es)=(List.replicate m zs).flatten:=by
  rw[hza,Int.toNat_natCast,<-hl];exact repCells_rows zs m (by omega)
 rw[e,Int.toNat_natCast];exact hk k hk'
end Go.AM
namespace Go.Proofs.YtlhhaagmakhilaaGreatDoor
open Go.AM
open Go.Proofs
open Go.Col (Str FaultC okF sp)
open Go.Tok
open Go.Cop
open Go.RowKit (Below)
set_option maxRecDepth 100000
def oneT:List TokC:=qaD [67,79,80,89,32,69,46]
def oneC:TokC:=oneT.getD 0 noT
def oneN:TokC:=oneT.getD 1 noT
def oneP:TokC:=oneT.getD 2 noT
theorem qcC:oneT=[oneC,oneN,oneP]/\isCopy oneC=true/\oneN.text=[69]:=by decide+kernel
theorem one_stm:QG [oneC,oneN,oneP] 1=⟨true,oneN,[],3⟩:=by kernel_rfl
theorem one_len:oneT.length=3:=by rw[qcC.1];rfl
theorem lim_many(k:Nat)(hk:1<=k):Wu true (Uh oneT k) [⟨[69],[]⟩]=if k<=4096 then .ok [] ⟨[[69]],k⟩else .bad ⟨3,oneN.line,oneN.col⟩:=by
 rw[qcC.1];exact limits_many qcC.2.1 one_stm qcC.2.2 k hk
theorem noCopy_zero(m:Nat):NoCopy (List.replicate m noT):=fun t ht=>by
 rw[(List.mem_replicate.1 ht).2];rfl
theorem lim_large(m:Nat):Wu true oneT [⟨[69],List.replicate m noT⟩]=if 65536<m then .bad ⟨3,oneN.line,oneN.col⟩else .ok (List.replicate m noT) ⟨[[69]],1⟩:=by
 rw[qcC.1];have:=limits_large qcC.2.1 one_stm qcC.2.2 (noCopy_zero m)
 rwa [List.length_replicate]at this
theorem zero_row{w0:World}{h:AHeap}{k m:Nat}(hk:h k=some ⟨(List.replicate m (Xv noT)).flatten,0⟩):IsL w0 h 5 (.slice (.own k) 0 m (.exact m)) ((List.replicate m noT).map Xv):=by
 have:=IsL.own (w0:=w0) (es:=5) (xs:=List.replicate m (Xv noT)) hk (fun x hx=>by rw[(List.mem_replicate.1 hx).2];rfl) rfl (Yd.2 fun x hx=>by rw[(List.mem_replicate.1 hx).2];rfl) (.exact m) (by simp);rw[List.length_replicate]at this
 rwa [List.map_replicate]
structure LmG where
 i:Nat
 b:Option Buf
structure LmOk(H:AHeap)(k:Nat)(s:LmG):Prop where
 i:s.i<=k
 ok:bufOk H 5 s.b
 eq:Uc s.b=((Uh oneT s.i).map Xv).flatten
set_option maxHeartbeats 4000000 in
theorem l_CopiesLimits(w0:World)(hm:MaxL w0)(h:AHeap)(m:UInt8):
 ACall Tryz.prog w0 6 [.int .u8 m.toNat] h (fun x _=>x= .bool true):=by
 refine ACall.mono (R:=fun x h'=>x= .bool true/\h'=h) ?_ fun x h' hx=>hx.1;have hm8:m.toNat<256:=m.toNat_lt;have hrem:Int.tmod (m.toNat:Int) 12=((m.toNat%12:Nat):Int):=by rw[Int.tmod_eq_emod_of_nonneg (by omega)];exact(Int.natCast_emod m.toNat 12).symm
 obtain⟨k,hk⟩:∃k,k=4090+m.toNat%12:=⟨_,rfl⟩
 obtain⟨N2,hN⟩:∃k,k=65530+m.toNat%12:=⟨_,rfl⟩
 have hk12:4090<=k/\k<=4101:=by omega
 have hN12:65530<=N2/\N2<=65541:=by omega
 have hwk:IntKind.i64.wrap (4090+((m.toNat%12:Nat):Int))=(k:Int):=by rw[wrap_i64 (by omega) (by omega)];omega
 have hwN:IntKind.i64.wrap (65530+((m.toNat%12:Nat):Int))=(N2:Int):=by rw[wrap_i64 (by omega) (by omega)];omega
 have hwm:IntKind.i64.wrap ((m.toNat%12:Nat):Int)=((m.toNat%12:Nat):Int):=wrap_i64 (by omega) (by omega);have hwu:IntKind.u8.wrap ((m.toNat%12:Nat):Int)=((m.toNat%12:Nat):Int):=wrap_u8 (by omega) (by omega);have hovl:(AVal.bool true).live=true:=rfl;have hnvl:(AVal.bool true).live=true:=rfl;have hcl:(AVal.bool true).live=true:=rfl;have hcS:Sc .nilSlice=True:=eq_true trivial;have hbl:=Xm 5 none;have hLM:=lim_many k (by omega);have hLL:=lim_large N2;have hLR:=large_replace (large:=List.replicate N2 noT);rw[List.length_replicate]at hLR;refine qR (n:=124) (rs:=[.tmp 2]) Tryz.func6 rfl rfl rfl rfl (Nat.le_of_ble_eq_true rfl) ?_;simp only[Qc];refine awp_rseq [0] (by rfl) fun K hK=>?_;simp+decide only[qa,ev,qJ,qG,putD,Slots.put,Slots.keep,if_true,if_false,true_and,↓qd,qb];apply hK;clear hK K;refine awp_rseq [0,3] (by rfl) fun K hK=>?_;simp+decide only[qa,ev,qJ,qG,putD,Slots.put,Slots.get,Slots.keep,if_true,if_false,true_and,↓qj,qf,↓qC,qo,qD,cond_false,qz,pI_rem,↓ap_convert _ _ _ (es_int Tryz.underlying5 Tryz.underlying3),qbC,pConv_int Tryz.underlying5 Tryz.underlying3,qZ,Xf,↓qd,qb,hrem,hwk,hwm];apply hK;clear hK K;refine awp_rseq [0,3,4] (by rfl) fun K hK=>?_;refine QI (by rfl) (by rfl) (qcL w0 hm _ [67,79,80,89,32,69,46] (by decide)) fun x2q0 h2q0 hx2q0=>?_;have ht2:=hx2q0.toks (w0:=w0);have hs2:=ht2.2.2;have hol:x2q0.live=true:=ht2.1.live;have hone:IsL w0 h2q0 5 x2q0 (oneT.map Xv):=ht2.1;have hs_h2q0:Sub h h2q0:=Sub.trans (by repeat (first|exact Sub.refl _|assumption|refine Sub.trans_set ?_ (by assumption))) hs2;have hr_h2q0:=hs_h2q0;simp+decide only[qa,ev,putD,Slots.put,Slots.get,Slots.keep,if_true,if_false,true_and,↓qd,qb];apply hK;clear hK K;refine awp_rseq [0,3,4,5] (by rfl) fun K hK=>?_;simp+decide only[qa,ev,qJ,qG,putD,Slots.put,Slots.keep,if_true,if_false,true_and,↓qd,qb];apply hK;clear hK K;refine qO ?_;refine awp_rseq [0,3,4,5,6] (by rfl) fun K hK=>?_;simp+decide only[qa,ev,qJ,qG,putD,Slots.put,Slots.keep,if_true,if_false,true_and,↓qd,qb];apply hK;clear hK K;refine QB ?_;refine XH [0,3,4,5,6] (fun s:LmG=>[(0, .int .u8 m.toNat),(3, .int .i64 k),(4,x2q0),(5,QT 5 s.b),(6, .int .i64 s.i)]) (fun s:LmG=>QY h2q0 s.b) (fun s:LmG=>LmOk h2q0 k s) (fun s:LmG=>k-s.i) ⟨0,none⟩ (by rfl) (Sub.refl _) ⟨Nat.zero_le _,trivial,rfl⟩ ?_;rintro⟨i,b⟩ ⟨g1,g2,g3⟩;simp only at g1 g2 g3|-
 have hbl:=Xm 5 b;obtain⟨H1,hH1⟩:∃H1,H1=QY h2q0 b:=⟨_,rfl⟩
 have hsH:Sub h2q0 H1:=by rw[hH1];exact Sub.buf g2
 have hs_H1:Sub h H1:=hs_h2q0.trans hsH;rw[<-hH1];refine qO ?_;refine awp_rseq [0,3,4,5,6,24] (by rfl) fun K hK=>?_;simp+decide only[qa,ev,putD,Slots.put,Slots.get,Slots.keep,if_true,if_false,true_and,↓qj,qf,↓qC,qo,qZ,cond_false,qz,Zd];apply hK;clear hK K;refine qL (b:=_) rfl (fun hb1=>?_) (fun hb1=>?_)
 ·try simp only[decide_eq_true_eq]at hb1
  refine Qa ?_;change Awp _ _ _ _ _ _ _;refine qO ?_;refine QB ?_;refine XK [0,3,4,5,6] (by rfl) ?_;simp+decide only[ev,putD,Slots.put,Slots.get,if_true,if_false,true_and,↓qj,qf];refine XY (es:=5) (zs:=(Uh oneT i).map Xv) (xs:=oneT.map Xv) (hZ:=h2q0) (b:=b) (by rfl) (by rfl) Tryz.underlying26 Tryz.underlying26 (fun k e=>by cases e) Xg by54 qby (by rfl) (by decide) (by rfl) g2 g3 Ya (by rw[hH1];exact Sub.refl _) (by rfl) (hone.mono hsH) (by rw[WB];intro z hz;obtain⟨t,_,rfl⟩:=List.mem_map.1 hz;rfl) (by simp only[List.length_map,qdu,one_len];omega) (by simp only[List.length_map,qdu,one_len];omega) fun b2 h7 o1 o2 o3=>?_;simp+decide only[qa,ev,putD,Slots.put,Slots.get,Slots.keep,if_true,if_false,true_and,↓qd,qb];change Awp _ _ _ _ _ _ _;refine XK [0,3,4,5,6] (by rfl) ?_;simp+decide only[qa,ev,qJ,qG,putD,Slots.put,Slots.get,Slots.keep,if_true,if_false,true_and,↓qj,qf,↓qC,qo,qD,cond_false,qz,Xf,↓qd,qb];try simp(disch:=omega)only[wrap_i64]
  try simp only[Ql]
  exact⟨⟨i+1,b2⟩,rfl,o3,⟨by simp only;omega,o1,by rw[o2,<-List.map_append,many_app]⟩,by simp only;omega⟩
 ·try simp only[decide_eq_false_iff_not]at hb1
  have hki:i=k:=by omega
  rw[hki]at g3;have hlist:IsL w0 H1 5 (QT 5 b) ((Uh oneT k).map Xv):=by rw[hH1];exact IsL.buf g2 (by decide) g3 Ya (Sub.refl _)
  generalize QT 5 b=lv at hbl hlist|-
  refine XL ?_;change Awp _ _ _ _ _ _ _;refine awp_rseq [0,3,7,8,9] (by rfl) fun K hK=>?_;simp+decide only[ev,qJ,qG,putD,Slots.put,Slots.get,if_true,if_false,true_and,↓qj,qf,↓Qn,↓qV,bld57_0,evP,List.map_cons,List.map_nil];refine QC (cs:=[.str [69], .nilSlice]) (by rfl) fun k8q2 hk8q2=>?_;have hn_8q2:H1 k8q2=none:=by first|assumption|(simp only[AHeap.set_none]at hk8q2;simp only[hk8q2])
  have hf_8q2:h k8q2=none:=Sub.none hs_H1 hn_8q2;refine QI (by rfl) (by rfl) (qdG w0 _ lv _ (Uh oneT k) [⟨[69],[]⟩] (hlist.mono (Sub.set hn_8q2)) ⟨[(⟨[69],[]⟩, .nilSlice)],rfl,IsL.own (AHeap.set_same _ _ _) (by simp[qdt]) (by rfl) (by rfl) (.exact 1) (Nat.le_refl _),fun q hq=>by rw[List.mem_singleton.1 hq];exact .nil⟩ (by rw[qdu,one_len];omega) (by simp) (fun m hm=>by rw[List.mem_singleton.1 hm];simp)) fun x8q3 h8q3 hx8q3=>?_;obtain⟨ov,nv,f,rfl,hs8,hc1,hc2,hcase⟩:=hx8q3;rw[hLM]at hcase;have hovl:ov.live=true:=by
   rcases hcase with⟨-,-,rfl,-⟩|⟨-,out,st,-,z,-⟩
   ·rfl
   ·exact z.live
  have hnvl:nv.live=true:=by
   rcases hcase with⟨-,-,-,rfl⟩|⟨-,out,st,-,-,z,-⟩
   ·rfl
   ·exact z.live
  have hs1q:Sub H1 h8q3:=(Sub.set hn_8q2).trans hs8;have hcas:(((4096:Int)<(k:Int))=False/\f.e=0/\(∀H,ZE Tryz.prog H 26 ov=⟨True, .int .i64 0⟩)/\∀H,ZE Tryz.prog H 30 nv=⟨True, .int .i64 1⟩)\/
   (((4096:Int)<(k:Int))=True/\f.e=3/\(∀H,ZE Tryz.prog H 26 ov=⟨True, .int .i64 0⟩)/\∀H,ZE Tryz.prog H 30 nv=⟨True, .int .i64 0⟩):=by
   by_cases h4:k<=4096
   ·rw[if_pos h4]at hcase
    rcases hcase with⟨-,z,-⟩|⟨rfl,out,st,e,z1,z2,-⟩
    ·cases z
    ·injection e with e1 e2
     subst e1;subst e2;exact .inl ⟨eq_false (by omega),rfl,Za z1,nam_len z2⟩
   ·rw[if_neg h4]at hcase
    rcases hcase with⟨-,e,rfl,rfl⟩|⟨-,out,st,e,-⟩
    ·injection e with e
     exact .inr ⟨eq_true (by omega),by rw[<-e],Za (l:=[]) (w0:=w0) (h:=h) .nil,nam_len (l:=[]) (w0:=w0) (h:=h) .nil⟩
    ·cases e
  have hs_h8q3:Sub h h8q3:=Sub.trans (by repeat (first|exact Sub.refl _|assumption|refine Sub.trans_set ?_ (by assumption))) hs8;have hr_h8q3:Sub H1 h8q3:=Sub.trans (by repeat (first|exact Sub.refl _|assumption|refine Sub.trans_set ?_ (by assumption))) hs8;have eb_8q2:=hs8 k8q2 _ (by repeat (first|exact AHeap.set_same _ _ _|assumption|refine(AHeap.set_ne _ _ (by first|assumption|exact Ne.symm (by assumption))).trans ?_));simp+decide only[ev,putD,Slots.put,Slots.get,if_true,if_false,true_and,↓qj,qf,↓QJ,QA,QH,List.length_cons,List.length_nil,List.getD_cons_zero,List.getD_cons_succ,List.getD_cons_zero,List.getD_cons_succ,Nat.zero_add,Nat.reduceAdd,QS];refine Qi qaF (cs:=[.int .i64 0, .int .i64 0, .int .i64 0]) (by rfl) fun k8q8 hk8q8=>?_;have hn_8q8:h8q3 k8q8=none:=by first|assumption|(simp only[AHeap.set_none]at hk8q8;simp only[hk8q8])
  have hf_8q8:h k8q8=none:=Sub.none hs_h8q3 hn_8q8;have ne_8q8_8q2:k8q8≠k8q2:=AHeap.ne_some hn_8q8 eb_8q2;simp+decide only[ev,putD,Slots.put,Slots.get,if_true,if_false,true_and,↓qd,qb];refine qm (by rfl) (by rfl) (by repeat (first|exact AHeap.set_same _ _ _|assumption|refine(AHeap.set_ne _ _ (by first|assumption|exact Ne.symm (by assumption))).trans ?_)) QD (by rfl) (by rfl) (by first|exact Nat.le_refl _|decide|(simp;done)|(simp;omega)) (Nat.zero_le _) (by rfl) ?_;simp only[AHeap.set_set,AVal.cells];simp+decide only[qa,ev,putD,Slots.get,Slots.keep,if_true,if_false,setAt,List.set_cons_zero,List.set_cons_succ,Nat.zero_add,Nat.reduceAdd];apply hK;clear hK K;refine qO ?_;rcases hcas with⟨hlt,hfe,nov,nnv⟩|⟨hlt,hfe,nov,nnv⟩
  all_goals
   refine awp_rseq [0,68] (by kernel_rfl) fun K hK=>?_;simp+decide only[qa,ev,qJ,qG,putD,Slots.put,Slots.get,Slots.keep,if_true,if_false,true_and,↓qA,ql,fa35_0,↓qF,Qb,qy ag31,↓qC,qo,qD,cond_false,qz,XD,↓qj,qf,Ur,qZ,pBinX_bne,Tryz.underlying4,↓Xn,agP,Qu,qI,qH,qw,Qd,implies_true,decide_true,decide_false,Bool.not_false,Bool.not_true,Qm,Zo,false_implies,qbD,Bool.and_true,Bool.and_false,agL_deadF,↓Zb,XI,Wy,↓Xd,qbh,↓Xc,↓ag_pick,Qt,Qg,Xk,↓QP,↓qbS,QK,QV,List.getD_cons_zero,Nat.zero_add,qh,Bool.and_true,beq_self_eq_true,hlt,hfe,nov,nnv];apply hK;clear hK K;refine qL (b:=_) rfl (fun hb2=>?_) (fun hb2=>?_)
   ·cases hb2
   ·try simp only at hb2
    refine Qa ?_;change Awp _ _ _ _ _ _ _;refine Awp.forget (h':=h8q3) (Sub.set hn_8q8) ?_;refine awp_rseq [10] (by rfl) fun K hK=>?_;simp+decide only[ev,qJ,qG,putD,Slots.put,Slots.get,if_true,if_false,true_and,↓qj,qf,↓qC,qo,qD,cond_false,qz,pI_rem,↓ap_convert _ _ _ (es_int Tryz.underlying5 Tryz.underlying3),qbC,pConv_int Tryz.underlying5 Tryz.underlying3,qZ,Xf,hrem,hwN,hwm];refine aOps_makeRow (m:=N2) (zs:=Xv noT) Tryz.underlying26 Xg by54 qby (by rfl) (by rfl) (by decide) (by rfl) (by rfl) (by omega) (by omega) fun k11q4 hk11q4=>?_;have hn_11q4:h8q3 k11q4=none:=by first|assumption|(simp only[AHeap.set_none]at hk11q4;simp only[hk11q4])
    have hf_11q4:h k11q4=none:=Sub.none hs_h8q3 hn_11q4;simp+decide only[qa,ev,putD,Slots.put,Slots.get,Slots.keep,if_true,if_false,true_and,↓qd,qb];apply hK;clear hK K;refine awp_rseq [10,11,12] (by rfl) fun K hK=>?_;simp+decide only[ev,putD,Slots.put,Slots.get,if_true,if_false,true_and,↓qj,qf];refine QI (by rfl) (by rfl) (c_copyReplace w0 _ (.slice (.own k11q4) 0 N2 (.exact N2)) .nilSlice (List.replicate N2 noT) [] (zero_row (AHeap.set_same _ _ _)) ⟨[],rfl, .nil,fun q hq=>by cases hq⟩ (by rw[List.length_replicate];omega) (by simp) (fun x hx=>by cases hx)) fun x12q1 h12q1 hx12q1=>?_;obtain⟨X,hX⟩:∃X,X=UB (List.replicate N2 noT) []:=⟨_,rfl⟩
    rw[<-hX]at hx12q1 hLR;obtain⟨bv,rfl,hout⟩:=hx12q1;have hbt:=hout.toks (w0:=w0);have hcl:bv.live=true:=hbt.1.live;have hs_h12q1:Sub h h12q1:=Sub.trans (by repeat (first|exact Sub.refl _|assumption|refine Sub.trans_set ?_ (by assumption))) hbt.2.2;have hr_h12q1:Sub h8q3 h12q1:=Sub.trans (by repeat (first|exact Sub.refl _|assumption|refine Sub.trans_set ?_ (by assumption))) hbt.2.2;have eb_11q4:=hbt.2.2 k11q4 _ (by repeat (first|exact AHeap.set_same _ _ _|assumption|refine(AHeap.set_ne _ _ (by first|assumption|exact Ne.symm (by assumption))).trans ?_));simp+decide only[qa,ev,putD,Slots.put,Slots.get,Slots.keep,if_true,if_false,true_and,↓qj,qf,↓QJ,QA,QH,List.length_cons,List.length_nil,List.getD_cons_zero,List.getD_cons_succ,↓qd,qb,List.getD_cons_zero,List.getD_cons_succ,Nat.zero_add,Nat.reduceAdd];apply hK;clear hK K;refine awp_rseq [10,11,12,13,15] (by rfl) fun K hK=>?_;refine QI (by rfl) (by rfl) (qcL w0 hm _ [67,79,80,89,32,69,46] (by decide)) fun x13q0 h13q0 hx13q0=>?_;have ht13:=hx13q0.toks (w0:=w0);have hs13:=ht13.2.2;have hs_h13q0:Sub h h13q0:=Sub.trans (by repeat (first|exact Sub.refl _|assumption|refine Sub.trans_set ?_ (by assumption))) hs13;have hr_h13q0:Sub h12q1 h13q0:=Sub.trans (by repeat (first|exact Sub.refl _|assumption|refine Sub.trans_set ?_ (by assumption))) hs13;have eb_11q4:=hs13 k11q4 _ (by repeat (first|exact AHeap.set_same _ _ _|assumption|refine(AHeap.set_ne _ _ (by first|assumption|exact Ne.symm (by assumption))).trans ?_));simp+decide only[ev,qJ,qG,putD,Slots.put,Slots.get,if_true,if_false,true_and,↓qj,qf,↓Qn,↓qV,bld57_0_1,evP,List.map_cons,List.map_nil,Sc_slice];refine QC (cs:=[.str [69], .slice (.own k11q4) 0 N2 (.exact N2)]) (by rfl) fun k13q3 hk13q3=>?_;have hn_13q3:h13q0 k13q3=none:=by first|assumption|(simp only[AHeap.set_none]at hk13q3;simp only[hk13q3])
    have hf_13q3:h k13q3=none:=Sub.none hs_h13q0 hn_13q3;have ne_13q3_11q4:k13q3≠k11q4:=AHeap.ne_some hn_13q3 eb_11q4;refine QI (by rfl) (by rfl) (qdG w0 _ x13q0 _ oneT [⟨[69],List.replicate N2 noT⟩] (ht13.1.mono (Sub.set hn_13q3)) ⟨[(⟨[69],List.replicate N2 noT⟩, .slice (.own k11q4) 0 N2 (.exact N2))],rfl,IsL.own (AHeap.set_same _ _ _) (by simp[qdt]) (by rfl) (by rfl) (.exact 1) (Nat.le_refl _),fun q hq=>by rw[List.mem_singleton.1 hq];exact(zero_row eb_11q4).mono (Sub.set hn_13q3)⟩ (by rw[one_len];omega) (by simp) (fun m hm=>by rw[List.mem_singleton.1 hm];simp only[List.length_replicate];omega)) fun x13q4 h13q4 hx13q4=>?_;obtain⟨cv,dv,g,rfl,hs13b,hc3,hc4,hcase2⟩:=hx13q4;rw[hLL]at hcase2;have hovl:cv.live=true:=by
     rcases hcase2 with⟨-,-,rfl,-⟩|⟨-,out,st,-,z,-⟩
     ·rfl
     ·exact z.live
    have hnvl:dv.live=true:=by
     rcases hcase2 with⟨-,-,-,rfl⟩|⟨-,out,st,-,-,z,-⟩
     ·rfl
     ·exact z.live
    have hs_h13q4:Sub h h13q4:=Sub.trans (by repeat (first|exact Sub.refl _|assumption|refine Sub.trans_set ?_ (by assumption))) hs13b;have hr_h13q4:Sub h13q0 h13q4:=Sub.trans (by repeat (first|exact Sub.refl _|assumption|refine Sub.trans_set ?_ (by assumption))) hs13b;have eb_13q3:=hs13b k13q3 _ (by repeat (first|exact AHeap.set_same _ _ _|assumption|refine(AHeap.set_ne _ _ (by first|assumption|exact Ne.symm (by assumption))).trans ?_));have eb_11q4:=hs13b k11q4 _ (by repeat (first|exact AHeap.set_same _ _ _|assumption|refine(AHeap.set_ne _ _ (by first|assumption|exact Ne.symm (by assumption))).trans ?_));simp+decide only[ev,putD,Slots.put,Slots.get,if_true,if_false,true_and,↓qj,qf,↓QJ,QA,QH,List.length_cons,List.length_nil,List.getD_cons_zero,List.getD_cons_succ,List.getD_cons_zero,List.getD_cons_succ,Nat.zero_add,Nat.reduceAdd,QS];refine Qi qaF (cs:=[.int .i64 0, .int .i64 0, .int .i64 0]) (by rfl) fun k13q9 hk13q9=>?_;have hn_13q9:h13q4 k13q9=none:=by first|assumption|(simp only[AHeap.set_none]at hk13q9;simp only[hk13q9])
    have hf_13q9:h k13q9=none:=Sub.none hs_h13q4 hn_13q9;have ne_13q9_11q4:k13q9≠k11q4:=AHeap.ne_some hn_13q9 eb_11q4;have ne_13q9_13q3:k13q9≠k13q3:=AHeap.ne_some hn_13q9 eb_13q3;simp+decide only[ev,putD,Slots.put,Slots.get,if_true,if_false,true_and,↓qd,qb];refine qm (by rfl) (by rfl) (by repeat (first|exact AHeap.set_same _ _ _|assumption|refine(AHeap.set_ne _ _ (by first|assumption|exact Ne.symm (by assumption))).trans ?_)) QD (by rfl) (by rfl) (by first|exact Nat.le_refl _|decide|(simp;done)|(simp;omega)) (Nat.zero_le _) (by rfl) ?_;simp only[AHeap.set_set,AVal.cells];simp+decide only[qa,ev,putD,Slots.get,Slots.keep,if_true,if_false,setAt,List.set_cons_zero,List.set_cons_succ,Nat.zero_add,Nat.reduceAdd];apply hK;clear hK K;refine awp_rseq [10,11,12,13,15,16] (by rfl) fun K hK=>?_;simp+decide only[qa,ev,qJ,qG,putD,Slots.put,Slots.keep,if_true,if_false,true_and,↓qd,qb];apply hK;clear hK K;refine qO ?_;have h0N:((0:Int)=(N2:Int))=False:=eq_false (by omega);refine awp_rseq [10,11,12,13,15,16,90] (by rfl) fun K hK=>?_;simp+decide only[qa,ev,qJ,qG,putD,Slots.put,Slots.get,Slots.keep,if_true,if_false,true_and,↓qj,qf,↓XA,QK,XV Tryz.underlying26,↓qC,qo,qD,cond_false,qz,Ur];apply hK;clear hK K;refine qL (b:=_) rfl (fun hb3=>?_) (fun hb3=>?_)
    ·try simp only[decide_eq_true_eq]at hb3
     have h65:65536<N2:=by omega
     rw[if_pos h65]at hLR hcase2;subst hLR;have nbv:∀H,ZE Tryz.prog H 26 bv=⟨True, .int .i64 0⟩:=Za hbt.1;obtain⟨hge,ncv⟩:g.e=3/\(∀H,ZE Tryz.prog H 26 cv=⟨True, .int .i64 0⟩):=by
      rcases hcase2 with⟨-,e,rfl,rfl⟩|⟨-,out,st,e,-⟩
      ·injection e with e
       exact⟨by rw[<-e],Za (l:=[]) (w0:=w0) (h:=h) .nil⟩
      ·cases e
     have hX2:True:=trivial;refine XK [10,11,12,13,15,16] (by rfl) ?_;simp+decide only[qa,ev,qJ,qG,putD,Slots.put,Slots.keep,if_true,if_false,true_and,↓qd,qb];change Awp _ _ _ _ _ _ _;refine awp_rseq [2] (by kernel_rfl) fun K hK=>?_;simp+decide only[ev,qJ,qG,putD,Slots.put,Slots.get,if_true,if_false,true_and,↓qj,qf,↓qC,qo,qZ,cond_false,qz,XD,↓Xn,ql,agP,Qu,qI,qH,qw,implies_true,decide_true,decide_false,Qm,Bool.and_true,fa35_0,↓Zb,XI,Wy,qy ag31,↓Xc,↓Xd,↓QP,Qt,Qg,Xk,qD,↓qbS,QK,XV Tryz.underlying26,pBinX_beq,Tryz.underlying4,QV,List.getD_cons_zero,Nat.zero_add,qh,Bool.and_true,beq_self_eq_true,nbv,ncv,hge,h0N]
     (refine Yf (by rfl) ?_;refine qM (V:= .bool true) (by rfl) (by rfl) (c_lives04 w0 hm _) ?_)
     simp+decide only[qa,ev,qJ,qG,putD,Slots.put,Slots.get,Slots.keep,if_true,if_false,true_and,↓QP,Qt,Qg,Xk,↓qd,qb,Bool.and_true];apply hK;clear hK K;refine qN ?_;refine qU h (by repeat (first|exact Sub.refl _|assumption|refine Sub.trans_set ?_ (by assumption))) (qY (Qe)) ?_;simp+decide only[Slots.get,if_true,and_true,Qv];all_goals first|rfl|exact⟨rfl,rfl⟩|(simp+decide only[if_true,if_false, *];done)|(trace_state;fail)
    ·try simp only[decide_eq_false_iff_not]at hb3
     have h65:¬65536<N2:=by omega
     rw[if_neg h65]at hLR hcase2;subst hLR;have nbv:=Za hbt.1;simp only[List.length_replicate]at nbv;obtain⟨hge,ncv⟩:g.e=0/\(∀H,ZE Tryz.prog H 26 cv=⟨True, .int .i64 (N2:Int)⟩):=by
      rcases hcase2 with⟨-,z,-⟩|⟨rfl,out,st,e,z1,z2,-⟩
      ·cases z
      ·injection e with e1 e2
       subst e1;have:=Za z1;rw[List.length_replicate]at this;exact⟨rfl,this⟩
     have hX2:True:=trivial;refine Qa ?_;change Awp _ _ _ _ _ _ _;refine awp_rseq [2] (by kernel_rfl) fun K hK=>?_;try simp only
     simp+decide only[ev,qJ,qG,putD,Slots.put,Slots.get,if_true,if_false,true_and,↓qj,qf,↓qC,qo,qZ,cond_false,qz,XD,↓Xn,ql,agP,Qu,qI,qH,qw,implies_true,decide_true,Qm,Bool.and_true,fa35_0,↓Zb,XI,Wy,qy ag31,↓Xc,↓Xd,↓QP,Qt,Qg,Xk,qD,↓qbS,QK,XV Tryz.underlying26,pBinX_beq,Tryz.underlying4,QV,List.getD_cons_zero,Nat.zero_add,qh,Bool.and_true,beq_self_eq_true,nbv,ncv,hge]
     (refine Yf (by rfl) ?_;refine qM (V:= .bool true) (by rfl) (by rfl) (c_lives04 w0 hm _) ?_)
     simp+decide only[qa,ev,qJ,qG,putD,Slots.put,Slots.get,Slots.keep,if_true,if_false,true_and,↓QP,Qt,Qg,Xk,↓qd,qb,Bool.and_true];apply hK;clear hK K;refine qN ?_;refine qU h (by repeat (first|exact Sub.refl _|assumption|refine Sub.trans_set ?_ (by assumption))) (qY (Qe)) ?_;simp+decide only[Slots.get,if_true,and_true,Qv];all_goals first|rfl|exact⟨rfl,rfl⟩|(simp+decide only[if_true,if_false, *];done)|(trace_state;fail)
end Go.Proofs.YtlhhaagmakhilaaGreatDoor
namespace Go.Proofs.YtlhhaagmakhilaaGreatDoor
open Go.AM
open Go.ChangeShapes Go.WideShapes Go.ChangeAt Go.RowKit
set_option maxRecDepth 100000
section
variable {H:Type} {enc:TypeId×Value->H} {W:World} {base:Nat} {v:Value} {x:DataW H×List MemPlace}
theorem u8_of{n:Int}(h:(Lit.int .u8 n).wf=true):∃b:UInt8,(b.toNat:Int)=n:=by
 have:=wf_u8 h;exact⟨UInt8.ofNat n.toNat,by rw[UInt8.toNat_ofNat'];omega⟩
theorem arg_u8{t:TypeId}(ht:Tryz.prog.underlying t=some (.int .u8))(h:∃fuel,DataW.trod enc Tryz.prog W 0 (fun _=>true) true fuel t v.cells.toList=some x)(hv:Value.okWide Tryz.prog W .any base t v):
 ∃b:UInt8,VR (fun _=>none) (.int .u8 b.toNat) v:=by
 obtain⟨fuel,hf⟩:=h;obtain⟨n,hcs,_,hw⟩:=DataW.trod_int ht hf;obtain⟨b,hb⟩:=u8_of hw;obtain⟨m,rfl⟩:=okWide_int ht hv;refine⟨b,?_⟩;simp[Value.cells]at hcs;simp only[VR,hb,hcs]
end
theorem returns_and_shaped{H:Type}{enc:TypeId×Value->H}{a:Assume}{C:Checked}{os:Os}{f:FuncId}{fn:Func}{s:ChangeSpec}{conds:List PathCond}{apart fresh handsOn again:Bool}{X:World->Array Value->Prop}
 (hX:∀(w w':World) (args:Array Value),w.heap=w'.heap->X w args->X w' args)
 (own:ownKnob C.prog.godebug=none) (started:os.Started) (noInit:C.prog.inits.idxOf? f=none) (hfn:C.prog.funcs[f]?=some fn)
 (witness:∃(w:World) (tape:Tape) (i:Input),w.os=os/\(w.forCall tape i).Shaped C.prog/\i.vars=[]/\Input.okWide C.prog (w.forCall tape i) .any w.heap.size f i/\
   ((s.pre enc C.prog fn conds apart (w.forCall tape i).memory i.args/\X (w.forCall tape i).memory i.args)/\sizedMet enc C.prog fn (OpenSpec.ofChange s) apart (w.forCall tape i).memory i.args)/\a.holds C.prog (lone (Frame.enter C.prog f i.args .normal) [] (w.forCall tape i)))
 (contract:∀(W:World) (base:Nat) (args:Array Value) (ds gs:List (DataW H)) (before:List MemPlace),W.ShapedOpen C.prog->
   (∀(j:Nat) t v,fn.params[j]?=some t->args[j]?=some v->Value.okWide C.prog W .any base t v)->
   DataW.Whole enc C.prog fn.params.toList s.vars apart W args.toList ds gs before->
   conds.all (PathCond.test C.prog ⟨fn.params.toList,ds,s.plain.varTypes C.prog,gs⟩)=true->
   (DataW.weightsEach C.prog (fn.params.toList++s.plain.varTypes C.prog) (ds++gs)).all (· <=reachBytes)=true->X W args->
   a.holds C.prog (lone (Frame.enter C.prog f args .normal) [] W)->
   Calls C.prog f args W fun e W'=>∃v,e= .returned v/\s.post enc C.prog fn apart fresh handsOn again W args v W'):
 ReturnsInHanded a C os f .any (fun w args=>(s.pre enc C.prog fn conds apart w args/\X w args)/\sizedMet enc C.prog fn (OpenSpec.ofChange s) apart w args) (s.post enc C.prog fn apart fresh handsOn again):=by
 refine returnsInHanded_of_calls own started noInit witness ?_;intro w tape i _ hsh _ hok hpre hholds;obtain⟨_,_,_,fn',hfn',_,_,_,_,hval⟩:=hok;have e:fn'=fn:=Option.some.inj (hfn'.symm.trans hfn);subst e;obtain⟨⟨⟨ds,gs,before,hw,hc⟩,hx⟩,hz⟩:=hpre;have hw':=DataW.Whole.of_heap (w':=w.forCall tape i) (by rfl) hw;refine(contract (w.forCall tape i) w.heap.size i.args ds gs before hsh hval hw' hc (hz.weights hw) (hX _ _ _ (by rfl) hx) hholds).mono fun e W' ⟨v,he,hp⟩=>?_;subst he;exact ChangeSpec.post_blind hp
end Go.Proofs.YtlhhaagmakhilaaGreatDoor
namespace Go.Proofs.YtlhhaagmakhilaaGreatDoor
open Go.AM
open Go.ChangeShapes Go.WideShapes Go.ChangeAt Go.RowKit
set_option maxRecDepth 100000
theorem maxl_of{W:World}(h:W.ShapedOpen Tryz.prog):MaxL W:=
 cell_of_shapedOpen_int (t:=3) (zero:= #[.int .i64 0]) h (of_decide_eq_true (by kernel_rfl)) (by kernel_rfl) rfl (by kernel_rfl) (by kernel_rfl) Tryz.underlying3
end Go.Proofs.YtlhhaagmakhilaaGreatDoor
