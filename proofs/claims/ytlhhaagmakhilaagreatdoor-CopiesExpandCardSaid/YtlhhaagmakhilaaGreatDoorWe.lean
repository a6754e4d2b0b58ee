/-
  Texts of this proof, joined: CqI, CqJ, CqK, CqL, CqM, CqN, CqO, CqP, CqQ, CqR, TkU, CsA, CsB, BmB, CsC, CtA, CtB, BmG, CtC, CtD, CtE.
  Conditions: none.
-/
import Derived.Test.YtlhhaagmakhilaaGreatDoorWd
import Derived.Test.YtlhhaagmakhilaaGreatDoorWb
set_option linter.unusedSimpArgs false
set_option linter.unnecessarySimpa false
set_option linter.unusedVariables false
open Go.AM.IsL renaming buf->BH,own->Ba
open Go.AM.Sub renaming refl->Vm,buf->BJ,trans_set->V5,set->Vh,none->Bi,set_both->Bb,trans->BL
open Go.AM.AHeap renaming set_same->Ve,set_ne->Vd,set_none->V9,set_set->Vi,ne_some->Bj,set_comm->Vj,del->Vl,set->Bf
open List renaming length_map->Jp,set_cons_zero->VY,getD_cons_zero->VZ,map_cons->Ke,map_nil->Vk,map_append->Bd,append_assoc->Ja,length_append->Jc,length_cons->KY,length_nil->J9,flatten_append->Eu,getElem?_map->Ej,getElem?_eq_getElem->JA,getD->Ko,mem_of_getElem?->J2,length_drop->K6,eq_nil_of_length_eq_zero->Kg,mem_map->JH,drop_length->JZ,append_nil->Bg,getD_cons_succ->Kn,set_cons_succ->Kj,length_take->K5,mem_append->JJ,mem_singleton->BG,length_singleton->JS,mem_cons->KX,nil_append->Je,cons_append->Kh,contains_iff_mem->JX,findIdx?_map->Ex,getElem_map->Ey,take_succ_cons->Ki,take_zero->V8,map_eq_nil_iff->VW,any_eq_true->JY,drop_succ_cons->VE,drop_zero->KQ,take_add_one->VL,getElem_mem->VJ,length_range->Ez,length_replicate->EA,length_set->EB,length_reverse->V6,not_mem_nil->Bn,all_eq_true->JD,take_nil->EC,drop_nil->ED,take_of_length_le->Jr,getElem?_append_right->VD,getElem?_drop->Kq,getElem?_append_left->EF,getElem?_take->K3,getElem?_mapIdx->EG,flatten_cons->VA,length->BR,range->KP,mem_range->JE,drop_drop->BP,getElem?_eq_some_iff->JB,filterMap_cons->VK,filterMap_nil->Ep,getElem?_cons_zero->Kz,getElem?_cons_succ->KM
open Nat renaming le_of_ble_eq_true->VN,zero_add->Js,zero_le->Jt,le_refl->KL,add_zero->K7,sub_self->Ew,lt_or_ge->KU,le_trans->V7,mul_one->BK,min_eq_left->EE,mul_div_cancel->Vo,lt_of_not_le->JP,eq_or_lt_of_le->JC
open Go.AM.Slots renaming put->VO,keep->VP,get->VQ
open Go.AM.AVal renaming cells->VX,okIn->Be
open Bool renaming and_true->JU,and_eq_true->Ky,or_eq_true->JW,not_eq_true'->Jj,and_eq_false_iff->VS,or_eq_false_iff->VT,not_eq_false'->VU,true_and->Vg
open Int renaming toNat_natCast->Vr,tmod->EH,tmod_eq_emod_of_nonneg->EI
open Go.Proofs.YtlhhaagmakhilaaGreatDoor.Sub renaming bufBoth->Ev
open Option renaming getD_some->VM,isSome_some->JK
open Go.AM.Awp renaming forget->BI
open Array renaming getD->JF,replicate->Jy
open Go.AM.PMap renaming le_trans->J7
open UInt8 renaming toNat->EJ,ofNat->KD
namespace Go.Proofs.YtlhhaagmakhilaaGreatDoor
open Go.AM
open Go.Proofs
open Go.Col
open Go.Tok
open Go.Cop
open Go.RowKit (Below)
set_option maxRecDepth 100000
theorem qgW(v:AVal):Yp (Yp v)=Yp v:=by cases v<;>rfl
def OutR(h:AHeap)(out:List TokC)(v:AVal)(h':AHeap):Prop:=∃tb,v=Yp (QH 5 tb)/\bufOk h 5 tb/\Yh tb=(out.map QI).flatten/\h'=Ql h tb
theorem OutR.toks{wz:World}{h h':AHeap}{out:List TokC}{v:AVal}(hr:OutR h out v h'):IsL wz h' 5 v (out.map QI)/\Yp v=v/\Sub h h':=by
 obtain⟨tb,rfl,h1,h2,rfl⟩:=hr;exact⟨(BH h1 (by decide) h2 Xn (Vm _)).clip,qgW _,BJ h1⟩
theorem OutR.nil(h:AHeap):OutR h [] .nilSlice h:=⟨none,rfl,trivial,rfl,rfl⟩
theorem qnm{H:AHeap}{es:Nat}{b:Option Buf}{j:Nat}(hb:bufOk H es b)(hj:Ql H b j=none)(c:Blk):bufOk (H.set j c) es b:=by
 cases b with
 |none=>trivial
 |some b=>
  have hne:b.blk≠j:=fun e=>by
   rw[<-e,show Ql H (some b)=H.set b.blk ⟨b.cells,0⟩from rfl,Ve]at hj;cases hj
  exact⟨(Vd _ _ hne).trans hb.1,hb.2⟩
structure RpG where
 at_:Nat
 ka:Nat
 tb:Option Buf
 out:List TokC
structure RpOk(h:AHeap)(k0:Nat)(lv:AVal)(l:List TokC)(rs:List RepC)(s:RpG):Prop where
 at_:s.at_<=l.length
 new:h s.ka=none/\s.ka≠k0
 ok:bufOk ((h.set k0 ⟨[lv],0⟩).set s.ka ⟨[.int .i64 s.at_],0⟩) 5 s.tb
 eq:Yh s.tb=(s.out.map QI).flatten
 go:s.out++WL rs (l.drop s.at_)=WL rs l
set_option maxHeartbeats 2000000 in
theorem qmk(wz:World)(h:AHeap)(lv rv:AVal)(l:List TokC)(rs:List RepC)(hlv:IsL wz h 5 lv (l.map QI))(hrv:IsReps wz h rv rs)(hl:l.length<=1000000)(hrl:rs.length<=1000000)(hn:∀x∈rs,x.new.length<=1000000):
 ACall Tryz.prog wz 16 [lv,rv] h (fun r h'=>∃v,r= .tuple [v, .int .i64 (qdv l rs).2]/\OutR h (qdv l rs).1 v h'):=by
 obtain⟨qs,hqs,hq2,hq3⟩:=hrv;have hll:=hlv.live;have hls:=hlv.scal;have nl:=Zc hlv;have hlr:=hq2.live;have nr:=qnG hq2;have hqn:qs.length=rs.length:=by rw[hqs,Jp]
 obtain⟨an,han⟩:∃b,b=rs.any (fun x=>decide (x.old=[])):=⟨_,rfl⟩
 have hanq:qs.any (fun q=>decide (q.1.old=[]))=an:=by rw[han,hqs,List.any_map];rfl
 have hR:qdv l rs=if an=true then([],1)else if 65536<(WL rs l).length then([],3)else(WL rs l,0):=by rw[han];rfl
 refine qU (n:=50) (rs:=[.tmp 4, .tmp 5]) Tryz.func16 rfl rfl rfl rfl (VN rfl) ?_;simp only[Qg];refine awp_rseq [1,2] (by rfl) fun K hK=>?_;refine Wt (v:=lv) (cs:=[lv]) (by rfl) hll hlv.cells fun k0q0 hk0q0=>?_;try have hf_0q0:h k0q0=none:=by first|assumption|(simp only[V9]at hk0q0;simp only[hk0q0])
 simp+decide only[qa,ev,qH,qG,putD,VO,VP,Ka,Kb,↓qd,qb,Js];apply hK;clear hK K;refine qJ ?_;refine awp_rseq [1,2,10] (by rfl) fun K hK=>?_;simp+decide only[ev,putD,VO,VQ,Ka,Kb,↓qg,qc];refine qO (V:= .bool an) (by rfl) (by rfl) (by rw[<-hanq];exact qAd wz _ rv qs (hq2.mono zqB) (fun q hm=>(hq3 q hm).mono zqB) (by omega)) ?_;simp+decide only[qa,putD,VO,VP,Ka];apply hK;clear hK K;refine qI (b:=_) rfl (fun hb1=>?_) (fun hb1=>?_)
 ·skip
  refine awp_rseq [4,5] (by rfl) fun K hK=>?_;simp+decide only[qa,ev,qH,qG,putD,VO,VP,Ka,Kb,↓qd,qb];apply hK;clear hK K;refine qL ?_;try simp only[Qe]
  refine Qb h zqB (qN (qN (Qc))) ?_;simp+decide only[VQ,Ka,WY];rw[hR,if_pos hb1];exact⟨.nilSlice,rfl,OutR.nil h⟩
 ·skip
  rw[if_neg (by rw[hb1];decide)]at hR;have hrs:∀x∈rs,x.old≠[]:=fun x hx e=>by
   rw[hb1]at han;have:=han.symm;rw[List.any_eq_false]at this;exact this x hx (by simp[e])
  refine qP ?_;change Awp _ _ _ _ _ _ _;refine awp_rseq [1,2,6] (by rfl) fun K hK=>?_;simp+decide only[qa,ev,qH,qG,putD,VO,VP,Ka,Kb,↓qd,qb];apply hK;clear hK K;refine qJ ?_;refine awp_rseq [1,2,6,7] (by rfl) fun K hK=>?_;refine Qi ze3 (cs:=[.int .i64 0]) (by rfl) fun k4q0 hk4q0=>?_;have ne_4q0_0q0:k4q0≠k0q0:=by simp only[V9]at hk4q0;simp only[hk4q0,ne_eq,not_false_eq_true]
  try have hf_4q0:h k4q0=none:=by first|assumption|(simp only[V9]at hk4q0;simp only[hk4q0])
  refine qp (by rfl) (by rfl) zqA sz3 (by rfl) (by rfl) zqD (Jt _) (by rfl) ?_;simp only[Vi,VX];simp+decide only[qa,ev,qH,qG,putD,VO,VP,Ka,setAt,VY];apply hK;clear hK K;refine Qm ?_;refine XC [1,2,6,7] (fun s:RpG=>[(1,rv),(2, .ptr (.own k0q0) 0),(6,QH 5 s.tb),(7, .ptr (.own s.ka) 0)]) (fun s:RpG=>Ql ((h.set k0q0 ⟨[lv],0⟩).set s.ka ⟨[.int .i64 s.at_],0⟩) s.tb) (fun s:RpG=>RpOk h k0q0 lv l rs s/\s.out.length<=65536) (fun s:RpG=>l.length-s.at_) ⟨0,k4q0,none,[]⟩ (by rfl) (Vm _) ⟨⟨Jt _,⟨hf_4q0,ne_4q0_0q0⟩,trivial,rfl,rfl⟩,Jt _⟩ ?_;rintro⟨at_,ka,tb,out⟩ ⟨⟨g1,⟨g2,ne_a_0q0⟩,g4,g5,g6⟩,g7⟩;simp only at g1 g2 ne_a_0q0 g4 g5 g6 g7|-
  obtain⟨G,hG⟩:∃G,G=(h.set k0q0 ⟨[lv],0⟩).set ka ⟨[.int .i64 at_],0⟩:=⟨_,rfl⟩
  rw[<-hG]at g4|-
  have hsG:Sub h G:=by rw[hG];exact V5 (Vh hf_0q0) g2
  have gb_0:G k0q0=some ⟨[lv],0⟩:=by rw[hG];exact(Vd _ _ ne_a_0q0.symm).trans (Ve _ _ _)
  have gb_a:G ka=some ⟨[.int .i64 at_],0⟩:=by rw[hG];exact Ve _ _ _
  obtain⟨H1,hH1⟩:∃H1,H1=Ql G tb:=⟨_,rfl⟩
  have hs_H1:Sub h H1:=by rw[hH1];exact hsG.trans (BJ g4)
  have eb_0q0:H1 k0q0=some ⟨[lv],0⟩:=by rw[hH1];exact ZY g4 gb_0
  have eb_a:H1 ka=some ⟨[.int .i64 at_],0⟩:=by rw[hH1];exact ZY g4 gb_a
  have hbl:=QP 5 tb;rw[<-hH1];refine qJ ?_;refine awp_rseq [1,2,6,7,14] (by rfl) fun K hK=>?_;simp+decide only[qa,ev,putD,VO,VQ,VP,Ka,Kb,↓qF,qY,qz ag3,qz qaw,↓Xe,Qw,↓qw,qm,qR,cond_false,qo,XZ,QB wz eb_0q0,QB wz eb_a,VZ,qi,hll,nl];apply hK;clear hK K;refine qI (b:=_) rfl (fun hb2=>?_) (fun hb2=>?_)
  ·try simp only[decide_eq_true_eq]at hb2
   have hat:at_<l.length:=by omega
   have hst:=qgb hrs hat;refine qP ?_;change Awp _ _ _ _ _ _ _;refine qJ ?_;refine Qm ?_;refine awp_rseq [1,2,6,7,8] (by rfl) fun K hK=>?_;simp+decide only[ev,putD,VO,VQ,Ka,Kb,↓qg,qc,↓qfJ,qel,evs,Ke,Vk];refine qO (V:= .int .i64 (qbV (fun q=>Yb (l.drop at_) q.1.old) qs)) (by rfl) (by rfl) (qpW wz _ rv qs _ [.ptr (.own k0q0) 0, .ptr (.own ka) 0] (fun q=>Yb (l.drop at_) q.1.old) (hq2.mono zqB) (fun q hm=>⟨(hq3 q hm).lives.1,(hq3 q hm).lives.2.1⟩) (by omega) (by rfl) (fun q hm=>qBz wz _ q ((hq3 q hm).mono zqB) k0q0 ka lv l at_ zqA zqA (hlv.mono zqB) (by omega) g1)) ?_;simp+decide only[qa,ev,putD,VO,VQ,VP,Ka,Kb,↓qd,qb];apply hK;clear hK K;refine qJ ?_;refine awp_rseq [1,2,6,7,8,19] (by rfl) fun K hK=>?_;simp+decide only[qa,ev,qH,qG,putD,VO,VQ,VP,Ka,Kb,↓qg,qc,↓qw,qm,qA,cond_false,qo,XZ];apply hK;clear hK K;refine UH [1,2,6,7] (fun s:RpG=>[(1,rv),(2, .ptr (.own k0q0) 0),(6,QH 5 s.tb),(7, .ptr (.own s.ka) 0)]) (fun s:RpG=>Ql ((h.set k0q0 ⟨[lv],0⟩).set s.ka ⟨[.int .i64 s.at_],0⟩) s.tb) (fun s:RpG=>RpOk h k0q0 lv l rs s/\s.out.length<=2000000/\at_<s.at_) ?_ ?_
   ·refine qI (b:=_) rfl (fun hb3=>?_) (fun hb3=>?_)
    ·try simp only[decide_eq_true_eq]at hb3
     have hnone:rs.find? (fun x=>Yb (l.drop at_) x.old)=none:=by
      rcases qll (r:=rs) (p:=fun x=>Yb (l.drop at_) x.old)with z|⟨i,x,z1,z2,z3,z4⟩
      ·exact z.2
      ·exfalso
       have e:qbV (fun q:RepQ=>Yb (l.drop at_) q.1.old) qs=i:=by
        rw[<-qhR (fun q:RepQ=>q.1) (fun x:RepC=>Yb (l.drop at_) x.old) qs,<-hqs];unfold qbV;rw[z1]
       omega
     rw[hnone]at hst;obtain⟨lc,o,c,rfl⟩:=YD hlv (by omega);obtain⟨t,ht⟩:∃t,t=l.getD at_ Zi:=⟨_,rfl⟩
     rw[show l.getD at_ noT=t from ht.symm]at hst;obtain⟨e0,e1,e2,e3,e4⟩:=YP (hlv.mono hs_H1) hat;rw[<-ht]at e0 e1 e2 e3 e4;have e2':rd wz H1 lc (o+at_*5+1+1)= .int .i64 t.line:=e2;have e3':rd wz H1 lc (o+at_*5+1+1+1)= .int .i64 t.col:=e3;have e4':rd wz H1 lc (o+at_*5+1+1+1+1)= .bool t.left:=e4;refine awp_rseq [1,2,6,7] (by rfl) fun K hK=>?_;simp+decide only[ev,putD,VO,VQ,Ka,Kb,↓qg,qc,↓qF,qY,qz qaw,qz ag3,↓QE,qW Tryz.underlying26 Xb,qh ZB Xb,QB wz eb_0q0,QB wz eb_a,qf,VZ,qD,qi,qE,allLive,JU,hll,e0,e1,e2',e3',e4',Vr];repeat (with_reducible refine And.intro ?_ ?_;· first|trivial|omega|(intro hg;simp only[Ky,JW,Jj,VS,VT,VU,decide_eq_true_eq,decide_eq_false_iff_not,XY]at hg;omega))
     refine Qr (cs:=QI t) (by kernel_rfl) fun k8q5 hk8q5=>?_;have hn_8q5:H1 k8q5=none:=by first|assumption|(simp only[V9]at hk8q5;simp only[hk8q5])
     have hf_8q5:h k8q5=none:=Bi hs_H1 hn_8q5;have ne_8q5_0q0:k8q5≠k0q0:=Bj hn_8q5 eb_0q0;have ne_8q5_a:k8q5≠ka:=Bj hn_8q5 eb_a;refine Xt (es:=5) (zs:=out.map QI) (xs:=[QI t]) (hZ:=G) (b:=tb) (by rfl) (by rfl) Tryz.underlying26 Tryz.underlying26 (fun k e=>by cases e) Xb qha qat (by rfl) (by decide) (by rfl) g4 g5 Xn (by rw[<-hH1];exact zqB) (by rfl) (Ba (Ve _ _ _) (by simp[QI]) (by rfl) (by rfl) (.exact 1) (KL _)) (by rfl) (by simp;omega) (by simp;omega) fun tb2 h8 o1 o2 o3=>?_;have eb8:=o3 _ _ (ZY o1 gb_a);simp+decide only[qa,ev,putD,VO,VQ,VP,Ka,Kb,↓qd,qb];apply hK;clear hK K;refine XW [1,2,6,7] (by rfl) ?_;simp+decide only[ev,qH,qG,putD,VO,VQ,Ka,Kb,↓qF,qY,qz ag3,↓qw,qm,qA,cond_false,qo,Xa,VZ,qi,QB wz eb8];try simp(disch:=omega)only[wrap_i64]
     refine qp (by rfl) (by rfl) zqA sz3 (by rfl) (by rfl) zqD (Jt _) (by rfl) ?_;simp only[VX];simp+decide only[qa,ev,putD,VQ,VP,Ka,setAt,VY];try simp only[Qj]
     first
     |exact⟨⟨at_+1,ka,tb2,out++[t]⟩,rfl,by(rw[show(h.set k0q0 ⟨[.slice lc o l.length c],0⟩).set ka ⟨[.int .i64 ((at_+1:Nat):Int)],0⟩=G.set ka ⟨[.int .i64 ((at_+1:Nat):Int)],0⟩ by rw[hG,Vi],<-Wv o1 gb_a];exact Bb o3 _ _),⟨hat,⟨g2,ne_a_0q0⟩,by(rw[show(h.set k0q0 ⟨[.slice lc o l.length c],0⟩).set ka ⟨[.int .i64 ((at_+1:Nat):Int)],0⟩=G.set ka ⟨[.int .i64 ((at_+1:Nat):Int)],0⟩ by rw[hG,Vi]];exact Yk o1 gb_a _),by rw[o2,Bd];rfl,by rw[<-g6,hst,Ja];rfl⟩,by(simp only[Jc,KY,J9];omega),by(simp only;omega)⟩
     |exact⟨⟨at_+x.old.length,ka,tb2,out++x.new⟩,rfl,by(rw[show(h.set k0q0 ⟨[lv],0⟩).set ka ⟨[.int .i64 ((at_+x.old.length:Nat):Int)],0⟩=G.set ka ⟨[.int .i64 ((at_+x.old.length:Nat):Int)],0⟩ by rw[hG,Vi],<-Wv o1 gb_a];exact Bb o3 _ _),⟨by(simp only;omega),⟨g2,ne_a_0q0⟩,by(rw[show(h.set k0q0 ⟨[lv],0⟩).set ka ⟨[.int .i64 ((at_+x.old.length:Nat):Int)],0⟩=G.set ka ⟨[.int .i64 ((at_+x.old.length:Nat):Int)],0⟩ by rw[hG,Vi]];exact Yk o1 gb_a _),by rw[o2,Bd,Eu],by rw[<-g6,hst,Ja]⟩,by(simp only[Jc];omega),by(simp only;omega)⟩
    ·try simp only[decide_eq_false_iff_not]at hb3
     obtain⟨i,x,z1,z2,z3,z4⟩:∃i x,rs.findIdx? (fun x=>Yb (l.drop at_) x.old)=some i/\rs.find? (fun x=>Yb (l.drop at_) x.old)=some x/\i<rs.length/\rs[i]?=some x:=by
      rcases qll (r:=rs) (p:=fun x=>Yb (l.drop at_) x.old)with z|z
      ·exfalso
       have e:qbV (fun q:RepQ=>Yb (l.drop at_) q.1.old) qs= -1:=by
        rw[<-qhR (fun q:RepQ=>q.1) (fun x:RepC=>Yb (l.drop at_) x.old) qs,<-hqs];unfold qbV;rw[z.1]
       omega
      ·exact z
     have e:qbV (fun q:RepQ=>Yb (l.drop at_) q.1.old) qs=i:=by
      rw[<-qhR (fun q:RepQ=>q.1) (fun x:RepC=>Yb (l.drop at_) x.old) qs,<-hqs];unfold qbV;rw[z1]
     rw[e];rw[z2]at hst;have hiq:i<qs.length:=by omega
     obtain⟨q,hqe⟩:∃q,q=qs.getD i qjc:=⟨_,rfl⟩
     have hqm:q∈qs:=by rw[hqe];exact qaZ qjc hiq
     have hq1:q.1=x:=by
      rw[hqs,Ej,JA hiq]at z4;rw[hqe,Ko,JA hiq];exact Option.some.inj z4
     have hqk:=hq3 q hqm;obtain⟨y1,y2,y3,y4⟩:=hqk.lives;have hxm:x∈rs:=J2 z4;have hxn:=hn x hxm;have hfit:=quF (l:=l.drop at_) (o:=x.old) (by have:=List.find?_some z2;exact this);rw[K6]at hfit;have hxo:0<x.old.length:=by
      rcases Nat.eq_zero_or_pos x.old.length with w|w
      ·exact absurd (Kg w) (hrs x hxm)
      ·exact w
     obtain⟨lcr,orr,cr,rfl⟩:=qkE hq2 (by omega);obtain⟨-,d1⟩:=qnH (hq2.mono hs_H1) hiq;rw[<-hqe]at d1;have nold:=Zc hqk.old;rw[hq1]at nold;have hnw:=hqk.new;rw[hq1]at hnw;refine awp_rseq [1,2,6,7,8] (by rfl) fun K hK=>?_;simp+decide only[ev,putD,VO,VQ,Ka,Kb,↓qg,qc,↓QE,qY,qW Tryz.underlying43 qea,↓qB,ql,qwV,↓qF,qz qaw,d1,y2,Vr];repeat (with_reducible refine And.intro ?_ ?_;· first|trivial|omega|(intro hg;simp only[Ky,JW,Jj,VS,VT,VU,decide_eq_true_eq,decide_eq_false_iff_not,XY]at hg;omega))
     refine Xt (es:=5) (zs:=out.map QI) (xs:=x.new.map QI) (hZ:=G) (b:=tb) (by rfl) (by rfl) Tryz.underlying26 Tryz.underlying26 (fun k e=>by cases e) Xb qha qat (by rfl) (by decide) (by rfl) g4 g5 Xn (by rw[<-hH1];exact zqB) (by rfl) (hnw.mono zqB) (by rw[YT];intro z hz;obtain⟨t,_,rfl⟩:=JH.1 hz;rfl) (by simp;omega) (by simp;omega) fun tb2 h10 o1 o2 o3=>?_;have eb10:=o3 _ _ (ZY o1 gb_a);have hs10:Sub h h10:=(hsG.trans (BJ o1)).trans o3;obtain⟨d0,-⟩:=qnH (hq2.mono hs10) hiq;rw[<-hqe]at d0;simp+decide only[qa,ev,putD,VO,VQ,VP,Ka,Kb,↓qd,qb];apply hK;clear hK K;refine qbD 8 mixed (by kernel_rfl) (by rfl) (by rfl) ?_;simp+decide only[ev,putD,VO,VQ,Ka,Kb,↓qF,qY,qz ag3,↓qg,qc,↓QE,qW Tryz.underlying43 qea,↓qB,ql,qiO,qz qaw,↓Xe,Qw,↓qw,qm,qR,cond_false,qo,Xa,VZ,qi,QB wz eb10,d0,y1,nold,Vr,K7];try simp(disch:=omega)only[wrap_i64]
     repeat (with_reducible refine And.intro ?_ ?_;· first|trivial|omega|(intro hg;simp only[Ky,JW,Jj,VS,VT,VU,decide_eq_true_eq,decide_eq_false_iff_not,XY]at hg;omega))
     refine qp (by rfl) (by rfl) zqA sz3 (by rfl) (by rfl) zqD (Jt _) (by rfl) ?_;simp only[VX];simp+decide only[qa,ev,putD,VQ,Ka,setAt,VY];try simp only[Qj]
     first
     |exact⟨⟨at_+1,ka,tb2,out++[t]⟩,rfl,by(rw[show(h.set k0q0 ⟨[.slice lc o l.length c],0⟩).set ka ⟨[.int .i64 ((at_+1:Nat):Int)],0⟩=G.set ka ⟨[.int .i64 ((at_+1:Nat):Int)],0⟩ by rw[hG,Vi],<-Wv o1 gb_a];exact Bb o3 _ _),⟨hat,⟨g2,ne_a_0q0⟩,by(rw[show(h.set k0q0 ⟨[.slice lc o l.length c],0⟩).set ka ⟨[.int .i64 ((at_+1:Nat):Int)],0⟩=G.set ka ⟨[.int .i64 ((at_+1:Nat):Int)],0⟩ by rw[hG,Vi]];exact Yk o1 gb_a _),by rw[o2,Bd];rfl,by rw[<-g6,hst,Ja];rfl⟩,by(simp only[Jc,KY,J9];omega),by(simp only;omega)⟩
     |exact⟨⟨at_+x.old.length,ka,tb2,out++x.new⟩,rfl,by(rw[show(h.set k0q0 ⟨[lv],0⟩).set ka ⟨[.int .i64 ((at_+x.old.length:Nat):Int)],0⟩=G.set ka ⟨[.int .i64 ((at_+x.old.length:Nat):Int)],0⟩ by rw[hG,Vi],<-Wv o1 gb_a];exact Bb o3 _ _),⟨by(simp only;omega),⟨g2,ne_a_0q0⟩,by(rw[show(h.set k0q0 ⟨[lv],0⟩).set ka ⟨[.int .i64 ((at_+x.old.length:Nat):Int)],0⟩=G.set ka ⟨[.int .i64 ((at_+x.old.length:Nat):Int)],0⟩ by rw[hG,Vi]];exact Yk o1 gb_a _),by rw[o2,Bd,Eu],by rw[<-g6,hst,Ja]⟩,by(simp only[Jc];omega),by(simp only;omega)⟩
   ·rintro⟨at2,ka2,tb2,out2⟩ ⟨⟨f1,⟨f2,ne_a2_0q0⟩,f4,f5,f6⟩,f7,f8⟩
    simp only at f1 f2 ne_a2_0q0 f4 f5 f6 f7 f8|-
    obtain⟨G2,hG2⟩:∃G2,G2=(h.set k0q0 ⟨[lv],0⟩).set ka2 ⟨[.int .i64 at2],0⟩:=⟨_,rfl⟩
    rw[<-hG2]at f4|-
    have hsG2:Sub h G2:=by rw[hG2];exact V5 (Vh hf_0q0) f2
    have gb_0:G2 k0q0=some ⟨[lv],0⟩:=by rw[hG2];exact(Vd _ _ ne_a2_0q0.symm).trans (Ve _ _ _)
    have gb_a2:G2 ka2=some ⟨[.int .i64 at2],0⟩:=by rw[hG2];exact Ve _ _ _
    obtain⟨H2,hH2⟩:∃H2,H2=Ql G2 tb2:=⟨_,rfl⟩
    have hs_H2:Sub h H2:=by rw[hH2];exact hsG2.trans (BJ f4)
    have eb_0q0:H2 k0q0=some ⟨[lv],0⟩:=by rw[hH2];exact ZY f4 gb_0
    have eb_a2:H2 ka2=some ⟨[.int .i64 at2],0⟩:=by rw[hH2];exact ZY f4 gb_a2
    have hbl2:=QP 5 tb2;have nb2:=Zc (BH (wz:=wz) f4 (by decide) f5 Xn (Vm _));rw[<-hH2];skip;refine awp_rseq [1,2,6,7,46] (by rfl) fun K hK=>?_;simp+decide only[qa,ev,qH,qG,putD,VO,VQ,VP,Ka,Kb,↓qg,qc,↓Xe,Qw,↓qw,qm,qA,cond_false,qo,qau,nb2];apply hK;clear hK K;refine qI (b:=_) rfl (fun hb4=>?_) (fun hb4=>?_)
    ·try simp only[decide_eq_true_eq]at hb4
     refine awp_rseq [4,5] (by rfl) fun K hK=>?_;simp+decide only[qa,ev,qH,qG,putD,VO,VP,Ka,Kb,↓qd,qb];apply hK;clear hK K;refine qL ?_;try simp only[Qe,Qp]
     refine Qb h zqB (qN (qN (Qc))) ?_;simp+decide only[VQ,Ka,WY];have hlen:65536<(WL rs l).length:=by
      rw[<-f6,Jc];omega
     rw[hR,if_pos hlen];exact⟨.nilSlice,rfl,OutR.nil h⟩
    ·try simp only[decide_eq_false_iff_not]at hb4
     refine qP ?_;change Awp _ _ _ _ _ _ _;refine awp_rseq [1,2,6,47] (by rfl) fun K hK=>?_;simp+decide only[qa,ev,putD,VO,VQ,VP,Ka,Kb,↓qF,qY,qz ag3,QB wz eb_a2,VZ,qi];apply hK;clear hK K;refine XW [1,2,6,7] (by rfl) ?_;refine Qi ze3 (cs:=[.int .i64 0]) (by rfl) fun k15q0 hk15q0=>?_;have hn_15q0:H2 k15q0=none:=by first|assumption|(simp only[V9]at hk15q0;simp only[hk15q0])
     have hf_15q0:h k15q0=none:=Bi hs_H2 hn_15q0;have ne_15q0_0q0:k15q0≠k0q0:=Bj hn_15q0 eb_0q0;have ne_15q0_a2:k15q0≠ka2:=Bj hn_15q0 eb_a2;refine qp (by rfl) (by rfl) zqA sz3 (by rfl) (by rfl) zqD (Jt _) (by rfl) ?_;simp only[Vi,VX];simp+decide only[qa,ev,putD,VO,VQ,VP,Ka,setAt,VY];try simp only[Qj]
     have hnew:=qlE (b:=tb2) (H:=G2) (j:=k15q0) (by rw[<-hH2];exact hn_15q0) ⟨[.int .i64 at2],0⟩;exact⟨⟨at2,k15q0,tb2,out2⟩,rfl,by(rw[hH2,hnew.1,hG2];exact Ev (Bb (Vh ((Vd _ _ ne_a2_0q0).trans f2)) _ _)),⟨⟨f1,⟨hf_15q0,ne_15q0_0q0⟩,(qnm f4 (by rw[<-hH2];exact hn_15q0) ⟨[.int .i64 at2],0⟩).sub (by rw[hG2];exact Bb (Vh ((Vd _ _ ne_a2_0q0).trans f2)) _ _),f5,f6⟩,by simp only;omega⟩,by simp only;omega⟩
  ·try simp only[decide_eq_false_iff_not]at hb2
   have hae:at_=l.length:=by omega
   rw[hae,JZ,qvL,Bg]at g6;have hlb:IsL wz H1 5 (QH 5 tb) (out.map QI):=by rw[hH1];exact BH g4 (by decide) g5 Xn (Vm _)
   refine XE ?_;change Awp _ _ _ _ _ _ _;refine awp_rseq [4,5] (by rfl) fun K hK=>?_;simp+decide only[ev,putD,VO,VQ,Ka,Kb,↓qg,qc];refine qO (V:=Yp (QH 5 tb)) (by rfl) (by rfl) (qop wz _ _ (out.map QI) hlb) ?_;simp+decide only[qa,ev,qH,qG,putD,VO,VQ,VP,Ka,Kb,↓qd,qb];apply hK;clear hK K;refine qL ?_;refine QD (qN (qN (Qc))) ?_;simp+decide only[VQ,Ka,WY];rw[hR,if_neg (by rw[<-g6];omega)];exact⟨Ql h tb,by rw[hH1];exact Ev hsG,Yp (QH 5 tb),rfl,tb,rfl,g4.sub hsG,by rw[g5,g6],rfl⟩
theorem ACall.down{P:Program}{wz:World}{f:FuncId}{args:List AVal}{h H:AHeap}{R:AVal->AHeap->Prop}(hs:Sub H h)(hc:ACall P wz f args H R):ACall P wz f args h R:=fun fi vals w hr hv=>hc fi vals w (hr.forget hs) hv
def Ut(s:Str):List AVal:=[.str s]
theorem qam{l:List Str}:∀x∈l.map Ut,x.length=1:=fun x hx=>by obtain⟨y,_,rfl⟩:=JH.1 hx;rfl
def qcb(G:AHeap)(kx:Nat)(mv mo:AVal)(nb:Option Buf)(cp:Int):AHeap:=Ql (G.set kx ⟨[mv,mo,QH 1 nb, .int .i64 cp],0⟩) nb
structure UseOk(G:AHeap)(kx:Nat)(nb:Option Buf)(ns:List Str):Prop where
 bx:G kx=none
 ok:∀X,bufOk (G.set kx X) 1 nb
 eq:Yh nb=(ns.map Ut).flatten
section
variable {G:AHeap} {kx:Nat} {mv mo:AVal} {nb:Option Buf} {cp:Int} {ns:List Str}
theorem UseOk.at(hu:UseOk G kx nb ns):qcb G kx mv mo nb cp kx=some ⟨[mv,mo,QH 1 nb, .int .i64 cp],0⟩:=ZY (hu.ok _) (Ve _ _ _)
theorem UseOk.above(hu:UseOk G kx nb ns):Sub G (qcb G kx mv mo nb cp):=(Vh hu.bx).trans (BJ (hu.ok _))
theorem UseOk.set(hu:UseOk G kx nb ns)(X:Blk):(qcb G kx mv mo nb cp).set kx X=Ql (G.set kx X) nb:=by
 unfold qcb;rw[Wv (hu.ok _) (Ve _ _ _),Vi]
theorem UseOk.down(hu:UseOk G kx nb ns){G':AHeap}(hs:Sub G' G):UseOk G' kx nb ns:=⟨hs.none hu.bx,fun X=>(hu.ok X).sub (Bb hs _ _),hu.eq⟩
theorem UseOk.names(wz:World)(hu:UseOk G kx nb ns):IsL wz (qcb G kx mv mo nb cp) 1 (QH 1 nb) (ns.map Ut):=BH (hu.ok _) (by decide) hu.eq qam (Vm _)
theorem UseOk.lay(hu:UseOk G kx nb ns){j:Nat}(hj:qcb G kx mv mo nb cp j=none)(c:Blk):(qcb G kx mv mo nb cp).set j c=qcb (G.set j c) kx mv mo nb cp/\UseOk (G.set j c) kx nb ns/\G j=none/\j≠kx:=by
 have hne:j≠kx:=fun e=>by rw[e,hu.at]at hj;cases hj
 have hn:=qlE hj c;have hg:G j=none:=by
  have:=hn.2
  rwa [Vd _ _ hne]at this
 refine⟨?_,⟨(Vd _ _ hne.symm).trans hu.bx,fun X=>?_,hu.eq⟩,hg,hne⟩
 ·unfold qcb
  rw[hn.1,Vj _ _ _ hne]
 ·have h1:=hu.ok X
  have h2:Ql (G.set kx X) nb j=none:=by
   cases nb with
   |none=>exact(Vd _ _ hne).trans hg
   |some b=>
    have hnb:j≠b.blk:=fun e=>by
     rw[e]at hj;rw[show qcb G kx mv mo (some b) cp=(G.set kx ⟨[mv,mo,QH 1 (some b), .int .i64 cp],0⟩).set b.blk ⟨b.cells,0⟩from rfl,Ve]at hj;cases hj
    exact(Vd _ _ hnb).trans ((Vd _ _ hne).trans hg)
  have h3:=qnm h1 h2 c
  rwa [Vj _ _ _ hne]at h3
end
set_option maxHeartbeats 1000000 in
theorem qCD(wz:World)(G:AHeap)(kx:Nat)(mv mo:AVal)(nb:Option Buf)(cp:Int)(ns:List Str)(s:Str)(hu:UseOk G kx nb ns)(hn:ns.length<=1000000)(hmv:mv.scal=true)(hmo:mo.scal=true):
 ACall Tryz.prog wz 44 [.ptr (.own kx) 0, .str s] (qcb G kx mv mo nb cp) (fun r h'=>r= .tuple []/\∃nb',UseOk G kx nb' (Cop.addE ns s)/\h'=qcb G kx mv mo nb' cp):=by
 obtain⟨H,hH⟩:∃H,H=qcb G kx mv mo nb cp:=⟨_,rfl⟩
 have hs_H:Sub G H:=by rw[hH];exact hu.above
 have eb_x:H kx=some ⟨[mv,mo,QH 1 nb, .int .i64 cp],0⟩:=by rw[hH];exact hu.at
 have hbl:=QP 1 nb;have hst:IsStrs wz H (QH 1 nb) ns:=by rw[hH];exact hu.names wz
 have hml:=Yu hmv;have hol:=Yu hmo;rw[<-hH];refine qU (n:=21) (rs:=[]) Tryz.func44 rfl rfl rfl rfl (VN rfl) ?_;simp only[Qg];refine awp_rseq [0,1,10] (by rfl) fun K hK=>?_;simp+decide only[ev,putD,VO,VQ,Ka,Kb,↓qg,qc,↓Qo,qV,QA,↓qB,ql,qoa,↓qF,qY,qz qBV,QB wz eb_x,VZ,Kn,Js,hbl];refine qO (V:= .bool (ns.contains s)) (by rfl) (by rfl) (qlz wz _ (QH 1 nb) ns s hst (by omega)) ?_;simp+decide only[qa,ev,putD,VO,VQ,VP,Ka,Kb,↓YI,Zl,YC];apply hK;clear hK K;refine qI (b:=_) rfl (fun hb1=>?_) (fun hb1=>?_)
 ·try simp only[Jj]at hb1
  have hc:ns.contains s=false:=by simpa using hb1
  refine XW [] (by rfl) ?_;simp+decide only[ev,putD,VO,VQ,Ka,Kb,↓qg,qc,↓Qo,qV,QA,↓qB,ql,qoa,↓qF,qY,qz qBV,QB wz eb_x,VZ,Kn,Js,hbl];refine Qr (cs:=[.str s]) (by kernel_rfl) fun k1q6 hk1q6=>?_;have hn_1q6:H k1q6=none:=by first|assumption|(simp only[V9]at hk1q6;simp only[hk1q6])
  have hf_1q6:G k1q6=none:=Bi hs_H hn_1q6;have ne_1q6_x:k1q6≠kx:=Bj hn_1q6 eb_x;refine Xt (es:=1) (zs:=ns.map Ut) (xs:=[Ut s]) (hZ:=G.set kx ⟨[mv,mo,QH 1 nb, .int .i64 cp],0⟩) (b:=nb) (by rfl) (by rfl) Tryz.underlying30 Tryz.underlying30 (fun k e=>by cases e) sz9 by9 ze9 (by rfl) (by decide) (by rfl) (hu.ok _) hu.eq qam (by rw[show Ql (G.set kx ⟨[mv,mo,QH 1 nb, .int .i64 cp],0⟩) nb=H from hH.symm];exact Vh hn_1q6) (by rfl) (Ba (Ve _ _ _) (by simp[Ut]) (by rfl) (by rfl) (.exact 1) (KL _)) (by rfl) (by simp;omega) (by simp;omega) fun nb2 h1 o1 o2 o3=>?_;have eb1:=o3 _ _ (ZY o1 (Ve _ _ _));simp+decide only[ev,putD,VO,VQ,Ka,Kb,↓Qo,qV,QA,↓qB,ql,qoa,Js];refine qp (v:=QH 1 nb2) (by rfl) (by rfl) eb1 qCZ (QP _ _) (by rw[Uv];rfl) (by simp) (Jt _) (by rw[Uv];simp[Qt,XR]) ?_;simp only[setAt,Uv,VY,Kj];simp+decide only[qa,putD,VP,if_false];refine qfZ (Qc) ?_;simp+decide only[Kb,qga];have ha:Cop.addE ns s=ns++[s]:=by unfold Cop.addE;rw[if_neg (by rw[hc];decide)]
  refine⟨qcb G kx mv mo nb2 cp,?_,nb2,⟨hu.bx,fun X=>?_,?_⟩,rfl⟩
  ·unfold qcb
   rw[<-Vi G kx ⟨[mv,mo,QH 1 nb, .int .i64 cp],0⟩,<-Wv o1 (Ve _ _ _)];exact Bb o3 _ _
  ·have:=Yk o1 (Ve _ _ _) X
   rwa [Vi]at this
  ·rw[o2,ha,Bd]
   rfl
 ·try simp only[VU]at hb1
  have hc:ns.contains s=true:=by simpa using hb1
  refine qP ?_;refine qfZ (Qc) ?_;simp+decide only[Kb,qga];have ha:Cop.addE ns s=ns:=by unfold Cop.addE;rw[if_pos hc]
  exact⟨H,Vm _,nb,by rw[ha];exact hu,hH⟩
end Go.Proofs.YtlhhaagmakhilaaGreatDoor
namespace Go.Proofs.YtlhhaagmakhilaaGreatDoor
open Go.AM
open Go.Proofs
open Go.Col (Str FaultC okF)
open Go.Tok
open Go.Cop
open Go.RowKit (Below)
set_option maxRecDepth 100000
theorem qig(l:List TokC)(i j:Nat):(ZT l i j).length<=l.length:=by
 unfold ZT;rw[K5,K6];omega
theorem qwg(l:List TokC)(i:Nat):(XO l i).rep.new.length<=l.length:=by
 unfold XO;simp only;split
 ·exact Jt _
 ·split
  ·exact Jt _
  ·exact qig _ _ _
theorem qmy(l:List TokC):∀(f i:Nat) (first:Bool) (acc:List RepC),(∀x∈acc,x.new.length<=l.length)->(∀x∈(XB l f i first acc).reps,x.new.length<=l.length)/\(XB l f i first acc).reps.length<=acc.length+f
 |0,i,first,acc,h=>⟨h,KL _⟩
 |f+1,i,first,acc,h=>by
  rw[XB];split
  ·simp only
   split
   ·exact⟨(fun x hx=>by cases hx),Jt _⟩
   ·have:=qmy l f (XO l i).at_ false (acc++[(XO l i).rep]) fun x hx=>by
     rcases JJ.1 hx with z|z
     ·exact h x z
     ·rw[BG.1 z];exact qwg l i
    refine⟨this.1,?_⟩;have h2:=this.2;rw[Jc,JS]at h2;omega
  ·exact⟨h,Nat.le_add_right _ _⟩
theorem qre(l:List TokC)(t:TokC)(p:Pairs):(Ze l t p).reps=[]\/(Ze l t p).reps=p.reps:=by
 unfold Ze;split
 ·exact .inl rfl
 ·split
  ·exact .inl rfl
  ·exact .inr rfl
theorem qfb(l:List TokC)(i:Nat):(∀x∈(Qn l i).reps,x.new.length<=l.length)/\(Qn l i).reps.length<=l.length+2:=by
 unfold Qn;split
 ·exact⟨(fun x hx=>by cases hx),Jt _⟩
 ·rcases qre l (l.getD i noT) (if XH l (i+1) ZL=true then XB l (l.length+2) (i+2) true []else⟨true,[],i+1⟩)with e|e
  ·rw[e]
   exact⟨(fun x hx=>by cases hx),Jt _⟩
  ·rw[e]
   split
   ·have:=qmy l (l.length+2) (i+2) true [] (fun x hx=>by cases hx)
    refine⟨this.1,?_⟩;have h2:=this.2;rw[J9]at h2;omega
   ·exact⟨(fun x hx=>by cases hx),Jt _⟩
def opC(e:Nat×Str):AVal:= .mapE e.1 (.str e.2) (.bool true)
def Ym(B:AHeap)(kx km:Nat)(mv:AVal)(c:Nat)(es:List (Nat×Str))(nb:Option Buf)(cp:Nat):AHeap:=qcb (B.set km (Zb c (es.map opC))) kx mv (.map km) nb cp
structure ExOk(B:AHeap)(kx km:Nat)(nb:Option Buf)(ns:List Str):Prop where
 bm:B km=none
 bx:B kx=none
 ne:km≠kx
 use:∀M,UseOk (B.set km M) kx nb ns
section
variable {B:AHeap} {kx km:Nat} {mv:AVal} {c:Nat} {es:List (Nat×Str)} {nb:Option Buf} {cp:Nat} {ns:List Str}
theorem ExOk.x(he:ExOk B kx km nb ns):Ym B kx km mv c es nb cp kx=some ⟨[mv, .map km,QH 1 nb, .int .i64 cp],0⟩:=(he.use _).at
theorem ExOk.m(he:ExOk B kx km nb ns):Ym B kx km mv c es nb cp km=some (Zb c (es.map opC)):=(he.use _).above _ _ (Ve _ _ _)
theorem ExOk.above(he:ExOk B kx km nb ns):Sub B (Ym B kx km mv c es nb cp):=(Vh he.bm).trans (he.use _).above
theorem ExOk.set_x(he:ExOk B kx km nb ns)(cp':Nat):(Ym B kx km mv c es nb cp).set kx ⟨[mv, .map km,QH 1 nb, .int .i64 cp'],0⟩=Ym B kx km mv c es nb cp':=(he.use _).set _
theorem ExOk.set_m(he:ExOk B kx km nb ns)(c':Nat)(es':List (Nat×Str)):(Ym B kx km mv c es nb cp).set km (Zb c' (es'.map opC))=Ym B kx km mv c' es' nb cp:=by
 unfold Ym qcb;rw[Wv ((he.use _).ok _) ((Vd _ _ he.ne).trans (Ve _ _ _)),Vj _ _ _ he.ne,Vi]
theorem ExOk.down(he:ExOk B kx km nb ns){B':AHeap}(hs:Sub B' B):ExOk B' kx km nb ns:=⟨hs.none he.bm,hs.none he.bx,he.ne,fun M=>(he.use M).down (Bb hs _ _)⟩
theorem qdI{B':AHeap}(hs:Sub B' B):Sub (Ym B' kx km mv c es nb cp) (Ym B kx km mv c es nb cp):=Ev (Bb (Bb hs _ _) _ _)
theorem ExOk.lay(he:ExOk B kx km nb ns){j:Nat}(hj:Ym B kx km mv c es nb cp j=none)(b:Blk):(Ym B kx km mv c es nb cp).set j b=Ym (B.set j b) kx km mv c es nb cp/\ExOk (B.set j b) kx km nb ns:=by
 have hnm:j≠km:=fun e=>by rw[e,he.m]at hj;cases hj
 have hnx:j≠kx:=fun e=>by rw[e,he.x]at hj;cases hj
 obtain⟨h1,h2,h3,h4⟩:=(he.use (Zb c (es.map opC))).lay hj b;refine⟨?_,(Vd _ _ hnm.symm).trans he.bm,(Vd _ _ hnx.symm).trans he.bx,he.ne,fun M=>?_⟩
 ·unfold Ym
  rw[h1,Vj _ _ _ hnm]
 ·have hj2:qcb (B.set km M) kx mv (.map km) nb cp j=none:=by
   have hb:B j=none:=by
    have:=h3
    rwa [Vd _ _ hnm]at this
   unfold Ym qcb at hj;unfold qcb;cases nb with
   |none=>exact(Vd _ _ hnx).trans ((Vd _ _ hnm).trans hb)
   |some b'=>
    have hnb:j≠b'.blk:=fun e=>by
     rw[e,show Ql ((B.set km (Zb c (es.map opC))).set kx ⟨[mv, .map km,QH 1 (some b'), .int .i64 cp],0⟩) (some b')=((B.set km (Zb c (es.map opC))).set kx ⟨[mv, .map km,QH 1 (some b'), .int .i64 cp],0⟩).set b'.blk ⟨b'.cells,0⟩from rfl,Ve]at hj;cases hj
    exact(Vd _ _ hnb).trans ((Vd _ _ hnx).trans ((Vd _ _ hnm).trans hb))
  have:=((he.use M).lay hj2 b).2.1
  rwa [Vj _ _ _ hnm]at this
theorem ExOk.off(he:ExOk B kx km nb ns){B':AHeap}{j:Nat}{b:Blk}(hj:B j=some b)(hj':B' j=none):Ym B' kx km mv c es nb cp j=none:=by
 have hnm:j≠km:=fun e=>by rw[e,he.bm]at hj;cases hj
 have hnx:j≠kx:=fun e=>by rw[e,he.bx]at hj;cases hj
 have h1:=(he.use ⟨[],0⟩).ok ⟨[],0⟩;unfold Ym qcb;cases nb with
 |none=>exact(Vd _ _ hnx).trans ((Vd _ _ hnm).trans hj')
 |some b'=>
  have hnb:j≠b'.blk:=fun e=>by
   have h2:((B.set km ⟨[],0⟩).set kx ⟨[],0⟩) b'.blk=none:=h1.1;rw[<-e,Vd _ _ hnx,Vd _ _ hnm,hj]at h2;cases h2
  exact(Vd _ _ hnb).trans ((Vd _ _ hnx).trans ((Vd _ _ hnm).trans hj'))
end
structure ExpR(B:AHeap)(kx km:Nat)(mv:AVal)(op:List Str)(st:Xs)(h:AHeap):Prop where
 few:st.names.length<=5000
 ex:∃c es nb,ExOk B kx km nb st.names/\es.map (·.2)=op/\Sub (Ym B kx km mv c es nb st.copies) h
theorem qla(s:Str):∀(es:List (Nat×Str)) (k:Nat),s∉es.map (·.2)->qbg (.str s) (es.map opC) k=some none
 |[],_,_=>rfl
 |e::es,k,h=>by
  simp only[Ke,KX,not_or]at h;rw[Ke,opC,qbg];simp only[kEq];rw[decide_eq_false h.1];exact qla s es (k+1) h.2
theorem qcG(s:Str)(b:Nat):∀(es:List (Nat×Str)) (k:Nat),s∉es.map (·.2)->qbg (.str s) ((es++[(b,s)]).map opC) k=some (some (k+es.length, .bool true))
 |[],k,_=>by
  rw[Je,Ke,Vk,opC,qbg];simp only[kEq,decide_true];rfl
 |e::es,k,h=>by
  simp only[Ke,KX,not_or]at h;rw[Kh,Ke,opC,qbg];simp only[kEq];rw[decide_eq_false h.1,KY,show k+(es.length+1)=(k+1)+es.length by omega];exact qcG s b es (k+1) h.2
theorem qps(s:Str):∀(es:List (Nat×Str)) (k:Nat),s∈es.map (·.2)->∃j,qbg (.str s) (es.map opC) k=some (some (j, .bool true))
 |[],_,h=>by cases h
 |e::es,k,h=>by
  rw[Ke,opC,qbg];simp only[kEq];by_cases q:s=e.2
  ·rw[decide_eq_true q]
   exact⟨k,rfl⟩
  ·rw[decide_eq_false q]
   rw[Ke,KX]at h;exact qps s es (k+1) (h.resolve_left q)
theorem qzE{h:AHeap}{km c:Nat}{es:List (Nat×Str)}{s:Str}(hm:h km=some (Zb c (es.map opC))):qaV Tryz.prog h 74 (.map km) (.str s) false=⟨True, .bool ((es.map (·.2)).contains s)⟩:=by
 by_cases q:s∈es.map (·.2)
 ·obtain⟨j,hj⟩:=qps s es 0 q
  rw[qrK Tryz.underlying74 ze4 hm (by rfl) hj,qjp,JX.2 q]
 ·rw[qpl Tryz.underlying74 ze4 hm (by rfl) (qla s es 0 q),qjp]
  have:(es.map (·.2)).contains s=false:=by
   rw[Bool.eq_false_iff];intro z;exact q (JX.1 z)
  rw[this];rfl
theorem qBk{h:AHeap}{km c:Nat}{es:List (Nat×Str)}(hm:h km=some (Zb c (es.map opC))):YN Tryz.prog h 74 (.map km)=⟨True, .int .i64 es.length⟩:=by
 have:=qwj Tryz.underlying74 (UZ hm)
 rwa [Jp]at this
theorem qBG(wz:World)(h:AHeap)(q:MemQ)(hq:q.2.live=true)(hqc:q.2.cells=[q.2])(kn:Nat)(s:Str)(eb_n:h kn=some ⟨[.str s],0⟩):
 ACall Tryz.prog wz 58 ([.agg (qhL q)]++[.ptr (.own kn) 0]) h (fun r h'=>r= .bool (decide (q.1.name=s))/\h'=h):=by
 have hs_h:Sub h h:=Vm h;obtain⟨⟨nm,tk⟩,tv⟩:=q;simp only at hq hqc;unfold qhL;simp only[Kh,Je];refine qU (n:=8) (rs:=[.tmp 3]) Tryz.func58 rfl rfl rfl rfl (VN rfl) ?_;simp only[Qg];refine awp_rseq [1,2] (by rfl) fun K hK=>?_;refine Wt (v:= .agg [.str nm,tv]) (cs:=[.str nm,tv]) (by rfl) (by simp+decide only[qwu]) (by rfl) fun k0q0 hk0q0=>?_;have hn_0q0:h k0q0=none:=by first|assumption|(simp only[V9]at hk0q0;simp only[hk0q0])
 have hf_0q0:h k0q0=none:=Bi hs_h hn_0q0;have ne_0q0_n:k0q0≠kn:=Bj hn_0q0 eb_n;simp+decide only[qa,ev,qH,qG,putD,VO,VP,Ka,Kb,↓qd,qb,Js];apply hK;clear hK K;refine awp_rseq [3] (by rfl) fun K hK=>?_;simp+decide only[qa,ev,putD,VO,VQ,VP,Ka,Kb,↓qB,ql,qwU,↓qF,qY,qz ag9,↓qw,qm,qR,cond_false,Zj,qep,↓qd,qb,QZ,ne_eq,not_false_eq_true,ne_0q0_n.symm,QB wz eb_n,QT,VZ,Js,qE];apply hK;clear hK K;refine qL ?_;refine Qb h zqC (qN (Qc)) ?_;simp+decide only[VQ,if_true,and_true,Qs];all_goals first|rfl|exact⟨rfl,rfl⟩|(simp+decide only[Ka, *];done)|(trace_state;fail)
theorem qlw(wz:World)(h:AHeap)(ks:Nat)(t:TokC)(rv:AVal)(hrl:rv.live=true)(e:Int)(eb_s:h ks=some ⟨qnz t rv,0⟩):
 ACall Tryz.prog wz 56 ([.int .i64 e]++[.ptr (.own ks) 0]) h (fun r h'=>r= .tuple [.nilSlice,QC ⟨e,t.line,t.col⟩]/\h'=h):=by
 have hs_h:Sub h h:=Vm h;unfold qnz at eb_s;simp only[Kh,Je];refine qU (n:=10) (rs:=[.tmp 3, .cell 4 35]) Tryz.func56 rfl rfl rfl rfl (VN rfl) ?_;simp only[Qg];refine awp_rseq [0,1,4] (by rfl) fun K hK=>?_;simp+decide only[ev,qH,qG,putD,VO,if_false,Kb,↓qd,qb,Js];refine Qi qaE (cs:=[.int .i64 0, .int .i64 0, .int .i64 0]) (by rfl) fun k0q1 hk0q1=>?_;have hn_0q1:h k0q1=none:=by first|assumption|(simp only[V9]at hk0q1;simp only[hk0q1])
 have hf_0q1:h k0q1=none:=Bi hs_h hn_0q1;have ne_0q1_s:k0q1≠ks:=Bj hn_0q1 eb_s;simp+decide only[qa,putD,VO,VP,Ka];apply hK;clear hK K;refine Zk 6 [3,4] mixed (by kernel_rfl) (by rfl) (by rfl) fun K hK=>?_;simp+decide only[ev,qH,qG,putD,VO,VQ,Ka,Kb,↓qg,qc,↓qB,ql,qsb,qdm,↓qF,qY,qh qeG qbd,↓Qu,↓Qa,Wi,evP,Ke,Vk,↓qd,qb,QZ,ne_eq,not_false_eq_true,ne_0q1_s.symm,QB wz eb_s,qf,VZ,Kn,Js,Nat.reduceAdd,qi,allLive,JU];refine qp (by rfl) (by rfl) zqA QN (by rfl) (by rfl) zqD (Jt _) (by rfl) ?_;simp only[Vi,VX];simp+decide only[qa,ev,putD,VQ,VP,Ka,setAt,VY,Kj,Js,Nat.reduceAdd];apply hK;clear hK K;refine qL ?_;refine Qb h zqC (?_) ?_
 ·simp+decide only[QG,qy,qj,VQ,Ka,and_true,qy,qj,qh Xw QN,qZ,qf,VZ,Kn,Js,Nat.reduceAdd,qi,allLive,JU,qf,VZ,Kn,Js,Nat.reduceAdd,qi,allLive,JU]
 simp+decide only[VQ,Ka,and_true,XA,qy,qj,qh Xw QN,qZ,qf,VZ,Kn,Js,Nat.reduceAdd,qi,allLive,JU,qf,VZ,Kn,Js,Nat.reduceAdd,qi,allLive,JU,QC];all_goals first|rfl|exact⟨rfl,rfl⟩|(simp+decide only[Ka, *];done)|(trace_state;fail)
def qze(wz:World)(B:AHeap)(kx km:Nat)(mv:AVal)(op:List Str)(x:Xr)(r:AVal)(h':AHeap):Prop:=
 ∃(tb:Option Buf) (st':Xs) (bv:AVal) (bf:FaultC),bufOk B 5 tb/\ExpR (Ql B tb) kx km mv op st' h'/\r= .tuple [bv,QC bf]/\
  ((bf≠okF/\x= .bad bf/\bv= .nilSlice)\/(bf=okF/\∃out,x= .ok out st'/\IsL wz (Ql (fun _=>none) tb) 5 bv (out.map QI)/\out.length<=200000/\st'.names.length<=st'.copies/\st'.copies<=4096))
theorem qeZ(H:AHeap):Sub (fun _=>none) H:=fun j d hj=>by cases hj
theorem UseOk.swap{B:AHeap}{kx km:Nat}{nb:Option Buf}{ns:List Str}{M:Blk}(hu:UseOk (B.set km M) kx nb ns)(hne:km≠kx)(M':Blk):UseOk (B.set km M') kx nb ns:=by
 refine⟨?_,fun X=>?_,hu.eq⟩
 ·have:=hu.bx
  rw[Vd _ _ hne.symm]at this|-
  exact this
 ·have h1:=hu.ok X
  cases nb with
  |none=>trivial
  |some b=>
   refine⟨?_,h1.2⟩;have h2:((B.set km M).set kx X) b.blk=none:=h1.1;have e1:b.blk≠kx:=fun e=>by rw[e,Ve]at h2;cases h2
   rw[Vd _ _ e1]at h2;have e2:b.blk≠km:=fun e=>by rw[e,Ve]at h2;cases h2
   rw[Vd _ _ e2]at h2;exact(Vd _ _ e1).trans ((Vd _ _ e2).trans h2)
theorem qew(s:Str)(b:Nat):∀es:List (Nat×Str),((es++[(b,s)]).map opC).eraseIdx es.length=es.map opC
 |es=>by
  rw[Bd,List.eraseIdx_append_of_length_le (by rw[Jp];exact KL _),Jp,Ew];simp
theorem ExOk.buf{B hc:AHeap}{kx km:Nat}{mv:AVal}{c cp es5:Nat}{es:List (Nat×Str)}{nb tb:Option Buf}{ns:List Str}(he:ExOk B kx km nb ns)(hs:Sub (Ym B kx km mv c es nb cp) hc)(ht:bufOk hc es5 tb):Ym (Ql B tb) kx km mv c es nb cp=Ql (Ym B kx km mv c es nb cp) tb/\ExOk (Ql B tb) kx km nb ns:=by
 cases tb with
 |none=>exact⟨rfl,he⟩
 |some b=>
  obtain⟨h1,h2⟩:=he.lay (mv:=mv) (c:=c) (es:=es) (cp:=cp) (j:=b.blk) (hs.none ht.1) ⟨b.cells,0⟩;exact⟨h1.symm,h2⟩
theorem qrc{h hc:AHeap}{es j:Nat}{b:Option Buf}{c:Blk}(hj:h j=none)(hj':hc j=some c)(hb:bufOk hc es b):Ql h b j=none:=by
 cases b with
 |none=>exact hj
 |some b=>
  have hne:j≠b.blk:=fun e=>by
   have:=hb.1;rw[<-e,hj']at this;cases this
  exact(Vd _ _ hne).trans hj
theorem qmY{qs:List MemQ}{ms:List MemC}(hms:ms=qs.map (·.1))(s:Str):(qbV (fun q:MemQ=>decide (q.1.name=s)) qs= -1/\ms.find? (fun m=>decide (m.name=s))=none)\/∃i,i<qs.length/\qbV (fun q:MemQ=>decide (q.1.name=s)) qs=i/\ms.find? (fun m=>decide (m.name=s))=some (qs.getD i qcP).1:=by
 have e:=qhR (fun q:MemQ=>q.1) (fun m:MemC=>decide (m.name=s)) qs;rw[<-hms]at e;rcases qll (r:=ms.map fun m=>(⟨[⟨1,m.name,0,0,false⟩],[]⟩:RepC)) (p:=fun x=>decide ((x.old.getD 0 noT).text=s))with z|z
 ·left
  rw[Ex]at z;rw[List.find?_map]at z;refine⟨?_,?_⟩
  ·rw[<-e];unfold qbV
   have z1:=z.1;simp only[Function.comp_def]at z1;rw[show ms.findIdx? (fun m=>decide (m.name=s))=none from z1]
  ·have z2:=z.2
   simpa[Function.comp_def]using z2
 ·right
  obtain⟨i,x,z1,z2,z3,z4⟩:=z;rw[Ex]at z1;have z1':ms.findIdx? (fun m=>decide (m.name=s))=some i:=z1;rw[Jp]at z3;have hq:i<qs.length:=by rw[hms,Jp]at z3;exact z3
  refine⟨i,hq,?_,?_⟩
  ·rw[<-e];unfold qbV;rw[z1']
  ·have h1:=List.findIdx?_eq_some_iff_getElem.1 z1'
   obtain⟨h2,h3,h4⟩:=h1;rw[List.find?_eq_some_iff_getElem];refine⟨?_,i,h2,?_,fun j hj=>by simpa using h4 j hj⟩
   ·have:(qs.getD i qcP).1=ms[i]:=by
     simp only[hms,Ey,Ko,JA hq,VM]
    rw[this];exact h3
   ·simp only[hms,Ey,Ko,JA hq,VM]
theorem qrl(ns:List Str)(s:Str):(Cop.addE ns s).length<=ns.length+1:=by
 unfold Cop.addE;split
 ·omega
 ·rw[Jc,JS];omega
def qyV(wz:World)(kx km:Nat)(mv:AVal)(mems:List MemC)(op:List Str)(rec:List TokC->List Str->Xs->Xr):Prop:=
 op.length<=8->∀(h B:AHeap) (v:AVal) (l:List TokC) (st:Xs),ExpR B kx km mv op st h->IsMems wz B mv mems->IsL wz B 5 v (l.map QI)->l.length<=100000->st.names.length<=st.copies->st.copies<=4096->
  ACall Tryz.prog wz 32 [.ptr (.own kx) 0,v] h (qze wz B kx km mv op (rec l op st))
set_option maxHeartbeats 4000000 in
theorem qyD(wz:World)(h B:AHeap)(kx km:Nat)(mv:AVal)(mems:List MemC)(op:List Str)(st:Xs)(s:Stm)(rv:AVal)(rec:List TokC->List Str->Xs->Xr)(hx:ExpR B kx km mv op st h)(hms:IsMems wz B mv mems)(hml:mems.length<=1000000)(hmt:∀m∈mems,m.toks.length<=100000)
 (hrp:IsReps wz B rv s.reps) (hrn:∀x∈s.reps,x.new.length<=1000000) (hrl:s.reps.length<=1000000) (hro:∀x∈s.reps,x.old≠[]) (hst:st.names.length<=st.copies) (hst2:st.copies<=4096) (hop8:op.length<=8)
 (hrec:op.length<8->qyV wz kx km mv mems (op++[s.name.text]) rec):
 ACall Tryz.prog wz 47 [.ptr (.own kx) 0, .agg (qnz s.name rv)] h (qze wz B kx km mv op (WT true mems op rec s st)):=by
 obtain⟨hfew,c,es,nb,he,hes,hsh⟩:=hx;obtain⟨qs,hqs,hq2,hq3⟩:=hms;have hmvs:=hq2.scal;have hmvl:=Yu hmvs;have hmvc:=hq2.cells;have hrvs:rv.scal=true:=by obtain⟨zs,-,z2,-⟩:=hrp;exact z2.scal
 have hrvl:=Yu hrvs;have hql:∀q∈qs,q.2.live=true:=fun q hq=>(hq3 q hq).live;have hqn:qs.length=mems.length:=by rw[hqs,Jp]
 refine ACall.down hsh ?_;obtain⟨nm,hnm⟩:∃nm,nm=s.name.text:=⟨_,rfl⟩
 have hsc:qnz s.name rv=[.int .u8 s.name.kind.toNat, .str nm, .int .i64 s.name.line, .int .i64 s.name.col, .bool s.name.left,rv]:=by rw[hnm];rfl
 obtain⟨X,hX⟩:∃X,X=WT true mems op rec s st:=⟨_,rfl⟩
 rw[<-hX];unfold WT at hX;rw[<-hnm]at hX hrec;have hes':es.length=op.length:=by rw[<-hes,Jp]
 obtain⟨H,hH⟩:∃H,H=Ym B kx km mv c es nb st.copies:=⟨_,rfl⟩
 have hs_H:Sub B H:=by rw[hH];exact he.above
 have eb_x:H kx=some ⟨[mv, .map km,QH 1 nb, .int .i64 st.copies],0⟩:=by rw[hH];exact he.x
 have eb_m:H km=some (Zb c (es.map opC)):=by rw[hH];exact he.m
 have hbl:=QP 1 nb;have ne_x_m:kx≠km:=he.ne.symm;rw[<-hH];unfold qnz;rw[<-hnm];refine qvo (k:=119) (rs:=[.tmp 4, .cell 5 35]) Tryz.func47 rfl rfl rfl rfl (VN rfl) ?_;simp only[Qg];refine awp_rseq [0,3,5] (by rfl) fun K hK=>?_;refine Wt (v:= .agg [.int .u8 s.name.kind.toNat, .str nm, .int .i64 s.name.line, .int .i64 s.name.col, .bool s.name.left,rv]) (cs:=[.int .u8 s.name.kind.toNat, .str nm, .int .i64 s.name.line, .int .i64 s.name.col, .bool s.name.left,rv]) (by rfl) (by simp+decide only[qwu]) (by rfl) fun k0q0 hk0q0=>?_;have hn_0q0:H k0q0=none:=by first|assumption|(simp only[V9]at hk0q0;simp only[hk0q0])
 have hf_0q0:B k0q0=none:=Bi hs_H hn_0q0;have ne_0q0_x:k0q0≠kx:=Bj hn_0q0 eb_x;have ne_0q0_m:k0q0≠km:=Bj hn_0q0 eb_m;simp+decide only[ev,qH,qG,putD,VO,if_false,Kb,↓qd,qb,Js];refine Qi qaE (cs:=[.int .i64 0, .int .i64 0, .int .i64 0]) (by rfl) fun k0q2 hk0q2=>?_;have ne_0q2_0q0:k0q2≠k0q0:=by simp only[V9]at hk0q2;simp only[hk0q2,ne_eq,not_false_eq_true]
 have hn_0q2:H k0q2=none:=by first|assumption|(simp only[V9]at hk0q2;simp only[hk0q2])
 have hf_0q2:B k0q2=none:=Bi hs_H hn_0q2;have ne_0q2_x:k0q2≠kx:=Bj hn_0q2 eb_x;have ne_0q2_m:k0q2≠km:=Bj hn_0q2 eb_m;simp+decide only[qa,putD,VO,VP,Ka];apply hK;clear hK K;refine awp_rseq [0,3,5,6] (by rfl) fun K hK=>?_;simp+decide only[ev,putD,VO,VQ,Ka,Kb,↓qB,ql,qsb,Uu,↓qF,qY,qz ag9,QZ,ne_eq,not_false_eq_true,ne_0q2_0q0.symm,QT,VZ,Kn,Js,qE];refine Qi ze9 (cs:=[.str []]) (by rfl) fun k1q3 hk1q3=>?_;have ne_1q3_0q0:k1q3≠k0q0:=by simp only[V9]at hk1q3;simp only[hk1q3,ne_eq,not_false_eq_true]
 have ne_1q3_0q2:k1q3≠k0q2:=by simp only[V9]at hk1q3;simp only[hk1q3,ne_eq,not_false_eq_true]
 have hn_1q3:H k1q3=none:=by first|assumption|(simp only[V9]at hk1q3;simp only[hk1q3])
 have hf_1q3:B k1q3=none:=Bi hs_H hn_1q3;have ne_1q3_x:k1q3≠kx:=Bj hn_1q3 eb_x;have ne_1q3_m:k1q3≠km:=Bj hn_1q3 eb_m;refine qp (by rfl) (by rfl) zqA sz9 (by rfl) (by rfl) zqD (Jt _) (by first|rfl|(simp+decide only[ev,putD,VO,VQ,Ka,VX,Qt,JU,Vg,hmvs,hrvs,XJ,XM,Xi])) ?_;simp only[Vi,VX];simp+decide only[qa,ev,putD,VO,VQ,VP,Ka,setAt,VY];apply hK;clear hK K;refine awp_rseq [0,3,5,6,7] (by rfl) fun K hK=>?_;simp+decide only[qa,ev,putD,VO,VQ,VP,Ka,Kb,↓qfJ,qel,evs,Ke,Vk,↓qd,qb];apply hK;clear hK K;refine awp_rseq [0,3,5,6,7,8] (by rfl) fun K hK=>?_;simp+decide only[ev,putD,VO,VQ,Ka,Kb,↓qg,qc,↓Qo,qV,QA,↓qB,ql,qwR,↓qF,qY,qz qCL,↓qfJ,qel,evs,Ke,Vk,QZ,ne_eq,not_false_eq_true,ne_0q0_x.symm,ne_0q2_x.symm,ne_1q3_x.symm,QB wz eb_x,VZ,Js,hmvl];refine qO (V:= .int .i64 (qbV (fun q:MemQ=>decide (q.1.name=nm)) qs)) (by rfl) (by rfl) (qyF wz _ mv qs _ [.ptr (.own k1q3) 0] (fun q=>decide (q.1.name=nm)) (hq2.mono zqB) hql (by omega) (by rfl) (fun q hq=>qBG wz _ q (hql q hq) (hq3 q hq).cells k1q3 nm zqA)) ?_;simp+decide only[qa,ev,putD,VO,VQ,VP,Ka,Kb,↓qd,qb];apply hK;clear hK K;refine awp_rseq [0,3,5,6,7,8] (by rfl) fun K hK=>?_;simp+decide only[ev,qH,qG,putD,VO,VQ,Ka,Kb,↓qg,qc,↓Qo,qV,QA,↓qB,ql,qwP,↓qF,qY,qz ag3,↓qw,qm,qA,cond_false,qo,Xa,QZ,ne_eq,not_false_eq_true,ne_0q0_x.symm,ne_0q2_x.symm,ne_1q3_x.symm,QB wz eb_x,VZ,Kn,Js,qi];try simp(disch:=omega)only[wrap_i64]
 refine qp (by rfl) (by rfl) zqA sz3 (by rfl) (by rfl) zqD (Jt _) (by first|rfl|(simp+decide only[ev,putD,VO,VQ,Ka,VX,Qt,JU,Vg,hmvs,hrvs,XJ,XM,Xi])) ?_;simp only[VX];simp+decide only[qa,ev,putD,VQ,VP,Ka,setAt,VY,Kj];apply hK;clear hK K;refine qJ ?_;refine Qm ?_;obtain⟨H5,hH5⟩:∃H5,H5=(((H.set k0q0 ⟨[.int .u8 s.name.kind.toNat, .str nm, .int .i64 s.name.line, .int .i64 s.name.col, .bool s.name.left,rv],0⟩).set k0q2 ⟨[.int .i64 0, .int .i64 0, .int .i64 0],0⟩).set k1q3 ⟨[.str nm],0⟩).set kx ⟨[mv, .map km,QH 1 nb, .int .i64 ((st.copies+1:Nat):Int)],0⟩:=⟨_,rfl⟩
 refine BI (h':=H5) (by rw[hH5];exact Vm _) ?_;have hs_H5:Sub B H5:=by rw[hH5];exact ZU zqB he.bx _
 have eb_x:H5 kx=some ⟨[mv, .map km,QH 1 nb, .int .i64 ((st.copies+1:Nat):Int)],0⟩:=by rw[hH5];exact Ve _ _ _
 have eb_m:H5 km=some (Zb c (es.map opC)):=by rw[hH5];exact zqA
 have eb_0q0:H5 k0q0=some ⟨[.int .u8 s.name.kind.toNat, .str nm, .int .i64 s.name.line, .int .i64 s.name.col, .bool s.name.left,rv],0⟩:=by rw[hH5];exact zqA
 have eb_0q2:H5 k0q2=some ⟨[.int .i64 0, .int .i64 0, .int .i64 0],0⟩:=by rw[hH5];exact zqA
 have eb_1q3:H5 k1q3=some ⟨[.str nm],0⟩:=by rw[hH5];exact zqA
 have hE5:Sub (Ym B kx km mv c es nb (st.copies+1)) H5:=by
  rw[hH5,<-he.set_x (st.copies+1),<-hH];exact Bb (V5 (V5 (Vh hn_0q0) hn_0q2) hn_1q3) _ _
 have hz5:Ym B kx km mv c es nb (st.copies+1) k0q2=none:=by
  rw[<-he.set_x (cp:=st.copies) (st.copies+1),<-hH];exact(Vd _ _ ne_0q2_x).trans hn_0q2
 have hlk:=qzE (s:=nm) eb_m;rw[hes]at hlk;have hlo:=qBk eb_m;rw[hes']at hlo;refine awp_rseq [0,3,5,6,7,8,30] (by rfl) fun K hK=>?_;simp+decide only[qa,ev,qH,qG,putD,VO,VQ,VP,Ka,Kb,↓qg,qc,↓qw,qm,qA,cond_false,qo,XZ,↓qd,qb];apply hK;clear hK K;refine qI (b:=_) rfl (fun hb1=>?_) (fun hb1=>?_)
 ·try simp only[decide_eq_true_eq]at hb1
  have hnone:mems.find? (fun m=>decide (m.name=nm))=none:=by
   rcases qmY hqs nm with z|⟨i,zi,z1,z2⟩
   ·exact z.2
   ·omega
  rw[hnone]at hX;simp only at hX;refine awp_rseq [4,5] (by rfl) fun K hK=>?_;simp+decide only[ev,putD,VO,VQ,Ka,Kb,↓qg,qc];refine qO (V:= .tuple [.nilSlice,QC ⟨7,s.name.line,s.name.col⟩]) (by rfl) (by rfl) (qlw wz _ k0q0 s.name rv hrvl 7 (by rw[hsc];exact zqA)) ?_;simp+decide only[ev,putD,VO,VQ,Ka,Kb,↓QY,QL,QV,KY,J9,VZ,Kn,↓qd,qb,VZ,Kn,Js,Nat.reduceAdd,QC];refine qp (by rfl) (by rfl) zqA QN (by rfl) (by rfl) zqD (Jt _) (by first|rfl|(simp+decide only[ev,putD,VO,VQ,Ka,VX,Qt,JU,Vg,hmvs,hrvs,XJ,XM,Xi])) ?_;simp only[VX];simp+decide only[qa,ev,putD,VQ,VP,Ka,setAt,VY,Kj,Js,Nat.reduceAdd];apply hK;clear hK K;refine qL ?_;try simp only[Qe,Qp]
  refine QD (?_) ?_
  ·simp+decide only[QG,qy,qj,VQ,Ka,and_true,qy,qj,qh Xw QN,qZ,qf,VZ,Kn,Js,Nat.reduceAdd,qi,allLive,JU,qf,VZ,Kn,Js,Nat.reduceAdd,qi,allLive,JU]
  simp+decide only[VQ,Ka,XA,qy,qj,qh Xw QN,qZ,qf,VZ,Kn,Js,Nat.reduceAdd,qi,allLive,JU,qf,VZ,Kn,Js,Nat.reduceAdd,qi,allLive,JU];exact⟨_,Vm _,none,⟨st.names,st.copies+1⟩, .nilSlice,⟨7,s.name.line,s.name.col⟩,trivial,⟨hfew,c,es,nb,he,hes,V5 hE5 hz5⟩,rfl, .inl ⟨fun e=>absurd (congrArg FaultC.e e) (by simp[okF]),hX,rfl⟩⟩
 ·try simp only[decide_eq_false_iff_not]at hb1
  obtain⟨i,zi,z1,z2⟩:∃i,i<qs.length/\qbV (fun q:MemQ=>decide (q.1.name=nm)) qs=i/\mems.find? (fun m=>decide (m.name=nm))=some (qs.getD i qcP).1:=by
   rcases qmY hqs nm with z|z
   ·omega
   ·exact z
  rw[z1];rw[z2]at hX;simp only at hX;obtain⟨q,hqe⟩:∃q,q=qs.getD i qcP:=⟨_,rfl⟩
  have hqm:q∈qs:=by rw[hqe];exact qaZ qcP zi
  rw[<-hqe]at hX;have hqt:q.1.toks.length<=100000:=hmt _ (by rw[hqs];exact JH.2 ⟨q,hqm,rfl⟩);refine Zt [0,3,5,6,7,8,37] mixed (by kernel_rfl) (by rfl) (by rfl) fun K hK=>?_;simp+decide only[qa,ev,putD,VO,VQ,VP,Ka,Kb,↓qg,qc,↓Qo,qV,QA,↓qB,ql,qob,↓qF,qY,qz qAC,qz ag9,↓qvn,qrE,↓qd,qb,QB wz eb_x,QB wz eb_1q3,qnP,VZ,Kn,Js,qE,hlk];apply hK;clear hK K;refine qI (b:=_) rfl (fun hb2=>?_) (fun hb2=>?_)
  ·skip
   rw[if_pos hb2]at hX;refine awp_rseq [4,5] (by rfl) fun K hK=>?_;simp+decide only[ev,putD,VO,VQ,Ka,Kb,↓qg,qc];refine qO (V:= .tuple [.nilSlice,QC ⟨10,s.name.line,s.name.col⟩]) (by rfl) (by rfl) (qlw wz _ k0q0 s.name rv hrvl 10 (by rw[hsc];exact zqA)) ?_;simp+decide only[ev,putD,VO,VQ,Ka,Kb,↓QY,QL,QV,KY,J9,VZ,Kn,↓qd,qb,VZ,Kn,Js,Nat.reduceAdd,QC];refine qp (by rfl) (by rfl) zqA QN (by rfl) (by rfl) zqD (Jt _) (by first|rfl|(simp+decide only[ev,putD,VO,VQ,Ka,VX,Qt,JU,Vg,hmvs,hrvs,XJ,XM,Xi])) ?_;simp only[VX];simp+decide only[qa,ev,putD,VQ,VP,Ka,setAt,VY,Kj,Js,Nat.reduceAdd];apply hK;clear hK K;refine qL ?_;try simp only[Qe,Qp]
   refine QD (?_) ?_
   ·simp+decide only[QG,qy,qj,VQ,Ka,and_true,qy,qj,qh Xw QN,qZ,qf,VZ,Kn,Js,Nat.reduceAdd,qi,allLive,JU,qf,VZ,Kn,Js,Nat.reduceAdd,qi,allLive,JU]
   simp+decide only[VQ,Ka,XA,qy,qj,qh Xw QN,qZ,qf,VZ,Kn,Js,Nat.reduceAdd,qi,allLive,JU,qf,VZ,Kn,Js,Nat.reduceAdd,qi,allLive,JU];exact⟨_,Vm _,none,⟨st.names,st.copies+1⟩, .nilSlice,⟨10,s.name.line,s.name.col⟩,trivial,⟨hfew,c,es,nb,he,hes,V5 hE5 hz5⟩,rfl, .inl ⟨fun e=>absurd (congrArg FaultC.e e) (by simp[okF]),hX,rfl⟩⟩
  ·skip
   rw[if_neg (by rw[hb2];decide)]at hX;refine awp_rseq [0,3,5,6,7,8,48] (by rfl) fun K hK=>?_;simp+decide only[qa,ev,qH,qG,putD,VO,VQ,VP,Ka,Kb,↓qg,qc,↓Qo,qV,QA,↓qB,ql,qob,↓qF,qY,qz qAC,↓Xe,Qw,↓qw,qm,qA,cond_false,qo,Ua,↓Xf,agP,Qv,qM,qK,Qh,implies_true,↓YL,qcL,qcM,↓Xj,qwP,ZH,ZI,↓Zn,XT,YY,qdg,qz ag3,↓Xd,Zv,Zw,qau,↓QW,Qz,Qk,ZA,ZO,↓qd,qb,QB wz eb_x,qnP,VZ,Kn,Js,qi,hlo];apply hK;clear hK K;refine qI (b:=_) rfl (fun hb3=>?_) (fun hb3=>?_)
   ·try simp only[decide_eq_true_eq,JW]at hb3
    rw[if_pos (by
     rcases hb3 with z|z
     ·left;omega
     ·right;exact⟨trivial,by omega⟩)]at hX
    refine awp_rseq [4,5] (by rfl) fun K hK=>?_;simp+decide only[ev,putD,VO,VQ,Ka,Kb,↓qg,qc];refine qO (V:= .tuple [.nilSlice,QC ⟨3,s.name.line,s.name.col⟩]) (by rfl) (by rfl) (qlw wz _ k0q0 s.name rv hrvl 3 (by rw[hsc];exact zqA)) ?_;simp+decide only[ev,putD,VO,VQ,Ka,Kb,↓QY,QL,QV,KY,J9,VZ,Kn,↓qd,qb,VZ,Kn,Js,Nat.reduceAdd,QC];refine qp (by rfl) (by rfl) zqA QN (by rfl) (by rfl) zqD (Jt _) (by first|rfl|(simp+decide only[ev,putD,VO,VQ,Ka,VX,Qt,JU,Vg,hmvs,hrvs,XJ,XM,Xi])) ?_;simp only[VX];simp+decide only[qa,ev,putD,VQ,VP,Ka,setAt,VY,Kj,Js,Nat.reduceAdd];apply hK;clear hK K;refine qL ?_;try simp only[Qe,Qp]
    refine QD (?_) ?_
    ·simp+decide only[QG,qy,qj,VQ,Ka,and_true,qy,qj,qh Xw QN,qZ,qf,VZ,Kn,Js,Nat.reduceAdd,qi,allLive,JU,qf,VZ,Kn,Js,Nat.reduceAdd,qi,allLive,JU]
    simp+decide only[VQ,Ka,XA,qy,qj,qh Xw QN,qZ,qf,VZ,Kn,Js,Nat.reduceAdd,qi,allLive,JU,qf,VZ,Kn,Js,Nat.reduceAdd,qi,allLive,JU];exact⟨_,Vm _,none,⟨st.names,st.copies+1⟩, .nilSlice,⟨3,s.name.line,s.name.col⟩,trivial,⟨hfew,c,es,nb,he,hes,V5 hE5 hz5⟩,rfl, .inl ⟨fun e=>absurd (congrArg FaultC.e e) (by simp[okF]),hX,rfl⟩⟩
   ·try simp only[decide_eq_false_iff_not,VT]at hb3
    rw[if_neg (by
     rintro(z|⟨-,z⟩)
     ·omega
     ·omega)]at hX
    have hlt8:op.length<8:=by omega
    have hcp:st.copies+1<=4096:=by omega
    have hnot:nm∉es.map (·.2):=by rw[hes];intro z;rw[JX.2 z]at hb2;cases hb2
    refine qP ?_;change Awp _ _ _ _ _ _ _;obtain⟨B1,hB1⟩:∃B1,B1=((B.set k0q0 ⟨[.int .u8 s.name.kind.toNat, .str nm, .int .i64 s.name.line, .int .i64 s.name.col, .bool s.name.left,rv],0⟩).set k0q2 ⟨[.int .i64 0, .int .i64 0, .int .i64 0],0⟩).set k1q3 ⟨[.str nm],0⟩:=⟨_,rfl⟩
    obtain⟨y1,y2⟩:=he.lay (mv:=mv) (c:=c) (es:=es) (cp:=st.copies) (j:=k0q0) (by rw[<-hH];exact hn_0q0) ⟨[.int .u8 s.name.kind.toNat, .str nm, .int .i64 s.name.line, .int .i64 s.name.col, .bool s.name.left,rv],0⟩;obtain⟨y3,y4⟩:=y2.lay (mv:=mv) (c:=c) (es:=es) (cp:=st.copies) (j:=k0q2) (by rw[<-y1,<-hH];exact(Vd _ _ ne_0q2_0q0).trans hn_0q2) ⟨[.int .i64 0, .int .i64 0, .int .i64 0],0⟩;obtain⟨y5,y6⟩:=y4.lay (mv:=mv) (c:=c) (es:=es) (cp:=st.copies) (j:=k1q3) (by rw[<-y3,<-y1,<-hH];exact(Vd _ _ ne_1q3_0q2).trans ((Vd _ _ ne_1q3_0q0).trans hn_1q3)) ⟨[.str nm],0⟩;rw[<-hB1]at y5 y6;have h5:H5=Ym B1 kx km mv c es nb (st.copies+1):=by rw[hH5,hH,y1,y3,y5,y6.set_x]
    have hsB1:Sub B B1:=by rw[hB1];exact zqB
    have b1_0:B1 k0q0=some ⟨[.int .u8 s.name.kind.toNat, .str nm, .int .i64 s.name.line, .int .i64 s.name.col, .bool s.name.left,rv],0⟩:=by rw[hB1];exact zqA
    have b1_2:B1 k0q2=some ⟨[.int .i64 0, .int .i64 0, .int .i64 0],0⟩:=by rw[hB1];exact zqA
    have b1_n:B1 k1q3=some ⟨[.str nm],0⟩:=by rw[hB1];exact zqA
    have hcu:ACall Tryz.prog wz 44 [.ptr (.own kx) 0, .str nm] H5 (fun r h'=>r= .tuple []/\∃nb',UseOk (B1.set km (Zb c (es.map opC))) kx nb' (Cop.addE st.names nm)/\h'=qcb (B1.set km (Zb c (es.map opC))) kx mv (.map km) nb' ((st.copies+1:Nat):Int)):=by
     rw[h5];exact qCD wz _ kx mv (.map km) nb _ st.names nm (y6.use _) (by omega) hmvs rfl
    refine awp_rseq [0,3,5,6,7,8] (by rfl) fun K hK=>?_;simp+decide only[ev,putD,VO,VQ,Ka,Kb,↓qg,qc,↓qF,qY,qz ag9,QB wz eb_1q3,VZ,qE];refine QU (by rfl) (by rfl) (hcu) fun x11q2 h11q2 hx11q2=>?_;obtain⟨-,nb2,hu2,hh11⟩:=hx11q2;have he2:ExOk B1 kx km nb2 (Cop.addE st.names nm):=⟨y6.bm,y6.bx,y6.ne,fun M=>hu2.swap y6.ne M⟩
    have hh:h11q2=Ym B1 kx km mv c es nb2 (st.copies+1):=hh11;have hs_h11q2:Sub B h11q2:=by rw[hh];exact hsB1.trans he2.above
    have eb_x:h11q2 kx=some ⟨[mv, .map km,QH 1 nb2, .int .i64 ((st.copies+1:Nat):Int)],0⟩:=by rw[hh];exact he2.x
    have eb_m:h11q2 km=some (Zb c (es.map opC)):=by rw[hh];exact he2.m
    have eb_0q0:h11q2 k0q0=some ⟨[.int .u8 s.name.kind.toNat, .str nm, .int .i64 s.name.line, .int .i64 s.name.col, .bool s.name.left,rv],0⟩:=by rw[hh];exact he2.above _ _ b1_0
    have eb_0q2:h11q2 k0q2=some ⟨[.int .i64 0, .int .i64 0, .int .i64 0],0⟩:=by rw[hh];exact he2.above _ _ b1_2
    have eb_1q3:h11q2 k1q3=some ⟨[.str nm],0⟩:=by rw[hh];exact he2.above _ _ b1_n
    have hbl:=QP 1 nb2;simp+decide only[qa,putD,VO,VP,Ka];apply hK;clear hK K;refine Zk 5 [0,3,5,6,7,8] mixed (by kernel_rfl) (by rfl) (by rfl) fun K hK=>?_;simp+decide only[ev,putD,VO,VQ,Ka,Kb,↓qg,qc,↓Qo,qV,QA,↓qB,ql,qob,↓qF,qY,qz qAC,qz ag9,QB wz eb_x,QB wz eb_1q3,qnP,VZ,Kn,Js,qE];refine qrm Tryz.underlying74 (by rfl) eb_m (by rfl) (qla _ es 0 hnot) ?_;simp+decide only[qa,ev,qH,qG,putD,VQ,VP,Ka];apply hK;clear hK K;obtain⟨H13,hH13⟩:∃H13,H13=Ym B1 kx km mv (c+1) (es++[(c,nm)]) nb2 (st.copies+1):=⟨_,rfl⟩
    refine BI (h':=H13) (by rw[hH13,<-he2.set_m (c:=c) (es:=es),<-hh,Bd];exact Vm _) ?_;have hs_H13:Sub B H13:=by rw[hH13];exact hsB1.trans he2.above
    have eb_x:H13 kx=some ⟨[mv, .map km,QH 1 nb2, .int .i64 ((st.copies+1:Nat):Int)],0⟩:=by rw[hH13];exact he2.x
    have eb_m:H13 km=some (Zb (c+1) ((es++[(c,nm)]).map opC)):=by rw[hH13];exact he2.m
    have eb_0q0:H13 k0q0=some ⟨[.int .u8 s.name.kind.toNat, .str nm, .int .i64 s.name.line, .int .i64 s.name.col, .bool s.name.left,rv],0⟩:=by rw[hH13];exact he2.above _ _ b1_0
    have eb_0q2:H13 k0q2=some ⟨[.int .i64 0, .int .i64 0, .int .i64 0],0⟩:=by rw[hH13];exact he2.above _ _ b1_2
    have eb_1q3:H13 k1q3=some ⟨[.str nm],0⟩:=by rw[hH13];exact he2.above _ _ b1_n
    obtain⟨lcm,om,cm,rfl⟩:=qhK hq2 (by omega);obtain⟨-,d1⟩:=qkY (hq2.mono hs_H13) zi;rw[<-hqe]at d1;have hqv:=hql q hqm;have hal:=qrl st.names nm;refine qjT [0,3,5,7,8] (vm:= .map km) (vi:= .str nm) 5 (by rfl) (by rfl) rfl mixed (by kernel_rfl) (by rfl) fun K hK=>?_;simp only[Ki,V8];simp+decide only[qa,ev,putD,VO,VQ,VP,Ka,Kb,↓qg,qc,↓Qo,qV,QA,↓qB,ql,qob,↓qF,qY,qz qAC,qz ag9,QB wz eb_x,QB wz eb_1q3,qnP,VZ,Kn,Js,qE];skip;apply hK;clear hK K;intro dq;refine awp_rseq [3,5,7,9,10] (by rfl) fun K hK=>?_;simp+decide only[ev,putD,VO,VQ,Ka,Kb,↓qg,qc,↓Qo,qV,QA,↓qB,ql,qwR,↓qF,qY,qz qCL,↓QE,qW Tryz.underlying28 qtO,qwT,qz qaw,QB wz eb_x,VZ,Js,hmvl,d1,hqv,Vr];repeat (with_reducible refine And.intro ?_ ?_;· first|trivial|omega|(intro hg;simp only[Ky,JW,Jj,VS,VT,VU,decide_eq_true_eq,decide_eq_false_iff_not,XY]at hg;omega))
    refine QU (by rfl) (by rfl) (hrec hlt8 (by rw[Jc,JS];omega) _ B1 q.2 q.1.toks ⟨Cop.addE st.names nm,st.copies+1⟩ ⟨by(simp only;omega),c+1,es++[(c,nm)],nb2,he2,by rw[Bd,hes];rfl,by rw[<-hH13];exact zqB⟩ ⟨qs,hqs,hq2.mono hsB1,fun q hq=>(hq3 q hq).mono hsB1⟩ ((hq3 q hqm).mono hsB1) hqt (by simp only;omega) hcp) fun x14q9 h14q9 hx14q9=>?_;obtain⟨tb0,st2,bv,bf,htb0,hxr,rfl,hcase⟩:=hx14q9;obtain⟨B2,hB2⟩:∃B2,B2=Ql B1 tb0:=⟨_,rfl⟩
    rw[<-hB2]at hxr;obtain⟨hfew2,c3,es3,nb3,he3,hop3,hs3⟩:=hxr;have hsB2:Sub B1 B2:=by rw[hB2];exact BJ htb0
    obtain⟨es4,b4,rfl,hes4⟩:∃es4 b4,es3=es4++[(b4,nm)]/\es4.map (·.2)=op:=by
     obtain⟨l1,l2,q1,q2,q3⟩:=List.map_eq_append_iff.1 hop3;cases l2 with
     |nil=>simp at q3
     |cons a l3=>
      obtain⟨a1,a2⟩:=a;simp only[Ke,List.cons.injEq,VW]at q3;obtain⟨rfl,rfl⟩:=q3;exact⟨l1,a1,q1,q2⟩
    have hnot4:nm∉es4.map (·.2):=by rw[hes4,<-hes];exact hnot
    have hsBB2:Sub B B2:=hsB1.trans hsB2;have hs2h:Sub B2 h14q9:=he3.above.trans hs3;have hs_h14q9:Sub B h14q9:=hsBB2.trans hs2h;have eb_x:h14q9 kx=some ⟨[.slice lcm om qs.length cm, .map km,QH 1 nb3, .int .i64 st2.copies],0⟩:=hs3 _ _ he3.x;have eb_m:h14q9 km=some (Zb c3 ((es4++[(b4,nm)]).map opC)):=hs3 _ _ he3.m;have eb_0q0:h14q9 k0q0=some ⟨[.int .u8 s.name.kind.toNat, .str nm, .int .i64 s.name.line, .int .i64 s.name.col, .bool s.name.left,rv],0⟩:=hs2h _ _ (hsB2 _ _ b1_0);have eb_0q2:h14q9 k0q2=some ⟨[.int .i64 0, .int .i64 0, .int .i64 0],0⟩:=hs2h _ _ (hsB2 _ _ b1_2);have eb_1q3:h14q9 k1q3=some ⟨[.str nm],0⟩:=hs2h _ _ (hsB2 _ _ b1_n);have heB3:ExOk B kx km nb3 st2.names:=he3.down hsBB2;have hE14:Sub (Ym B kx km (.slice lcm om qs.length cm) c3 (es4++[(b4,nm)]) nb3 st2.copies) h14q9:=(qdI hsBB2).trans hs3;have z0q2:Ym B kx km (.slice lcm om qs.length cm) c3 (es4++[(b4,nm)]) nb3 st2.copies k0q2=none:=he3.off (hsB2 _ _ b1_2) hf_0q2;have hbvl:bv.live=true:=by
     rcases hcase with⟨-,-,w3⟩|⟨-,out,-,w3,-⟩
     ·rw[w3];rfl
     ·exact w3.live
    simp+decide only[ev,putD,VO,VQ,Ka,Kb,↓qg,qc,↓QY,QL,QV,KY,J9,VZ,Kn,VZ,Kn,Js,Nat.reduceAdd,QC];refine Qi qaE (cs:=[.int .i64 0, .int .i64 0, .int .i64 0]) (by rfl) fun k14q13 hk14q13=>?_;have hn_14q13:h14q9 k14q13=none:=by first|assumption|(simp only[V9]at hk14q13;simp only[hk14q13])
    have hf_14q13:B k14q13=none:=Bi hs_h14q9 hn_14q13;have ne_14q13_x:k14q13≠kx:=Bj hn_14q13 eb_x;have ne_14q13_m:k14q13≠km:=Bj hn_14q13 eb_m;have ne_14q13_0q0:k14q13≠k0q0:=Bj hn_14q13 eb_0q0;have ne_14q13_0q2:k14q13≠k0q2:=Bj hn_14q13 eb_0q2;have ne_14q13_1q3:k14q13≠k1q3:=Bj hn_14q13 eb_1q3;simp+decide only[ev,putD,VO,VQ,Ka,Kb,↓qd,qb];refine qp (by rfl) (by rfl) zqA QN (by rfl) (by rfl) zqD (Jt _) (by first|rfl|(simp+decide only[ev,putD,VO,VQ,Ka,VX,Qt,JU,Vg,hmvs,hrvs,XJ,XM,Xi])) ?_;simp only[Vi,VX];simp+decide only[qa,ev,putD,VQ,VP,Ka,setAt,VY,Kj,Js,Nat.reduceAdd];apply hK;clear hK K;refine qJ ?_;refine awp_rseq [3,5,7,9,10,94] (by rfl) fun K hK=>?_;simp+decide only[qa,ev,qH,qG,putD,VO,VQ,VP,Ka,Kb,↓qF,qY,qh Xw QN,↓Qu,↓Qa,Yn,evP,Vk,↓qw,qm,qR,cond_false,YO,qpr,QT,qf,VZ,Kn,Js,Nat.reduceAdd,qi,allLive,JU,UG];apply hK;clear hK K;refine qI (b:=_) rfl (fun hb4=>?_) (fun hb4=>?_)
    ·try simp only[decide_eq_false_iff_not,Jj]at hb4
     obtain⟨w1,w2,w3⟩:bf≠okF/\rec q.1.toks (op++[nm]) ⟨Cop.addE st.names nm,st.copies+1⟩= .bad bf/\bv= .nilSlice:=by
      rcases hcase with z|⟨z,-⟩
      ·exact z
      ·exact absurd z hb4
     rw[w2]at hX;simp only at hX;refine Zk 2 [4,5] mixed (by kernel_rfl) (by rfl) (by rfl) fun K hK=>?_;simp+decide only[ev,qH,qG,putD,VO,VQ,Ka,Kb,↓qF,qY,qh Xw QN,↓qd,qb,QT,qf,VZ,Kn,Js,Nat.reduceAdd,qi,allLive,JU];refine qp (by rfl) (by rfl) zqA QN (by rfl) (by rfl) zqD (Jt _) (by first|rfl|(simp+decide only[ev,putD,VO,VQ,Ka,VX,Qt,JU,Vg,hmvs,hrvs,XJ,XM,Xi])) ?_;simp only[VX];simp+decide only[qa,ev,putD,VQ,VP,Ka,setAt,VY,Kj,Js,Nat.reduceAdd];apply hK;clear hK K;refine qL ?_;try simp only[Qe]
     refine qhz (by rfl) Tryz.underlying74 zqA (by rfl) (qcG _ b4 es4 0 hnot4) ?_;refine QD (?_) ?_
     ·simp+decide only[QG,qy,qj,VQ,Ka,and_true,qy,qj,qh Xw QN,qZ,qf,VZ,Kn,Js,Nat.reduceAdd,qi,allLive,JU,QZ,ne_eq,not_false_eq_true,ne_0q2_m,qf,VZ,Kn,Js,Nat.reduceAdd,qi,allLive,JU]
     simp+decide only[VQ,Ka,XA,qy,qj,qh Xw QN,qZ,qf,VZ,Kn,Js,Nat.reduceAdd,qi,allLive,JU,QZ,ne_eq,not_false_eq_true,ne_0q2_m,qf,VZ,Kn,Js,Nat.reduceAdd,qi,allLive,JU];rw[qew];refine⟨_,Vm _,none,st2, .nilSlice,bf,trivial,⟨hfew2,c3,es4,nb3,heB3,hes4,?_⟩,rfl, .inl ⟨w1,hX,rfl⟩⟩;change Sub (Ym B _ _ _ _ _ _ _) _;rw[<-heB3.set_m (c:=c3) (es:=es4++[(b4,nm)])];exact Bb (V5 (V5 hE14 (hE14.none hn_14q13)) z0q2) _ _
    ·try simp only[decide_eq_true_eq,VU]at hb4
     obtain⟨w1,out,w2,w3,w4,w5,w6⟩:bf=okF/\∃out,rec q.1.toks (op++[nm]) ⟨Cop.addE st.names nm,st.copies+1⟩= .ok out st2/\IsL wz (Ql (fun _=>none) tb0) 5 bv (out.map QI)/\out.length<=200000/\st2.names.length<=st2.copies/\st2.copies<=4096:=by
      rcases hcase with⟨z,-⟩|z
      ·exact absurd (by simpa using hb4) z
      ·exact z
     have w3:IsL wz B2 5 bv (out.map QI):=w3.mono (by rw[hB2];exact Ev (qeZ _));rw[w2]at hX;simp only[WR,Vg,decide_eq_true_eq]at hX;have nbv:=Zc w3;refine qP ?_;change Awp _ _ _ _ _ _ _;refine qJ ?_;refine awp_rseq [3,5,7,9,98] (by rfl) fun K hK=>?_;simp+decide only[qa,ev,qH,qG,putD,VO,VQ,VP,Ka,Kb,↓qg,qc,↓Xe,Qw,↓qw,qm,qA,cond_false,qo,qau,nbv];apply hK;clear hK K;refine qI (b:=_) rfl (fun hb5=>?_) (fun hb5=>?_)
     ·try simp only[decide_eq_true_eq]at hb5
      rw[if_pos (by omega)]at hX;refine awp_rseq [4,5] (by rfl) fun K hK=>?_;simp+decide only[ev,putD,VO,VQ,Ka,Kb,↓qg,qc];refine qO (V:= .tuple [.nilSlice,QC ⟨3,s.name.line,s.name.col⟩]) (by rfl) (by rfl) (qlw wz _ k0q0 s.name rv hrvl 3 (by rw[hsc];exact zqA)) ?_;simp+decide only[ev,putD,VO,VQ,Ka,Kb,↓QY,QL,QV,KY,J9,VZ,Kn,↓qd,qb,VZ,Kn,Js,Nat.reduceAdd,QC];refine qp (by rfl) (by rfl) zqA QN (by rfl) (by rfl) zqD (Jt _) (by first|rfl|(simp+decide only[ev,putD,VO,VQ,Ka,VX,Qt,JU,Vg,hmvs,hrvs,XJ,XM,Xi])) ?_;simp only[VX];simp+decide only[qa,ev,putD,VQ,VP,Ka,setAt,VY,Kj,Js,Nat.reduceAdd];apply hK;clear hK K;refine qL ?_;try simp only[Qe]
      refine qhz (by rfl) Tryz.underlying74 zqA (by rfl) (qcG _ b4 es4 0 hnot4) ?_;refine QD (?_) ?_
      ·simp+decide only[QG,qy,qj,VQ,Ka,and_true,qy,qj,qh Xw QN,qZ,qf,VZ,Kn,Js,Nat.reduceAdd,qi,allLive,JU,QZ,ne_eq,not_false_eq_true,ne_0q2_m,qf,VZ,Kn,Js,Nat.reduceAdd,qi,allLive,JU]
      simp+decide only[VQ,Ka,XA,qy,qj,qh Xw QN,qZ,qf,VZ,Kn,Js,Nat.reduceAdd,qi,allLive,JU,QZ,ne_eq,not_false_eq_true,ne_0q2_m,qf,VZ,Kn,Js,Nat.reduceAdd,qi,allLive,JU];rw[qew];refine⟨_,Vm _,none,st2, .nilSlice,⟨3,s.name.line,s.name.col⟩,trivial,⟨hfew2,c3,es4,nb3,heB3,hes4,?_⟩,rfl, .inl ⟨fun e=>absurd (congrArg FaultC.e e) (by simp[okF]),hX,rfl⟩⟩;change Sub (Ym B _ _ _ _ _ _ _) _;rw[<-heB3.set_m (c:=c3) (es:=es4++[(b4,nm)])];exact Bb (V5 (V5 hE14 (hE14.none hn_14q13)) z0q2) _ _
     ·try simp only[decide_eq_false_iff_not]at hb5
      rw[if_neg (by omega)]at hX;have z14:B2 k14q13=none:=hs2h.none hn_14q13;have hrE:qdv out s.reps=if 65536<(WL s.reps out).length then([],3)else(WL s.reps out,0):=by
       unfold qdv;rw[if_neg];rw[JY];rintro⟨x,hx,e⟩;exact hro x hx (by simpa using e)
      obtain⟨E,hE⟩:∃E,E=qdv out s.reps:=⟨_,rfl⟩
      refine qP ?_;change Awp _ _ _ _ _ _ _;refine awp_rseq [5,7,11,12] (by rfl) fun K hK=>?_;simp+decide only[ev,putD,VO,VQ,Ka,Kb,↓qg,qc,↓qB,ql,qsa,↓qF,qY,qz qAD,QZ,ne_eq,not_false_eq_true,ne_14q13_0q0.symm,QB wz eb_0q0,VZ,Kn,Js,hrvl];refine QU (by rfl) (by rfl) (qmk wz _ bv rv out s.reps (w3.mono zqB) (hrp.mono zqB) (by omega) hrl hrn) fun x19q3 h19q3 hx19q3=>?_;rw[<-hE]at hx19q3 hrE;obtain⟨ov,rfl,hor⟩:=hx19q3;have hor':=hor;obtain⟨tb,hov,o1,o2,o3⟩:=hor';have hovl:ov.live=true:=by rw[hov];cases tb<;>rfl
      have hs19:=(hor.toks (wz:=wz)).2.2;have hs_h19q3:Sub B h19q3:=BL zqC hs19;have hr_h19q3:Sub h14q9 h19q3:=BL zqC hs19;have eb_14q13:=hs19 k14q13 _ zqA;have eb_x:=hs19 kx _ zqA;have eb_m:=hs19 km _ zqA;have eb_0q0:=hs19 k0q0 _ zqA;have eb_0q2:=hs19 k0q2 _ zqA;have eb_1q3:=hs19 k1q3 _ zqA;simp+decide only[qa,ev,putD,VO,VQ,VP,Ka,Kb,↓qg,qc,↓QY,QL,QV,KY,J9,VZ,Kn,↓qd,qb,VZ,Kn,Js,Nat.reduceAdd];apply hK;clear hK K;refine qJ ?_;refine awp_rseq [5,7,11,12,111] (by rfl) fun K hK=>?_;simp+decide only[qa,ev,qH,qG,putD,VO,VQ,VP,Ka,Kb,↓qg,qc,↓qw,qm,qA,cond_false,qo,Un];apply hK;clear hK K;refine qI (b:=_) rfl (fun hb6=>?_) (fun hb6=>?_)
      ·try simp only[decide_eq_false_iff_not,Jj]at hb6
       have hE3:65536<(WL s.reps out).length:=by
        rcases KU 65536 (WL s.reps out).length with z|z
        ·exact z
        ·exfalso
         rw[if_neg (by omega)]at hrE;rw[hrE]at hb6;exact hb6 rfl
       rw[if_pos hE3]at hrE hX;have hE2:E.2=3:=by rw[hrE]
       refine awp_rseq [4,5] (by rfl) fun K hK=>?_;simp+decide only[ev,putD,VO,VQ,Ka,Kb,↓qg,qc];refine qO (V:= .tuple [.nilSlice,QC ⟨E.2,s.name.line,s.name.col⟩]) (by rfl) (by rfl) (qlw wz _ k0q0 s.name rv hrvl E.2 (by rw[hsc];exact zqA)) ?_;simp+decide only[ev,putD,VO,VQ,Ka,Kb,↓QY,QL,QV,KY,J9,VZ,Kn,↓qd,qb,VZ,Kn,Js,Nat.reduceAdd,QC];refine qp (by rfl) (by rfl) zqA QN (by rfl) (by rfl) zqD (Jt _) (by first|rfl|(simp+decide only[ev,putD,VO,VQ,Ka,VX,Qt,JU,Vg,hmvs,hrvs,XJ,XM,Xi])) ?_;simp only[VX];simp+decide only[qa,ev,putD,VQ,VP,Ka,setAt,VY,Kj,Js,Nat.reduceAdd];apply hK;clear hK K;refine qL ?_;try simp only[Qe]
       refine qhz (by rfl) Tryz.underlying74 zqA (by rfl) (qcG _ b4 es4 0 hnot4) ?_;refine QD (?_) ?_
       ·simp+decide only[QG,qy,qj,VQ,Ka,and_true,qy,qj,qh Xw QN,qZ,qf,VZ,Kn,Js,Nat.reduceAdd,qi,allLive,JU,QZ,ne_eq,not_false_eq_true,ne_0q2_m,qf,VZ,Kn,Js,Nat.reduceAdd,qi,allLive,JU]
       simp+decide only[VQ,Ka,XA,qy,qj,qh Xw QN,qZ,qf,VZ,Kn,Js,Nat.reduceAdd,qi,allLive,JU,QZ,ne_eq,not_false_eq_true,ne_0q2_m,qf,VZ,Kn,Js,Nat.reduceAdd,qi,allLive,JU];rw[qew,hE2];have hE19:=hE14.trans ((Vh hn_14q13).trans hs19);refine⟨_,Vm _,none,st2, .nilSlice,⟨3,s.name.line,s.name.col⟩,trivial,⟨hfew2,c3,es4,nb3,heB3,hes4,?_⟩,rfl, .inl ⟨fun e=>absurd (congrArg FaultC.e e) (by simp[okF]),hX,rfl⟩⟩;change Sub (Ym B _ _ _ _ _ _ _) _;rw[<-heB3.set_m (c:=c3) (es:=es4++[(b4,nm)])];exact Bb (V5 hE19 z0q2) _ _
      ·try simp only[decide_eq_true_eq,VU]at hb6
       have hE3:¬65536<(WL s.reps out).length:=fun z=>by
        rw[if_pos z]at hrE;rw[hrE]at hb6;exact absurd hb6 (by decide)
       rw[if_neg hE3]at hrE hX;have hE1:E.1=WL s.reps out:=by rw[hrE]
       refine qP ?_;change Awp _ _ _ _ _ _ _;refine awp_rseq [4,5] (by rfl) fun K hK=>?_;simp+decide only[ev,qH,qG,putD,VO,VQ,Ka,Kb,↓qg,qc,↓Qu,↓Qa,Yn,evP,Vk,↓qd,qb];refine qp (by rfl) (by rfl) zqA QN (by rfl) (by rfl) zqD (Jt _) (by first|rfl|(simp+decide only[ev,putD,VO,VQ,Ka,VX,Qt,JU,Vg,hmvs,hrvs,XJ,XM,Xi])) ?_;simp only[VX];simp+decide only[qa,ev,putD,VQ,VP,Ka,setAt,VY,Kj,Js,Nat.reduceAdd];apply hK;clear hK K;refine qL ?_;refine qhz (by rfl) Tryz.underlying74 zqA (by rfl) (qcG _ b4 es4 0 hnot4) ?_;refine QD (?_) ?_
       ·simp+decide only[QG,qy,qj,VQ,Ka,and_true,qy,qj,qh Xw QN,qZ,qf,VZ,Kn,Js,Nat.reduceAdd,qi,allLive,JU,QZ,ne_eq,not_false_eq_true,ne_0q2_m,qf,VZ,Kn,Js,Nat.reduceAdd,qi,allLive,JU]
       simp+decide only[VQ,Ka,XA,qy,qj,qh Xw QN,qZ,qf,VZ,Kn,Js,Nat.reduceAdd,qi,allLive,JU,QZ,ne_eq,not_false_eq_true,ne_0q2_m,qf,VZ,Kn,Js,Nat.reduceAdd,qi,allLive,JU];rw[qew];have hE14':Sub (Ym B kx km (.slice lcm om qs.length cm) c3 (es4++[(b4,nm)]) nb3 st2.copies) (h14q9.set k14q13 ⟨[.int .i64 bf.e, .int .i64 bf.line, .int .i64 bf.col],0⟩):=V5 hE14 (hE14.none hn_14q13);obtain⟨e1,e2⟩:=heB3.buf hE14' o1;have hE19:Sub (Ym (Ql B tb) kx km (.slice lcm om qs.length cm) c3 (es4++[(b4,nm)]) nb3 st2.copies) h19q3:=by rw[e1,o3];exact Ev hE14'
       have z7:Ym (Ql B tb) kx km (.slice lcm om qs.length cm) c3 (es4++[(b4,nm)]) nb3 st2.copies k0q2=none:=by rw[e1];exact qrc z0q2 ((Vd _ _ ne_14q13_0q2.symm).trans (hs2h _ _ (hsB2 _ _ b1_2))) o1
       have hob:bufOk B 5 tb:=o1.sub (zqB:Sub B (h14q9.set k14q13 ⟨[.int .i64 bf.e, .int .i64 bf.line, .int .i64 bf.col],0⟩));refine⟨_,Vm _,tb,st2,ov,okF,hob,⟨hfew2,c3,es4,nb3,e2,hes4,?_⟩,rfl, .inr ⟨rfl,WL s.reps out,hX,?_,by omega,w5,w6⟩⟩
       ·rw[<-e2.set_m (c:=c3) (es:=es4++[(b4,nm)])]
        exact Bb (V5 hE19 z7) _ _
       ·rw[hov,<-hE1]
        exact(BH (hob.sub (qeZ _)) (by decide) o2 Xn (Vm _)).clip
def qbS(h:AHeap):Option Buf->AHeap
 |none=>h
 |some b=>h.del b.blk
def UW(j:Nat):Option Buf->Prop
 |none=>True
 |some b=>j≠b.blk
theorem qal{h:AHeap}{tb:Option Buf}{j:Nat}{c:Blk}(hj:h j=some c)(hn:UW j tb):qbS h tb j=some c:=by
 cases tb with
 |none=>exact hj
 |some b=>simp only[qbS,Vl,show j≠b.blk from hn,if_false];exact hj
theorem Uc{G:AHeap}{es j:Nat}{tb:Option Buf}{c:Blk}(hb:bufOk G es tb)(hj:G j=some c):UW j tb:=by
 cases tb with
 |none=>trivial
 |some b=>exact qlF hb hj
theorem qus{h G:AHeap}{j:Nat}{tb:Option Buf}(hs:Sub (Ql G tb) h)(hj:h j=none):UW j tb:=by
 cases tb with
 |none=>trivial
 |some b=>
  intro e;have:=hs b.blk _ (Ve _ _ _);rw[<-e,hj]at this;cases this
theorem qdC{A h:AHeap}{es:Nat}{tb:Option Buf}(hs:Sub A h)(hb:bufOk A es tb):Sub A (qbS h tb):=fun j c hj=>qal (hs j c hj) (Uc hb hj)
theorem qtm(h:AHeap)(tb:Option Buf):Sub (qbS h tb) h:=by
 cases tb with
 |none=>exact Vm _
 |some b=>
  intro j c hj;by_cases e:j=b.blk
  ·subst e;simp[qbS,Vl]at hj
  ·simpa[qbS,Vl,e]using hj
def qbb(h:AHeap)(kx km:Nat)(nb:Option Buf):AHeap:=qbS ((h.del kx).del km) nb
theorem qgu{h:AHeap}{kx km:Nat}{nb:Option Buf}{j:Nat}{c:Blk}(hj:h j=some c)(hx:j≠kx)(hm:j≠km)(hn:UW j nb):qbb h kx km nb j=some c:=qal (by simp only[Vl,hx,hm,if_false];exact hj) hn
section
variable {B h:AHeap} {kx km:Nat} {mv:AVal} {c cp:Nat} {es:List (Nat×Str)} {nb:Option Buf} {ns:List Str}
theorem qAm(he:ExOk B kx km nb ns):ExOk (qbb h kx km nb) kx km nb ns:=by
 have hk:∀j,(j=kx\/j=km)->qbb h kx km nb j=none:=fun j hj=>by
  have:((h.del kx).del km) j=none:=by
   rcases hj with rfl|rfl
   ·by_cases e:j=km<;>simp[Vl,e]
   ·simp[Vl]
  cases hb:qbb h kx km nb j with
  |none=>rfl
  |some d=>
   have:=qtm _ _ j d hb;rw[‹((h.del kx).del km) j=none›]at this;cases this
 refine⟨hk km (.inr rfl),hk kx (.inl rfl),he.ne,fun M=>⟨(Vd _ _ he.ne.symm).trans (hk kx (.inl rfl)),fun X=>?_,(he.use M).eq⟩⟩;have h1:=(he.use M).ok X;cases nb with
 |none=>trivial
 |some b=>
  refine⟨?_,h1.2⟩;have h2:((B.set km M).set kx X) b.blk=none:=h1.1;have e1:b.blk≠kx:=fun e=>by rw[e,Ve]at h2;cases h2
  rw[Vd _ _ e1]at h2;have e2:b.blk≠km:=fun e=>by rw[e,Ve]at h2;cases h2
  refine(Vd _ _ e1).trans ((Vd _ _ e2).trans ?_);simp[qbb,qbS,Vl]
theorem qft(he:ExOk B kx km nb ns){j:Nat}{d:Blk}(hj:B j=some d):j≠kx/\j≠km/\UW j nb:=by
 refine⟨(fun e=>by rw[e,he.bx]at hj;cases hj),(fun e=>by rw[e,he.bm]at hj;cases hj),?_⟩;have hne:j≠km:=fun e=>by rw[e,he.bm]at hj;cases hj
 have hnx:j≠kx:=fun e=>by rw[e,he.bx]at hj;cases hj
 exact Uc ((he.use ⟨[],0⟩).ok ⟨[],0⟩) ((Vd _ _ hnx).trans ((Vd _ _ hne).trans hj))
theorem qfs(he:ExOk B kx km nb ns)(hs:Sub (Ym B kx km mv c es nb cp) h){j:Nat}(hj:h j=none):j≠kx/\j≠km/\UW j nb:=by
 refine⟨fun e=>?_,fun e=>?_,qus hs hj⟩
 ·have:=hs _ _ (he.x (mv:=mv) (c:=c) (es:=es) (cp:=cp))
  rw[<-e,hj]at this;cases this
 ·have:=hs _ _ (he.m (mv:=mv) (c:=c) (es:=es) (cp:=cp))
  rw[<-e,hj]at this;cases this
theorem qlI(he:ExOk B kx km nb ns){B':AHeap}(hb:∀j d,B' j=some d->j≠kx/\j≠km/\UW j nb)(hs:Sub B' h):Sub B' (qbb h kx km nb):=fun j d hj=>by
 obtain⟨h1,h2,h3⟩:=hb j d hj;exact qgu (hs j d hj) h1 h2 h3
theorem qyP(he:ExOk B kx km nb ns)(hs:Sub (Ym B kx km mv c es nb cp) h):Sub (Ym (qbb h kx km nb) kx km mv c es nb cp) h:=by
 have hx:=hs _ _ (he.x (mv:=mv) (c:=c) (es:=es) (cp:=cp));have hm:=hs _ _ (he.m (mv:=mv) (c:=c) (es:=es) (cp:=cp));have hn:∀b,nb=some b->h b.blk=some ⟨b.cells,0⟩:=fun b e=>by
  subst e;exact hs _ _ (Ve _ _ _)
 have hle:Sub (qbb h kx km nb) h:=(qtm _ _).trans fun j d hj=>by
  by_cases e1:j=km
  ·subst e1;simp[Vl]at hj
  ·by_cases e2:j=kx
   ·subst e2;simp[Vl]at hj
   ·simpa[Vl,e1,e2]using hj
 have hG:Sub (((qbb h kx km nb).set km (Zb c (es.map opC))).set kx ⟨[mv, .map km,QH 1 nb, .int .i64 cp],0⟩) h:=fun j d hj=>by
  by_cases e2:j=kx
  ·subst e2
   rw[Ve]at hj;rw[<-hj];exact hx
  ·rw[Vd _ _ e2]at hj
   by_cases e1:j=km
   ·subst e1
    rw[Ve]at hj;rw[<-hj];exact hm
   ·rw[Vd _ _ e1]at hj
    exact hle j d hj
 unfold Ym qcb;cases nb with
 |none=>exact hG
 |some b=>
  intro j d hj;by_cases e:j=b.blk
  ·subst e
   rw[show Ql (((qbb h kx km (some b)).set km (Zb c (es.map opC))).set kx ⟨[mv, .map km,QH 1 (some b), .int .i64 cp],0⟩) (some b)=(((qbb h kx km (some b)).set km (Zb c (es.map opC))).set kx ⟨[mv, .map km,QH 1 (some b), .int .i64 cp],0⟩).set b.blk ⟨b.cells,0⟩from rfl,Ve]at hj;rw[<-hj];exact hn b rfl
  ·rw[show Ql (((qbb h kx km (some b)).set km (Zb c (es.map opC))).set kx ⟨[mv, .map km,QH 1 (some b), .int .i64 cp],0⟩) (some b)=(((qbb h kx km (some b)).set km (Zb c (es.map opC))).set kx ⟨[mv, .map km,QH 1 (some b), .int .i64 cp],0⟩).set b.blk ⟨b.cells,0⟩from rfl,Vd _ _ e]at hj
   exact hG j d hj
end
section
variable {lim:Bool} {mem:List MemC} {op:List Str} {rec:List TokC->List Str->Xs->Xr} {l:List TokC}
theorem qjs:∀(f g i:Nat) (out:List TokC) (st:Xs),i<=l.length->l.length<f+i->l.length<g+i->UI lim mem op rec l f i out st=UI lim mem op rec l g i out st
 |0,g,i,out,st,hi,h1,_=>by omega
 |f+1,0,i,out,st,hi,_,h2=>by omega
 |f+1,g+1,i,out,st,hi,h1,h2=>by
  rw[UI,UI];simp only;split
  ·rfl
  ·rename_i hc
   have hcl:=qap hi;obtain⟨s1,s2,s3,s4⟩:=Ul (l:=l) (i:=Xm l i+1) (by omega);split
   ·rfl
   ·rename_i hok
    have h3:=s3 (by simpa using hok);cases WT lim mem op rec (Qn l (Xm l i+1)) st with
    |bad f'=>rfl
    |ok inner st'=>
     simp only;split
     ·rfl
     ·exact qjs f g _ _ _ s2 (by omega) (by omega)
def qlc(lim:Bool)(mem:List MemC)(op:List Str)(rec:List TokC->List Str->Xs->Xr)(l:List TokC)(i:Nat)(out:List TokC)(st:Xs):Xr:=UI lim mem op rec l (l.length+1-i) i out st
theorem qgN{i:Nat}(hi:i<=l.length)(out:List TokC)(st:Xs):qlc lim mem op rec l i out st=
 if l.length<=Xm l i then .ok (out++l.drop i) st
 else if (Qn l (Xm l i+1)).ok=false then .bad (qao l (Xm l i) (Qn l (Xm l i+1)).at_)
 else match WT lim mem op rec (Qn l (Xm l i+1)) st with
  | .bad f=> .bad f
  | .ok inner st'=>if WR lim (out++ZT l i (Xm l i)++inner)=true then .bad ⟨3,(Qn l (Xm l i+1)).name.line,(Qn l (Xm l i+1)).name.col⟩else qlc lim mem op rec l (Qn l (Xm l i+1)).at_ (out++ZT l i (Xm l i)++inner) st':=by
 unfold qlc;rw[show l.length+1-i=(l.length-i)+1 by omega,UI];simp only;split
 ·rfl
 ·rename_i hc
  have hcl:=qap hi;obtain⟨s1,s2,s3,s4⟩:=Ul (l:=l) (i:=Xm l i+1) (by omega);split
  ·rfl
  ·rename_i hok
   have h3:=s3 (by simpa using hok);cases WT lim mem op rec (Qn l (Xm l i+1)) st with
   |bad f'=>rfl
   |ok inner st'=>
    simp only;split
    ·rfl
    ·exact qjs _ _ _ _ _ s2 (by omega) (by omega)
end
theorem qlB{H H':AHeap}{es:Nat}{b:Option Buf}(hb:bufOk H es b)(hn:∀j,H j=none->H' j=none):bufOk H' es b:=by
 cases b with
 |none=>trivial
 |some b=>exact⟨hn _ hb.1,hb.2⟩
theorem qlC{H H':AHeap}{es:Nat}{b:Option Buf}(hb:bufOk H es b)(hn:∀b',b=some b'->H' b'.blk=none):bufOk H' es b:=by
 cases b with
 |none=>trivial
 |some b=>exact⟨hn _ rfl,hb.2⟩
theorem UD{B B':AHeap}(hn:∀j,B j=none->B' j=none)(k:Nat)(c:Blk):∀j,B.set k c j=none->B'.set k c j=none:=fun j hj=>by
 by_cases e:j=k
 ·subst e;rw[Ve]at hj;cases hj
 ·rw[Vd _ _ e]at hj|-
  exact hn j hj
theorem ExOk.same{B B':AHeap}{kx km:Nat}{nb:Option Buf}{ns:List Str}(he:ExOk B kx km nb ns)(hn:∀j,B j=none->B' j=none):ExOk B' kx km nb ns:=
 ⟨hn _ he.bm,hn _ he.bx,he.ne,fun M=>⟨UD hn km M _ (he.use M).bx,fun X=>qlB ((he.use M).ok X) (UD (UD hn km M) kx X),(he.use M).eq⟩⟩
theorem quI{B B':AHeap}{kx km:Nat}{mv:AVal}{c cp:Nat}{es:List (Nat×Str)}{nb:Option Buf}(hn:∀j,B j=none->B' j=none):∀j,Ym B kx km mv c es nb cp j=none->Ym B' kx km mv c es nb cp j=none:=by
 have h1:=UD (UD hn km (Zb c (es.map opC))) kx ⟨[mv, .map km,QH 1 nb, .int .i64 cp],0⟩;unfold Ym qcb;cases nb with
 |none=>exact h1
 |some b=>exact UD h1 b.blk ⟨b.cells,0⟩
theorem qiB{A:AHeap}{k:Nat}(X Y:Blk):∀j,A.set k X j=none->A.set k Y j=none:=fun j hj=>by
 by_cases e:j=k
 ·subst e;rw[Ve]at hj;cases hj
 ·rw[Vd _ _ e]at hj|-
  exact hj
theorem qkt{A B:AHeap}{k:Nat}{c:Blk}(hs:Sub A B)(hk:B k=some c):Sub (A.set k c) B:=fun j d hj=>by
 by_cases e:j=k
 ·subst e;rw[Ve]at hj;rw[<-hj];exact hk
 ·rw[Vd _ _ e]at hj;exact hs j d hj
def hasB(h:AHeap)(tb:Option Buf):Prop:=∀b,tb=some b->h b.blk=some ⟨b.cells,0⟩
theorem hasB.mono{h h':AHeap}{tb:Option Buf}(hh:hasB h tb)(hs:Sub h h'):hasB h' tb:=fun b e=>hs _ _ (hh b e)
theorem qfy(H:AHeap)(tb:Option Buf):hasB (Ql H tb) tb:=fun b e=>by subst e;exact Ve _ _ _
theorem hasB.set{h:AHeap}{tb:Option Buf}{j:Nat}(hh:hasB h tb)(hn:UW j tb)(c:Blk):hasB (h.set j c) tb:=fun b e=>by
 subst e;rw[Vd _ _ (Ne.symm hn)];exact hh b rfl
theorem qmG{h:AHeap}{tb:Option Buf}{j:Nat}(hh:hasB h tb)(hj:h j=none):UW j tb:=by
 cases tb with
 |none=>trivial
 |some b=>
  intro e;have:=hh b rfl;rw[<-e,hj]at this;cases this
theorem qpo{G h:AHeap}{es:Nat}{tb:Option Buf}(hb:bufOk G es tb)(hh:hasB h tb):bufOk (qbS h tb) es tb/\Sub (Ql (qbS h tb) tb) h:=by
 cases tb with
 |none=>exact⟨trivial,Vm _⟩
 |some b=>
  refine⟨⟨by simp[qbS,Vl],hb.2⟩,fun j c hj=>?_⟩;have h1:=hh b rfl;by_cases e:j=b.blk
  ·subst e
   rw[show Ql (qbS h (some b)) (some b)=(qbS h (some b)).set b.blk ⟨b.cells,0⟩from rfl,Ve]at hj;rw[<-hj];exact h1
  ·rw[show Ql (qbS h (some b)) (some b)=(qbS h (some b)).set b.blk ⟨b.cells,0⟩from rfl,Vd _ _ e]at hj
   simpa[qbS,Vl,e]using hj
theorem qsB{B H E:AHeap}{es:Nat}{tb:Option Buf}(hb:bufOk B es tb)(hE:NewE B H E)(hh:hasB H tb):bufOk E es tb:=by
 cases tb with
 |none=>trivial
 |some b=>exact⟨hE.none (hh b rfl) hb.1,hb.2⟩
theorem ExOk.newE{B H E:AHeap}{kx km:Nat}{mv:AVal}{c cp:Nat}{es:List (Nat×Str)}{nb:Option Buf}{ns:List Str}(he:ExOk B kx km nb ns)(hE:NewE B H E)(hs:Sub (Ym B kx km mv c es nb cp) H):ExOk E kx km nb ns:=by
 have e1:E km=none:=hE.none (hs _ _ he.m) he.bm;have e2:E kx=none:=hE.none (hs _ _ he.x) he.bx;refine⟨e1,e2,he.ne,fun M=>⟨(Vd _ _ he.ne.symm).trans e2,fun X=>?_,(he.use M).eq⟩⟩;refine qlC ((he.use M).ok X) fun b hb=>?_;subst hb;have h2:((B.set km M).set kx X) b.blk=none:=((he.use M).ok X).1;have q1:b.blk≠kx:=fun e=>by rw[e,Ve]at h2;cases h2
 rw[Vd _ _ q1]at h2;have q2:b.blk≠km:=fun e=>by rw[e,Ve]at h2;cases h2
 rw[Vd _ _ q2]at h2;exact(Vd _ _ q1).trans ((Vd _ _ q2).trans (hE.none (hs b.blk _ (Ve _ _ _)) h2))
structure LsG where
 i:Nat
 c:Nat
 es:List (Nat×Str)
 nb:Option Buf
 st:Xs
 tb:Option Buf
 out:List TokC
structure LsOk(B:AHeap)(kx km k0 k1:Nat)(mv:AVal)(op:List Str)(l:List TokC)(R:Nat->List TokC->Xs->Xr)(X:Xr)(s:LsG):Prop where
 i:s.i<=l.length
 ex:∀Y,ExOk ((B.set k0 ⟨[.int .i64 0, .int .i64 0, .int .i64 0],0⟩).set k1 Y) kx km s.nb s.st.names
 op:s.es.map (·.2)=op
 ok:∀Y,bufOk (Ym ((B.set k0 ⟨[.int .i64 0, .int .i64 0, .int .i64 0],0⟩).set k1 Y) kx km mv s.c s.es s.nb s.st.copies) 5 s.tb
 eq:Yh s.tb=(s.out.map QI).flatten
 len:s.out.length<=65536
 nm:s.st.names.length<=s.st.copies
 cp:s.st.copies<=4096
 go:R s.i s.out s.st=X
set_option maxHeartbeats 4000000 in
theorem qtD(wz:World)(h B:AHeap)(kx km:Nat)(mv:AVal)(mems:List MemC)(op:List Str)(st:Xs)(v:AVal)(l:List TokC)(rec:List TokC->List Str->Xs->Xr)(hx:ExpR B kx km mv op st h)(hms:IsMems wz B mv mems)(hml:mems.length<=1000000)(hmt:∀m∈mems,m.toks.length<=100000)
 (hv:IsL wz B 5 v (l.map QI)) (hl:l.length<=100000) (hst:st.names.length<=st.copies) (hst2:st.copies<=4096) (hop8:op.length<=8)
 (hrec:op.length<8->∀nm,qyV wz kx km mv mems (op++[nm]) rec):
 ACall Tryz.prog wz 32 [.ptr (.own kx) 0,v] h (qze wz B kx km mv op (UI true mems op rec l (l.length+1) 0 [] st)):=by
 obtain⟨hfew,c,es,nb,he,hes,hsh⟩:=hx;have hmvs:mv.scal=true:=by obtain⟨qs,-,q2,-⟩:=hms;exact q2.scal
 have hmvl:=Yu hmvs;have hlv:=hv.live;have hvs:=hv.scal;have hSv:Sc v=True:=eq_true (qwH hv);have nv:=Zc hv;refine ACall.down hsh ?_;obtain⟨X,hX⟩:∃X,X=UI true mems op rec l (l.length+1) 0 [] st:=⟨_,rfl⟩
 have hX0:qlc true mems op rec l 0 [] st=X:=hX.symm;rw[<-hX];obtain⟨H,hH⟩:∃H,H=Ym B kx km mv c es nb st.copies:=⟨_,rfl⟩
 have hs_H:Sub B H:=by rw[hH];exact he.above
 have eb_x:H kx=some ⟨[mv, .map km,QH 1 nb, .int .i64 st.copies],0⟩:=by rw[hH];exact he.x
 have eb_m:H km=some (Zb c (es.map opC)):=by rw[hH];exact he.m
 have ne_x_m:kx≠km:=he.ne.symm;have hrvs:(AVal.bool true).scal=true:=rfl;have hrvl:(AVal.bool true).live=true:=rfl;have hbvl:(AVal.bool true).live=true:=rfl;have hbl:=QP 5 none;have hbn:=QP 1 nb;rw[<-hH];refine qU (n:=52) (rs:=[.tmp 4, .cell 5 35]) Tryz.func32 rfl rfl rfl rfl (VN rfl) ?_;simp only[Qg];refine awp_rseq [0,1,5] (by rfl) fun K hK=>?_;simp+decide only[ev,qH,qG,putD,VO,if_false,Kb,↓qd,qb,Js];refine Qi qaE (cs:=[.int .i64 0, .int .i64 0, .int .i64 0]) (by rfl) fun k0q1 hk0q1=>?_;have hn_0q1:H k0q1=none:=by first|assumption|(simp only[V9]at hk0q1;simp only[hk0q1])
 have hf_0q1:B k0q1=none:=Bi hs_H hn_0q1;have ne_0q1_x:k0q1≠kx:=Bj hn_0q1 eb_x;have ne_0q1_m:k0q1≠km:=Bj hn_0q1 eb_m;simp+decide only[qa,putD,VO,VP,Ka];apply hK;clear hK K;refine awp_rseq [0,5,6] (by rfl) fun K hK=>?_;simp+decide only[ev,qH,qG,putD,VO,VQ,Ka,Kb,↓qg,qc,↓Qu,↓Qa,qAl,evP,Ke,Vk,hSv];refine Qi qCS (cs:=[.nilSlice, .int .i64 0]) (by rfl) fun k1q2 hk1q2=>?_;have ne_1q2_0q1:k1q2≠k0q1:=by simp only[V9]at hk1q2;simp only[hk1q2,ne_eq,not_false_eq_true]
 have hn_1q2:H k1q2=none:=by first|assumption|(simp only[V9]at hk1q2;simp only[hk1q2])
 have hf_1q2:B k1q2=none:=Bi hs_H hn_1q2;have ne_1q2_x:k1q2≠kx:=Bj hn_1q2 eb_x;have ne_1q2_m:k1q2≠km:=Bj hn_1q2 eb_m;refine qp (by rfl) (by rfl) zqA qCV (by rfl) (by rfl) zqD (Jt _) (by first|rfl|(simp+decide only[ev,putD,VO,VQ,Ka,VX,Qt,JU,hvs,XJ])) ?_;simp only[Vi,VX];simp+decide only[qa,ev,putD,VO,VQ,VP,Ka,setAt,VY,Kj,Js];apply hK;clear hK K;obtain⟨y1,y2⟩:=he.lay (mv:=mv) (c:=c) (es:=es) (cp:=st.copies) (j:=k0q1) (by rw[<-hH];exact hn_0q1) ⟨[.int .i64 0, .int .i64 0, .int .i64 0],0⟩;obtain⟨y3,y4⟩:=y2.lay (mv:=mv) (c:=c) (es:=es) (cp:=st.copies) (j:=k1q2) (by rw[<-y1,<-hH];exact(Vd _ _ ne_1q2_0q1).trans hn_1q2) ⟨[v, .int .i64 0],0⟩;refine awp_rseq [0,5,6,7] (by rfl) fun K hK=>?_;simp+decide only[qa,ev,qH,qG,putD,VO,VP,Ka,Kb,↓qd,qb];apply hK;clear hK K;refine Qm ?_;refine XC [0,5,6,7] (fun s:LsG=>[(0, .ptr (.own kx) 0),(5, .ptr (.own k0q1) 0),(6, .ptr (.own k1q2) 0),(7,QH 5 s.tb)]) (fun s:LsG=>Ql (Ym ((B.set k0q1 ⟨[.int .i64 0, .int .i64 0, .int .i64 0],0⟩).set k1q2 ⟨[v, .int .i64 s.i],0⟩) kx km mv s.c s.es s.nb s.st.copies) s.tb) (fun s:LsG=>LsOk B kx km k0q1 k1q2 mv op l (qlc true mems op rec l) X s) (fun s:LsG=>l.length-s.i) ⟨0,c,es,nb,st,none,[]⟩ (by rfl) (by(show Sub (Ym _ _ _ _ _ _ _ _) _);rw[show((((0:Nat):Int)))=(0:Int)from rfl,<-y3,<-y1,<-hH];exact Vm _) ⟨Jt _,fun Y=>y4.same (qiB _ _),hes,fun Y=>trivial,rfl,Jt _,hst,hst2,hX0⟩ ?_;rintro⟨i,c,es,nb,st,tb,out⟩ ⟨g1,g2,g3,g4,g5,g6,g7,g8,g9⟩;simp only at g1 g2 g3 g4 g5 g6 g7 g8 g9|-
 have g2i:=g2 ⟨[v, .int .i64 i],0⟩;have g4i:=g4 ⟨[v, .int .i64 i],0⟩;obtain⟨G,hG⟩:∃G,G=(B.set k0q1 ⟨[.int .i64 0, .int .i64 0, .int .i64 0],0⟩).set k1q2 ⟨[v, .int .i64 i],0⟩:=⟨_,rfl⟩
 rw[<-hG]at g2i g4i|-
 have hBG:Sub B G:=by rw[hG];exact zqB
 have gb_0:G k0q1=some ⟨[.int .i64 0, .int .i64 0, .int .i64 0],0⟩:=by rw[hG];exact zqA
 have gb_1:G k1q2=some ⟨[v, .int .i64 i],0⟩:=by rw[hG];exact Ve _ _ _
 obtain⟨H1,hH1⟩:∃H1,H1=Ql (Ym G kx km mv c es nb st.copies) tb:=⟨_,rfl⟩
 have hbuf:Sub (Ym G kx km mv c es nb st.copies) H1:=by rw[hH1];exact BJ g4i
 have hs_H1:Sub B H1:=(hBG.trans g2i.above).trans hbuf;have eb_x:H1 kx=some ⟨[mv, .map km,QH 1 nb, .int .i64 st.copies],0⟩:=hbuf _ _ g2i.x;have eb_m:H1 km=some (Zb c (es.map opC)):=hbuf _ _ g2i.m;have eb_0q1:H1 k0q1=some ⟨[.int .i64 0, .int .i64 0, .int .i64 0],0⟩:=hbuf _ _ (g2i.above _ _ gb_0);have eb_1q2:H1 k1q2=some ⟨[v, .int .i64 i],0⟩:=hbuf _ _ (g2i.above _ _ gb_1);have has1:hasB H1 tb:=by rw[hH1];exact qfy _ _
 have heB:ExOk B kx km nb st.names:=g2i.down hBG;have hokB:bufOk (Ym B kx km mv c es nb st.copies) 5 tb:=g4i.sub (qdI hBG);have hokB0:bufOk B 5 tb:=hokB.sub heB.above;have hEB1:Sub (Ym B kx km mv c es nb st.copies) H1:=(qdI hBG).trans hbuf;have zB0:Ym B kx km mv c es nb st.copies k0q1=none:=g2i.off gb_0 hf_0q1;have zB1:Ym B kx km mv c es nb st.copies k1q2=none:=g2i.off gb_1 hf_1q2;have hbl:=QP 5 tb;have hbn:=QP 1 nb;have hstp:=qgN (lim:=true) (mem:=mems) (op:=op) (rec:=rec) g1 out st;rw[g9]at hstp;rw[<-hH1];refine Qm ?_;refine awp_rseq [0,5,6,7,8,9,10,11] (by rfl) fun K hK=>?_;refine QU (by rfl) (by rfl) (qAa wz H1 B k1q2 v l i eb_1q2 hs_H1 hf_1q2 hv (by omega) g1) fun x3q0 h3q0 hx3q0=>?_;obtain⟨hsub3,j,eb_1q2,hj,hcase⟩:=hx3q0;have hcl:=qap g1;have hstm:Xm l i<l.length->_:=fun hc=>Ul (l:=l) (i:=Xm l i+1) (by omega);have hrps:=qfb l (Xm l i+1);obtain⟨ci,hci⟩:∃ci,ci=Xm l i:=⟨_,rfl⟩
 rw[<-hci]at hcase hcl hstm hrps hstp;obtain⟨sm,hsm⟩:∃sm,sm=Qn l (ci+1):=⟨_,rfl⟩
 rw[<-hsm]at hcase hstm hrps hstp;obtain⟨bv,t,rv,more,f,E,rfl,hbvl,hrvs,hE3,hE3s,hcase⟩:∃bv t rv more f E,x3q0=qkU bv t rv more f/\bv.live=true/\rv.scal=true/\NewE B H1 E/\Sub E h3q0/\
  ((f≠okF/\X= .bad f)\/(f=okF/\more=false/\X= .ok (out++l.drop i) st/\IsL wz B 5 bv ((l.drop i).map QI))\/
   (f=okF/\more=true/\ci<l.length/\sm.ok=true/\t=sm.name/\j=sm.at_/\IsL wz B 5 bv ((ZT l i ci).map QI)/\IsReps wz E rv sm.reps)):=by
  have hle:Sub B (H1.del k1q2):=qcT hs_H1 hf_1q2;rcases hcase with⟨z1,bv,rfl,z2⟩|⟨z1,z2,rfl⟩|⟨z1,z2,z3,bv,rv,E,rfl,z4,z5,z6,z7⟩
  ·rw[if_pos z1]at hstp
   exact⟨bv,_,_,_,_,B,rfl,z2.live,rfl,NewE.refl _ _,hle.trans hsub3, .inr (.inl ⟨rfl,rfl,hstp,z2⟩)⟩
  ·rw[if_neg (by omega),if_pos z2]at hstp
   exact⟨.nilSlice,_,_,_,_,B,rfl,rfl,rfl,NewE.refl _ _,hle.trans hsub3, .inl ⟨qrZ _ _ _,hstp⟩⟩
  ·exact⟨bv,_,rv,_,_,E,rfl,z4.live,(by obtain⟨qs,-,q2,-⟩:=z7;exact q2.scal),z5,z6, .inr (.inr ⟨rfl,rfl,z1,z2,rfl,z3,z4,z7⟩)⟩
 have hrvl:=Yu hrvs;have hd:∀k d,H1 k=some d->k≠k1q2->h3q0 k=some d:=fun k d hk hn=>hsub3 k d (by simp only[Vl,hn,if_false];exact hk);have eb_x:h3q0 kx=some ⟨[mv, .map km,QH 1 nb, .int .i64 st.copies],0⟩:=hd _ _ eb_x ne_1q2_x.symm;have eb_m:h3q0 km=some (Zb c (es.map opC)):=hd _ _ eb_m ne_1q2_m.symm;have eb_0q1:h3q0 k0q1=some ⟨[.int .i64 0, .int .i64 0, .int .i64 0],0⟩:=hd _ _ eb_0q1 ne_1q2_0q1.symm;have hs_h3q0:Sub B h3q0:=(qcT hs_H1 hf_1q2).trans hsub3;have hEB3:Sub (Ym B kx km mv c es nb st.copies) h3q0:=(qcT hEB1 zB1).trans hsub3;have has3:hasB h3q0 tb:=fun b e=>hd _ _ (has1 b e) (by subst e;exact Ne.symm (qlF g4i (g2i.above _ _ gb_1)));unfold qkU qnz;simp+decide only[ev,putD,VO,VQ,Ka,Kb,↓qg,qc,↓QY,QL,QV,KY,J9,VZ,Kn,VZ,Kn,Js,Nat.reduceAdd,QC];refine Qi qvu (cs:=[.int .u8 0, .str [], .int .i64 0, .int .i64 0, .bool false, .nilSlice]) (by rfl) fun k3q6 hk3q6=>?_;have hn_3q6:h3q0 k3q6=none:=by first|assumption|(simp only[V9]at hk3q6;simp only[hk3q6])
 have hf_3q6:B k3q6=none:=Bi hs_h3q0 hn_3q6;have ne_3q6_x:k3q6≠kx:=Bj hn_3q6 eb_x;have ne_3q6_m:k3q6≠km:=Bj hn_3q6 eb_m;have ne_3q6_0q1:k3q6≠k0q1:=Bj hn_3q6 eb_0q1;have ne_3q6_1q2:k3q6≠k1q2:=Bj hn_3q6 eb_1q2;refine Qi qaE (cs:=[.int .i64 0, .int .i64 0, .int .i64 0]) (by rfl) fun k3q7 hk3q7=>?_;have ne_3q7_3q6:k3q7≠k3q6:=by simp only[V9]at hk3q7;simp only[hk3q7,ne_eq,not_false_eq_true]
 have hn_3q7:h3q0 k3q7=none:=by first|assumption|(simp only[V9]at hk3q7;simp only[hk3q7])
 have hf_3q7:B k3q7=none:=Bi hs_h3q0 hn_3q7;have ne_3q7_x:k3q7≠kx:=Bj hn_3q7 eb_x;have ne_3q7_m:k3q7≠km:=Bj hn_3q7 eb_m;have ne_3q7_0q1:k3q7≠k0q1:=Bj hn_3q7 eb_0q1;have ne_3q7_1q2:k3q7≠k1q2:=Bj hn_3q7 eb_1q2;simp+decide only[ev,putD,VO,VQ,Ka,Kb,↓qd,qb];refine qp (by rfl) (by rfl) zqA qaP (by rfl) (by rfl) zqD (Jt _) (by first|rfl|(simp+decide only[ev,VQ,Ka,VX,Qt,JU,hrvs,XJ,XM,Xi])) ?_;simp only[VX];simp+decide only[ev,putD,VO,VQ,Ka,Kb,↓qd,qb,setAt,VY,Kj,Js,Nat.reduceAdd];refine qp (by rfl) (by rfl) zqA QN (by rfl) (by rfl) zqD (Jt _) (by first|rfl|(simp+decide only[ev,putD,VO,VQ,Ka,VX,Qt,JU,Vg,hvs,hrvs,XJ,XM,Xi])) ?_;simp only[VX];simp+decide only[qa,ev,putD,VQ,VP,Ka,setAt,VY,Kj,Js,Nat.reduceAdd];apply hK;clear hK K;refine qJ ?_;refine awp_rseq [0,5,6,7,8,9,10,11,23] (by rfl) fun K hK=>?_;simp+decide only[qa,ev,qH,qG,putD,VO,VQ,VP,Ka,Kb,↓qF,qY,qh Xw QN,↓Qu,↓Qa,Yn,evP,Vk,↓qw,qm,qR,cond_false,YO,qpr,QT,qf,VZ,Kn,Js,Nat.reduceAdd,qi,allLive,JU,UG];apply hK;clear hK K;refine qI (b:=_) rfl (fun hb1=>?_) (fun hb1=>?_)
 ·try simp only[decide_eq_false_iff_not,Jj]at hb1
  have hXb:X= .bad f:=by
   rcases hcase with⟨-,z⟩|⟨z,-⟩|⟨z,-⟩
   ·exact z
   ·exact absurd z hb1
   ·exact absurd z hb1
  refine Zk 2 [4,5] mixed (by kernel_rfl) (by rfl) (by rfl) fun K hK=>?_;simp+decide only[ev,qH,qG,putD,VO,VQ,Ka,Kb,↓qF,qY,qh Xw QN,↓qd,qb,QT,qf,VZ,Kn,Js,Nat.reduceAdd,qi,allLive,JU];refine qp (by rfl) (by rfl) zqA QN (by rfl) (by rfl) zqD (Jt _) (by first|rfl|(simp+decide only[ev,putD,VO,VQ,Ka,VX,Qt,JU,Vg,hvs,hrvs,XJ,XM,Xi])) ?_;simp only[VX];simp+decide only[qa,ev,putD,VQ,VP,Ka,setAt,VY,Kj,Js,Nat.reduceAdd];apply hK;clear hK K;refine qL ?_;try simp only[Qe,Qp]
  refine QD (?_) ?_
  ·simp+decide only[QG,qy,qj,VQ,Ka,and_true,qy,qj,qh Xw QN,qZ,qf,VZ,Kn,Js,Nat.reduceAdd,qi,allLive,JU,qf,VZ,Kn,Js,Nat.reduceAdd,qi,allLive,JU]
  simp+decide only[VQ,Ka,XA,qy,qj,qh Xw QN,qZ,qf,VZ,Kn,Js,Nat.reduceAdd,qi,allLive,JU,qf,VZ,Kn,Js,Nat.reduceAdd,qi,allLive,JU];have z36:=hEB3.none hn_3q6;have z37:=hEB3.none hn_3q7;exact⟨_,Vm _,none,st, .nilSlice,f,trivial,⟨by omega,c,es,nb,heB,g3,zqB⟩,rfl, .inl ⟨hb1,hXb,rfl⟩⟩
 ·try simp only[decide_eq_true_eq,VU]at hb1
  obtain⟨hf0,bl,hbl5,hbll,hcase⟩:f=okF/\∃bl,IsL wz B 5 bv (bl.map QI)/\bl.length<=l.length/\((more=false/\X= .ok (out++bl) st)\/(more=true/\ci<l.length/\sm.ok=true/\t=sm.name/\j=sm.at_/\bl=ZT l i ci/\IsReps wz E rv sm.reps)):=by
   rcases hcase with⟨z,-⟩|⟨z1,z2,z3,z4⟩|⟨z1,z2,z3,z4,z5,z6,z7,z8⟩
   ·exact absurd (by simpa using hb1) z
   ·exact⟨z1,_,z4,by rw[K6];omega, .inl ⟨z2,z3⟩⟩
   ·exact⟨z1,_,z7,qig _ _ _, .inr ⟨z2,z3,z4,z5,z6,rfl,z8⟩⟩
  refine qP ?_;change Awp _ _ _ _ _ _ _;obtain⟨C6,hC6⟩:∃C6,C6=(h3q0.set k3q6 ⟨[.int .u8 t.kind.toNat, .str t.text, .int .i64 t.line, .int .i64 t.col, .bool t.left,rv],0⟩).set k3q7 ⟨[.int .i64 f.e, .int .i64 f.line, .int .i64 f.col],0⟩:=⟨_,rfl⟩
  refine BI (h':=C6) (by rw[hC6];exact Bb (Bb (V5 (Vh hn_3q6) hn_3q7) _ _) _ _) ?_;have h36:Sub h3q0 C6:=by rw[hC6];exact V5 (Vh hn_3q6) hn_3q7
  have hs_C6:Sub B C6:=hs_h3q0.trans h36;have eb_x:C6 kx=some ⟨[mv, .map km,QH 1 nb, .int .i64 st.copies],0⟩:=h36 _ _ eb_x;have eb_m:C6 km=some (Zb c (es.map opC)):=h36 _ _ eb_m;have eb_0q1:C6 k0q1=some ⟨[.int .i64 0, .int .i64 0, .int .i64 0],0⟩:=h36 _ _ eb_0q1;have eb_1q2:C6 k1q2=some ⟨[v, .int .i64 j],0⟩:=h36 _ _ eb_1q2;have eb_3q6:C6 k3q6=some ⟨[.int .u8 t.kind.toNat, .str t.text, .int .i64 t.line, .int .i64 t.col, .bool t.left,rv],0⟩:=by rw[hC6];exact zqA
  have eb_3q7:C6 k3q7=some ⟨[.int .i64 f.e, .int .i64 f.line, .int .i64 f.col],0⟩:=by rw[hC6];exact Ve _ _ _
  have has6:=has3.mono h36;obtain⟨of1,of2⟩:=qpo g4i has6;have nb_x:UW kx tb:=Uc g4i g2i.x;have nb_m:UW km tb:=Uc g4i g2i.m;have nb_0:UW k0q1 tb:=Uc g4i (g2i.above _ _ gb_0);have nb_1:UW k1q2 tb:=Uc g4i (g2i.above _ _ gb_1);have nb_6:UW k3q6 tb:=qmG has3 hn_3q6;have nb_7:UW k3q7 tb:=qmG has3 hn_3q7;have of_x:=qal eb_x nb_x;have of_m:=qal eb_m nb_m;have of_0:=qal eb_0q1 nb_0;have of_1:=qal eb_1q2 nb_1;have of_6:=qal eb_3q6 nb_6;have of_7:=qal eb_3q7 nb_7;have of_B:Sub B (qbS C6 tb):=qdC hs_C6 hokB0;have of_E:Sub E (qbS C6 tb):=qdC (hE3s.trans h36) (qsB hokB0 hE3 has1);have of_X:Sub (Ym B kx km mv c es nb st.copies) (qbS C6 tb):=qdC (hEB3.trans h36) hokB;refine awp_rseq [0,5,6,7,9,10,11] (by rfl) fun K hK=>?_;simp+decide only[ev,putD,VO,VQ,Ka,Kb,↓qg,qc];refine Xt (es:=5) (zs:=out.map QI) (xs:=bl.map QI) (hZ:=qbS C6 tb) (b:=tb) (by rfl) (by rfl) Tryz.underlying26 Tryz.underlying26 (fun k e=>by cases e) Xb qha qat (by rfl) (by decide) (by rfl) of1 g5 Xn of2 (by rfl) (hbl5.mono hs_C6) (by rw[YT];intro z hz;obtain⟨t,_,rfl⟩:=JH.1 hz;rfl) (by simp;omega) (by simp;omega) fun tb2 h6 o1 o2 o3=>?_;have sub6:Sub (qbS C6 tb) h6:=(BJ o1).trans o3;have hs_h6:Sub B h6:=of_B.trans sub6;have eb_x:=sub6 _ _ of_x;have eb_m:=sub6 _ _ of_m;have eb_0q1:=sub6 _ _ of_0;have eb_1q2:=sub6 _ _ of_1;have eb_3q6:=sub6 _ _ of_6;have eb_3q7:=sub6 _ _ of_7;have hbl:=QP 5 tb2;simp+decide only[qa,ev,putD,VO,VQ,VP,Ka,Kb,↓qd,qb];apply hK;clear hK K;refine qJ ?_;refine awp_rseq [0,5,6,7,9,11,29] (by rfl) fun K hK=>?_;simp+decide only[qa,ev,putD,VO,VQ,VP,Ka,Kb,↓qg,qc,↓YI,Zl,YC];apply hK;clear hK K;refine qI (b:=_) rfl (fun hb2=>?_) (fun hb2=>?_)
  ·try simp only[Jj]at hb2
   have hXo:X= .ok (out++bl) st:=by
    rcases hcase with⟨-,z⟩|⟨z,-⟩
    ·exact z
    ·rw[z]at hb2;cases hb2
   refine awp_rseq [4,5] (by rfl) fun K hK=>?_;simp+decide only[ev,qH,qG,putD,VO,VQ,Ka,Kb,↓qg,qc,↓Qu,↓Qa,Yn,evP,Vk,↓qd,qb];refine qp (by rfl) (by rfl) zqA QN (by rfl) (by rfl) zqD (Jt _) (by first|rfl|(simp+decide only[ev,putD,VO,VQ,Ka,VX,Qt,JU,Vg,hvs,hrvs,XJ,XM,Xi])) ?_;simp only[VX];simp+decide only[qa,ev,putD,VQ,VP,Ka,setAt,VY,Kj,Js,Nat.reduceAdd];apply hK;clear hK K;refine qL ?_;try simp only[Qe,Qp]
   refine QD (?_) ?_
   ·simp+decide only[QG,qy,qj,VQ,Ka,and_true,qy,qj,qh Xw QN,qZ,qf,VZ,Kn,Js,Nat.reduceAdd,qi,allLive,JU,qf,VZ,Kn,Js,Nat.reduceAdd,qi,allLive,JU]
   simp+decide only[VQ,Ka,XA,qy,qj,qh Xw QN,qZ,qf,VZ,Kn,Js,Nat.reduceAdd,qi,allLive,JU,qf,VZ,Kn,Js,Nat.reduceAdd,qi,allLive,JU];obtain⟨e1,e2⟩:=heB.buf of_X o1;have hob:bufOk B 5 tb2:=o1.sub of_B;refine⟨_,Vm _,tb2,st,QH 5 tb2,okF,hob,⟨by omega,c,es,nb,e2,g3,V5 (by rw[e1];exact(Ev of_X).trans o3) (by rw[e1];exact qrc zB0 of_0 o1)⟩,rfl, .inr ⟨rfl,out++bl,hXo,?_,by rw[Jc];omega,g7,g8⟩⟩;exact BH (hob.sub (qeZ _)) (by decide) (by rw[o2,Bd,Eu]) Xn (Vm _)
  ·try simp only[VU]at hb2
   obtain⟨m2,m3,rfl,m5,m6,hrp⟩:ci<l.length/\sm.ok=true/\t=sm.name/\j=sm.at_/\bl=ZT l i ci/\IsReps wz E rv sm.reps:=by
    rcases hcase with⟨z,-⟩|⟨-,z⟩
    ·rw[z]at hb2;cases hb2
    ·exact z
   have hm0:=hstm m2;rw[if_neg (by omega),if_neg (by rw[m3];decide)]at hstp;obtain⟨Bc,hBc⟩:∃Bc,Bc=qbb h6 kx km nb:=⟨_,rfl⟩
   have heBc:ExOk Bc kx km nb st.names:=by rw[hBc];exact qAm heB
   have hsBc:Sub (Ym Bc kx km mv c es nb st.copies) h6:=by rw[hBc];exact qyP heB (of_X.trans sub6)
   have bc_B:Sub B Bc:=by rw[hBc];exact qlI heB (fun j d hj=>qft heB hj) hs_h6
   have bc_E:Sub E Bc:=by rw[hBc];exact qlI heB (fun j d hj=>qft (heB.newE hE3 hEB1) hj) (of_E.trans sub6)
   have bc_0:Bc k0q1=some ⟨[.int .i64 0, .int .i64 0, .int .i64 0],0⟩:=by
    obtain⟨a1,a2,a3⟩:=qft g2i gb_0;rw[hBc];exact qgu eb_0q1 a1 a2 a3
   have bc_1:Bc k1q2=some ⟨[v, .int .i64 j],0⟩:=by
    obtain⟨a1,a2,a3⟩:=qft g2i gb_1;rw[hBc];exact qgu eb_1q2 a1 a2 a3
   have bc_6:Bc k3q6=some ⟨[.int .u8 sm.name.kind.toNat, .str sm.name.text, .int .i64 sm.name.line, .int .i64 sm.name.col, .bool sm.name.left,rv],0⟩:=by
    obtain⟨a1,a2,a3⟩:=qfs heB hEB3 hn_3q6;rw[hBc];exact qgu eb_3q6 a1 a2 a3
   have bc_7:Bc k3q7=some ⟨[.int .i64 f.e, .int .i64 f.line, .int .i64 f.col],0⟩:=by
    obtain⟨a1,a2,a3⟩:=qfs heB hEB3 hn_3q7;rw[hBc];exact qgu eb_3q7 a1 a2 a3
   have bc_tb:hasB Bc tb2:=fun b e=>by
    subst e;obtain⟨a1,a2,a3⟩:=qfs heB of_X o1.1;rw[hBc];exact qgu (o3 _ _ (Ve _ _ _)) a1 a2 a3
   have nb2_x:UW kx tb2:=Uc o1 of_x;have nb2_m:UW km tb2:=Uc o1 of_m;have nb2_0:UW k0q1 tb2:=Uc o1 of_0;have nb2_1:UW k1q2 tb2:=Uc o1 of_1;have nb2_6:UW k3q6 tb2:=Uc o1 of_6;have nb2_7:UW k3q7 tb2:=Uc o1 of_7;refine qP ?_;change Awp _ _ _ _ _ _ _;refine awp_rseq [0,5,6,7,9,11,12] (by rfl) fun K hK=>?_;simp+decide only[ev,putD,VO,VQ,Ka,Kb,↓qg,qc,↓qF,qY,qh qeF qaP,QB wz eb_3q6,qf,VZ,Kn,Js,Nat.reduceAdd,qD,qi,qE,allLive,JU,hrvl];refine QU (by rfl) (by rfl) (qyD wz h6 Bc kx km mv mems op st sm rv rec ⟨by omega,c,es,nb,heBc,g3,hsBc⟩ (hms.mono bc_B) hml hmt (hrp.mono bc_E) (fun x hx=>by have:=hrps.1 x hx;omega) (by have:=hrps.2;omega) hm0.2.2.2 g7 g8 hop8 (fun h8=>hrec h8 sm.name.text)) fun x9q2 h9q2 hx9q2=>?_;obtain⟨tb0,st2,bv2,bf,htb0,hxr,rfl,hcase2⟩:=hx9q2;obtain⟨B2,hB2⟩:∃B2,B2=Ql Bc tb0:=⟨_,rfl⟩
   rw[<-hB2]at hxr;obtain⟨hfew2,c2,es2,nb2,he2,hop2,hs2⟩:=hxr;have hsB2:Sub Bc B2:=by rw[hB2];exact BJ htb0
   have bB2:Sub B B2:=bc_B.trans hsB2;have hs2h:Sub B2 h9q2:=he2.above.trans hs2;have hs_h9q2:Sub B h9q2:=bB2.trans hs2h;have eb_x:h9q2 kx=some ⟨[mv, .map km,QH 1 nb2, .int .i64 st2.copies],0⟩:=hs2 _ _ he2.x;have eb_m:h9q2 km=some (Zb c2 (es2.map opC)):=hs2 _ _ he2.m;have eb_0q1:=hs2h _ _ (hsB2 _ _ bc_0);have eb_1q2:=hs2h _ _ (hsB2 _ _ bc_1);have eb_3q6:=hs2h _ _ (hsB2 _ _ bc_6);have eb_3q7:=hs2h _ _ (hsB2 _ _ bc_7);have heB2:ExOk B kx km nb2 st2.names:=he2.down bB2;have hEB9:Sub (Ym B kx km mv c2 es2 nb2 st2.copies) h9q2:=(qdI bB2).trans hs2;have y0:Ym B kx km mv c2 es2 nb2 st2.copies k0q1=none:=he2.off (hsB2 _ _ bc_0) hf_0q1;have y7:Ym B kx km mv c2 es2 nb2 st2.copies k3q7=none:=he2.off (hsB2 _ _ bc_7) hf_3q7;have has9:hasB h9q2 tb2:=bc_tb.mono (hsB2.trans hs2h);have hbv2l:bv2.live=true:=by
    rcases hcase2 with⟨-,-,w3⟩|⟨-,inn,-,w3,-⟩
    ·rw[w3];rfl
    ·exact w3.live
   simp+decide only[ev,putD,VO,VQ,Ka,Kb,↓qg,qc,↓QY,QL,QV,KY,J9,VZ,Kn,↓qd,qb,VZ,Kn,Js,Nat.reduceAdd,QC];refine qp (by rfl) (by rfl) zqA QN (by rfl) (by rfl) zqD (Jt _) (by first|rfl|(simp+decide only[ev,putD,VO,VQ,Ka,VX,Qt,JU,Vg,hvs,hrvs,XJ,XM,Xi])) ?_;simp only[VX];simp+decide only[qa,ev,putD,VQ,VP,Ka,setAt,VY,Kj,Js,Nat.reduceAdd];apply hK;clear hK K;refine qJ ?_;refine awp_rseq [0,5,6,7,9,11,12,40] (by rfl) fun K hK=>?_;simp+decide only[qa,ev,qH,qG,putD,VO,VQ,VP,Ka,Kb,↓qF,qY,qh Xw QN,↓Qu,↓Qa,Yn,evP,Vk,↓qw,qm,qR,cond_false,YO,qpr,QT,qf,VZ,Kn,Js,Nat.reduceAdd,qi,allLive,JU,UG];apply hK;clear hK K;refine qI (b:=_) rfl (fun hb3=>?_) (fun hb3=>?_)
   ·try simp only[decide_eq_false_iff_not,Jj]at hb3
    obtain⟨w1,w2,w3⟩:bf≠okF/\WT true mems op rec sm st= .bad bf/\bv2= .nilSlice:=by
     rcases hcase2 with z|⟨z,-⟩
     ·exact z
     ·exact absurd z hb3
    rw[w2]at hstp;simp only at hstp;refine Zk 2 [4,5] mixed (by kernel_rfl) (by rfl) (by rfl) fun K hK=>?_;simp+decide only[ev,qH,qG,putD,VO,VQ,Ka,Kb,↓qF,qY,qh Xw QN,↓qd,qb,QT,qf,VZ,Kn,Js,Nat.reduceAdd,qi,allLive,JU];refine qp (by rfl) (by rfl) zqA QN (by rfl) (by rfl) zqD (Jt _) (by first|rfl|(simp+decide only[ev,putD,VO,VQ,Ka,VX,Qt,JU,Vg,hvs,hrvs,XJ,XM,Xi])) ?_;simp only[VX];simp+decide only[qa,ev,putD,VQ,VP,Ka,setAt,VY,Kj,Js,Nat.reduceAdd];apply hK;clear hK K;refine qL ?_;try simp only[Qe,Qp]
    refine QD (?_) ?_
    ·simp+decide only[QG,qy,qj,VQ,Ka,and_true,qy,qj,qh Xw QN,qZ,qf,VZ,Kn,Js,Nat.reduceAdd,qi,allLive,JU,qf,VZ,Kn,Js,Nat.reduceAdd,qi,allLive,JU]
    simp+decide only[VQ,Ka,XA,qy,qj,qh Xw QN,qZ,qf,VZ,Kn,Js,Nat.reduceAdd,qi,allLive,JU,qf,VZ,Kn,Js,Nat.reduceAdd,qi,allLive,JU];exact⟨_,Vm _,none,st2, .nilSlice,bf,trivial,⟨hfew2,c2,es2,nb2,heB2,hop2,V5 (V5 hEB9 y7) y0⟩,rfl, .inl ⟨w1,hstp,rfl⟩⟩
   ·try simp only[decide_eq_true_eq,VU]at hb3
    obtain⟨w1,inn,w2,w3,w4,w5,w6⟩:bf=okF/\∃inn,WT true mems op rec sm st= .ok inn st2/\IsL wz (Ql (fun _=>none) tb0) 5 bv2 (inn.map QI)/\inn.length<=200000/\st2.names.length<=st2.copies/\st2.copies<=4096:=by
     rcases hcase2 with⟨z,-⟩|z
     ·exact absurd (by simpa using hb3) z
     ·exact z
    rw[w2]at hstp;simp only at hstp;refine qP ?_;change Awp _ _ _ _ _ _ _;obtain⟨C12,hC12⟩:∃C12,C12=h9q2.set k3q7 ⟨[.int .i64 bf.e, .int .i64 bf.line, .int .i64 bf.col],0⟩:=⟨_,rfl⟩
    refine BI (h':=C12) (by rw[hC12];exact Vm _) ?_;have hs_C12:Sub B C12:=by rw[hC12];exact zqB
    have eb_x:C12 kx=some ⟨[mv, .map km,QH 1 nb2, .int .i64 st2.copies],0⟩:=by rw[hC12];exact zqA
    have eb_m:C12 km=some (Zb c2 (es2.map opC)):=by rw[hC12];exact zqA
    have eb_0q1:C12 k0q1=some ⟨[.int .i64 0, .int .i64 0, .int .i64 0],0⟩:=by rw[hC12];exact zqA
    have eb_1q2:C12 k1q2=some ⟨[v, .int .i64 j],0⟩:=by rw[hC12];exact zqA
    have eb_3q6:C12 k3q6=some ⟨[.int .u8 sm.name.kind.toNat, .str sm.name.text, .int .i64 sm.name.line, .int .i64 sm.name.col, .bool sm.name.left,rv],0⟩:=by rw[hC12];exact(Vd _ _ ne_3q7_3q6.symm).trans eb_3q6
    have has12:hasB C12 tb2:=by rw[hC12];exact has9.set nb2_7 _
    obtain⟨p1,p2⟩:=qpo o1 has12;have pf_x:=qal eb_x nb2_x;have pf_m:=qal eb_m nb2_m;have pf_0:=qal eb_0q1 nb2_0;have pf_1:=qal eb_1q2 nb2_1;have pf_6:=qal eb_3q6 nb2_6;have w3':IsL wz C12 5 bv2 (inn.map QI):=w3.mono (fun j d hj=>by
     cases tb0 with
     |none=>cases hj
     |some b=>
      have hjb:j=b.blk:=by
       rcases Nat.decEq j b.blk with e|e
       ·rw[show Ql (fun _=>none) (some b)=Bf (fun _=>none) b.blk ⟨b.cells,0⟩from rfl,Vd _ _ e]at hj
        cases hj
       ·exact e
      have h7:j≠k3q7:=fun e=>by
       have:=htb0.1;rw[<-hjb,e,bc_7]at this;cases this
      rw[hC12,Vd _ _ h7];refine hs2h _ _ ?_;rw[hB2];exact Ev (qeZ _) _ _ hj)
    refine awp_rseq [0,5,6,7,9] (by rfl) fun K hK=>?_;simp+decide only[ev,putD,VO,VQ,Ka,Kb,↓qg,qc];refine Xt (es:=5) (zs:=(out++bl).map QI) (xs:=inn.map QI) (hZ:=qbS C12 tb2) (b:=tb2) (by rfl) (by rfl) Tryz.underlying26 Tryz.underlying26 (fun k e=>by cases e) Xb qha qat (by rfl) (by decide) (by rfl) p1 (by rw[o2,Bd]) Xn p2 (by rfl) w3' (by rw[YT];intro z hz;obtain⟨t,_,rfl⟩:=JH.1 hz;rfl) (by simp;omega) (by simp;omega) fun tb3 h12 o4 o5 o6=>?_;have sub12:Sub (qbS C12 tb2) h12:=(BJ o4).trans o6;have hs_h12:Sub B h12:=(qdC hs_C12 (o1.sub of_B)).trans sub12;have eb_x:=sub12 _ _ pf_x;have eb_m:=sub12 _ _ pf_m;have eb_0q1:=sub12 _ _ pf_0;have eb_1q2:=sub12 _ _ pf_1;have eb_3q6:=sub12 _ _ pf_6;have hbl:=QP 5 tb3;have nbl3:=Zc (l:=out++bl++inn) (BH (wz:=wz) o4 (by decide) (by rw[o5,Bd (l₁:=out++bl)]) Xn (Vm _));simp+decide only[qa,ev,putD,VO,VQ,VP,Ka,Kb,↓qd,qb];apply hK;clear hK K;refine awp_rseq [0,5,6,7,9,47] (by rfl) fun K hK=>?_;simp+decide only[qa,ev,qH,qG,putD,VO,VQ,VP,Ka,Kb,↓qg,qc,↓Xe,Qw,↓qw,qm,qA,cond_false,qo,qau,nbl3];apply hK;clear hK K;refine qI (b:=_) rfl (fun hb4=>?_) (fun hb4=>?_)
    ·try simp only[decide_eq_true_eq]at hb4
     rw[<-m6,if_pos (by unfold WR;rw[Vg,decide_eq_true_eq];omega)]at hstp;refine Zk 5 [4,5] mixed (by kernel_rfl) (by rfl) (by rfl) fun K hK=>?_;simp+decide only[ev,qH,qG,putD,VO,VQ,Ka,Kb,↓qB,ql,qsb,qdm,↓qF,qY,qh qeG qbd,↓Qu,↓Qa,Wi,evP,Ke,Vk,↓qd,qb,QB wz eb_3q6,qf,VZ,Kn,Js,Nat.reduceAdd,qi,allLive,JU];refine qp (by rfl) (by rfl) zqA QN (by rfl) (by rfl) zqD (Jt _) (by first|rfl|(simp+decide only[ev,putD,VO,VQ,Ka,VX,Qt,JU,Vg,hvs,hrvs,XJ,XM,Xi])) ?_;simp only[VX];simp+decide only[qa,ev,putD,VQ,VP,Ka,setAt,VY,Kj,Js,Nat.reduceAdd];apply hK;clear hK K;refine qL ?_;try simp only[Qe,Qp]
     refine QD (?_) ?_
     ·simp+decide only[QG,qy,qj,VQ,Ka,and_true,qy,qj,qh Xw QN,qZ,qf,VZ,Kn,Js,Nat.reduceAdd,qi,allLive,JU,qf,VZ,Kn,Js,Nat.reduceAdd,qi,allLive,JU]
     simp+decide only[VQ,Ka,XA,qy,qj,qh Xw QN,qZ,qf,VZ,Kn,Js,Nat.reduceAdd,qi,allLive,JU,qf,VZ,Kn,Js,Nat.reduceAdd,qi,allLive,JU];have hEB12:Sub (Ym B kx km mv c2 es2 nb2 st2.copies) (qbS C12 tb2):=qdC (by rw[hC12];exact V5 hEB9 y7) (qlC o1 fun b e=>he2.off (hsB2 _ _ (bc_tb b e)) (by subst e;exact of_B.none o1.1));exact⟨_,Vm _,none,st2, .nilSlice,⟨3,sm.name.line,sm.name.col⟩,trivial,⟨hfew2,c2,es2,nb2,heB2,hop2,V5 (hEB12.trans sub12) y0⟩,rfl, .inl ⟨fun e=>absurd (congrArg FaultC.e e) (by simp[okF]),hstp,rfl⟩⟩
    ·try simp only[decide_eq_false_iff_not]at hb4
     rw[<-m6,if_neg (by unfold WR;rw[Vg,decide_eq_true_eq];omega),<-m5]at hstp;refine qP ?_;try simp only[Qj,Yc]
     have hG2:Sub ((B.set k0q1 ⟨[.int .i64 0, .int .i64 0, .int .i64 0],0⟩).set k1q2 ⟨[v, .int .i64 j],0⟩) B2:=qkt (qkt bB2 (hsB2 _ _ bc_0)) (hsB2 _ _ bc_1);have hGC:Sub (Ym ((B.set k0q1 ⟨[.int .i64 0, .int .i64 0, .int .i64 0],0⟩).set k1q2 ⟨[v, .int .i64 j],0⟩) kx km mv c2 es2 nb2 st2.copies) (qbS C12 tb2):=by
      refine qdC (by rw[hC12];exact V5 ((qdI hG2).trans hs2) (he2.off (hsB2 _ _ bc_7) ((Vd _ _ ne_3q7_1q2).trans ((Vd _ _ ne_3q7_0q1).trans hf_3q7)))) (qlC o1 fun b e=>he2.off (hsB2 _ _ (bc_tb b e)) ?_);subst e;exact(Vd _ _ (Ne.symm nb2_1)).trans ((Vd _ _ (Ne.symm nb2_0)).trans (of_B.none o1.1))
     exact⟨⟨j,c2,es2,nb2,st2,tb3,out++bl++inn⟩,rfl,(Ev hGC).trans o6,⟨hj,fun Y=>(he2.down hG2).same (qiB _ _),hop2,fun Y=>qlB (o4.sub hGC) (quI (qiB _ _)),by rw[o5,Bd (l₁:=out++bl)],by simp only;omega,w5,w6,hstp.symm⟩,by simp only;omega⟩
theorem qyE(wz:World)(kx km:Nat)(mv:AVal)(mems:List MemC)(hml:mems.length<=1000000)(hmt:∀m∈mems,m.toks.length<=100000):∀(d:Nat) (op:List Str),8<=d+op.length->qyV wz kx km mv mems op (qbI true mems d)
 |0,op,hd=>fun h8 h B v l st hx hms hv hl h1 h2=>qtD wz h B kx km mv mems op st v l (fun _ _ st=> .ok [] st) hx hms hml hmt hv hl h1 h2 h8 (fun hlt=>by omega)
 |d+1,op,hd=>fun h8 h B v l st hx hms hv hl h1 h2=>qtD wz h B kx km mv mems op st v l (qbI true mems d) hx hms hml hmt hv hl h1 h2 h8 (fun hlt nm=>qyE wz kx km mv mems hml hmt d (op++[nm]) (by rw[Jc,JS];omega))
theorem qwn{wz:World}{h:AHeap}{es:Nat}{v:AVal}{xs:List (List AVal)}(hes:0<es)(hb:IsL wz h es v xs):(Yp v).okIn (fun k=>(h k).isSome):=by
 cases hb with
 |nil=>simp only[Yp,Be]
 |mk l o n c xs hn hw hc hl hcap=>
  cases l with
  |base b=>simp only[Yp,Be]
  |own k=>
   simp only[Yp,Be];intro h0;cases hk:h k with
   |some b=>rfl
   |none=>
    obtain⟨m,rfl⟩:∃m,n=m+1:=⟨n-1,by omega⟩
    obtain⟨e,rfl⟩:∃e,es=e+1:=⟨es-1,by omega⟩
    rw[show(m+1)*(e+1)=(m*(e+1)+e)+1 by rw[Nat.succ_mul];omega,qf]at hc;rw[<-hc]at hl;simp[allLive,rd,hk,AVal.live]at hl
theorem qhr{H:AHeap}{tb:Option Buf}(hh:hasB H tb):Sub (Ql (fun _=>none) tb) H:=fun j d hj=>by
 cases tb with
 |none=>cases hj
 |some b=>
  rcases Nat.decEq j b.blk with e|e
  ·rw[show Ql (fun _=>none) (some b)=Bf (fun _=>none) b.blk ⟨b.cells,0⟩from rfl,Vd _ _ e]at hj
   cases hj
  ·subst e
   rw[show Ql (fun _=>none) (some b)=Bf (fun _=>none) b.blk ⟨b.cells,0⟩from rfl,Ve]at hj;rw[<-hj];exact hh b rfl
theorem qes{wz:World}{h:AHeap}{v:AVal}{l:List Str}(hv:IsL wz h 1 v (l.map Ut)):∀H:AHeap,YN Tryz.prog H 30 v=⟨True, .int .i64 l.length⟩:=by
 have:=hv.len Tryz.underlying30
 rwa [Jp]at this
theorem qAe(wz:World)(h:AHeap)(v:AVal)(l:List Str)(hv:IsL wz h 1 v (l.map Ut)):ACall Tryz.prog wz 34 [v] h (fun r h'=>r=Yp v/\h'=h):=by
 have hlen:=qes hv;have h3:=hv.slice3 Tryz.underlying30 sz9 .i64 .i64 none rfl;rw[Jp]at h3;have hlv:=hv.live;refine qU (n:=9) (rs:=[.tmp 2]) Tryz.func34 rfl rfl rfl rfl (VN rfl) ?_;simp only[Qg];refine awp_rseq [0] (by rfl) fun K hK=>?_;simp+decide only[qa,ev,qH,qG,putD,VO,VP,Ka,Kb,↓qd,qb];apply hK;clear hK K;refine awp_rseq [2] (by rfl) fun K hK=>?_;simp+decide only[qa,ev,putD,VO,VQ,VP,Ka,Kb,↓qg,qc,↓Xe,Qw,↓Wp,ZG,evO,↓qd,qb,hlen,h3];apply hK;clear hK K;refine qL ?_;refine Qb _ (Vm _) (qN (Qc)) ?_;simp+decide only[VQ,if_true,and_true,Qs];all_goals first|rfl|exact⟨rfl,rfl⟩|(simp+decide only[Ka, *];done)|(trace_state;fail)
def qtJ(wz:World)(h:AHeap)(x:Xr)(r:AVal)(h':AHeap):Prop:=
 ∃(ov nv:AVal) (f:FaultC),r= .tuple [ov,nv,QC f]/\Sub h h'/\Yp ov=ov/\Yp nv=nv/\((f≠okF/\x= .bad f/\ov= .nilSlice/\nv= .nilSlice)\/(f=okF/\∃out st,x= .ok out st/\IsL wz h' 5 ov (out.map QI)/\IsL wz h' 1 nv (st.names.map Ut)/\out.length<=200000/\st.names.length<=4096))
set_option maxHeartbeats 2000000 in
theorem qis(wz:World)(h:AHeap)(lv mv:AVal)(l:List TokC)(mems:List MemC)(hlv:IsL wz h 5 lv (l.map QI))(hms:IsMems wz h mv mems)(hl:l.length<=100000)(hml:mems.length<=1000000)(hmt:∀m∈mems,m.toks.length<=100000):
 ACall Tryz.prog wz 13 [lv,mv] h (qtJ wz h (qaC true l mems)):=by
 have hll:=hlv.live;obtain⟨qs,hqs,hq2,hq3⟩:=hms;have hmvs:=hq2.scal;have hmvl:=Yu hmvs;have hSm:Sc mv=True:=eq_true (qwH hq2);have hSk:∀k,Sc (.map k)=True:=fun k=>eq_true trivial;have hbvl:(AVal.bool true).live=true:=rfl;have hbnl:(AVal.bool true).live=true:=rfl;have hccl:∀v:AVal,v.live=true->(Yp v).live=true:=fun v hv=>by cases v<;>exact hv
 have hc1:(AVal.bool true).live=true:=rfl;have hc2:(AVal.bool true).live=true:=rfl;obtain⟨X,hX⟩:∃X,X=qaC true l mems:=⟨_,rfl⟩
 rw[<-hX];refine qU (n:=28) (rs:=[.tmp 4, .tmp 5, .cell 6 35]) Tryz.func13 rfl rfl rfl rfl (VN rfl) ?_;simp only[Qg];refine awp_rseq [0,1,6] (by rfl) fun K hK=>?_;simp+decide only[ev,qH,qG,putD,VO,if_false,Kb,↓qd,qb,Js];refine Qi qaE (cs:=[.int .i64 0, .int .i64 0, .int .i64 0]) (by rfl) fun k0q2 hk0q2=>?_;try have hf_0q2:h k0q2=none:=by first|assumption|(simp only[V9]at hk0q2;simp only[hk0q2])
 simp+decide only[qa,putD,VO,VP,Ka];apply hK;clear hK K;refine awp_rseq [0,6,7] (by rfl) fun K hK=>?_;simp+decide only[ev,putD,VO,VQ,Ka,Kb,↓qg,qc];refine qoF fun k1q1 hk1q1=>?_;have ne_1q1_0q2:k1q1≠k0q2:=by simp only[V9]at hk1q1;simp only[hk1q1,ne_eq,not_false_eq_true]
 try have hf_1q1:h k1q1=none:=by first|assumption|(simp only[V9]at hk1q1;simp only[hk1q1])
 simp+decide only[ev,qH,qG,putD,VO,VQ,Ka,Kb,↓Qu,↓Qa,qvl,evP,Ke,Vk,hSm,hSk];refine Qi qCT (cs:=[.nilSlice, .nilMap, .nilSlice, .int .i64 0]) (by rfl) fun k1q3 hk1q3=>?_;have ne_1q3_0q2:k1q3≠k0q2:=by simp only[V9]at hk1q3;simp only[hk1q3,ne_eq,not_false_eq_true]
 have ne_1q3_1q1:k1q3≠k1q1:=by simp only[V9]at hk1q3;simp only[hk1q3,ne_eq,not_false_eq_true]
 try have hf_1q3:h k1q3=none:=by first|assumption|(simp only[V9]at hk1q3;simp only[hk1q3])
 refine qp (by rfl) (by rfl) zqA qCW (by rfl) (by rfl) zqD (Jt _) (by first|rfl|(simp+decide only[ev,putD,VO,VQ,Ka,VX,Qt,JU,Vg,hmvs,XJ,qnC])) ?_;simp only[Vi,VX];simp+decide only[qa,ev,putD,VO,VQ,VP,Ka,setAt,VY,Kj,Js,Nat.reduceAdd];apply hK;clear hK K;obtain⟨B,hB⟩:∃B,B=h.set k0q2 ⟨[.int .i64 0, .int .i64 0, .int .i64 0],0⟩:=⟨_,rfl⟩
 have hs_hB:Sub h B:=by rw[hB];exact Vh hf_0q2
 have b_m:B k1q1=none:=by rw[hB];exact(Vd _ _ ne_1q1_0q2).trans hf_1q1
 have b_x:B k1q3=none:=by rw[hB];exact(Vd _ _ ne_1q3_0q2).trans hf_1q3
 have b_0:B k0q2=some ⟨[.int .i64 0, .int .i64 0, .int .i64 0],0⟩:=by rw[hB];exact Ve _ _ _
 have heB:ExOk B k1q3 k1q1 none []:=⟨b_m,b_x,ne_1q3_1q1.symm,fun M=>⟨(Vd _ _ ne_1q3_1q1).trans b_x,fun _=>trivial,rfl⟩⟩
 rw[<-hB];have hlist:=qyE wz k1q3 k1q1 mv mems hml hmt 8 [] (by simp) (by simp);refine awp_rseq [6,7,8,9] (by rfl) fun K hK=>?_;simp+decide only[ev,putD,VO,VQ,Ka,Kb,↓qg,qc];refine QU (by rfl) (by rfl) (hlist _ B lv l ⟨[],0⟩ ⟨Jt _,0,[],none,heB,rfl,Vm _⟩ ⟨qs,hqs,hq2.mono hs_hB,fun q hq=>(hq3 q hq).mono hs_hB⟩ (hlv.mono hs_hB) hl (KL _) (by decide)) fun x2q1 h2q1 hx2q1=>?_;obtain⟨tb,st,bv,bf,htb,⟨hfew,c2,es2,nb,he2,hop2,hs2⟩,rfl,hcase⟩:=hx2q1;rw[show qbI true mems 8 l [] ⟨[],0⟩=X from hX.symm]at hcase;have hs2h:Sub (Ql B tb) h2q1:=he2.above.trans hs2;have hs_h2q1:Sub h h2q1:=(hs_hB.trans (BJ htb)).trans hs2h;have eb_1q3:h2q1 k1q3=some ⟨[mv, .map k1q1,QH 1 nb, .int .i64 st.copies],0⟩:=hs2 _ _ he2.x;have eb_0q2:h2q1 k0q2=some ⟨[.int .i64 0, .int .i64 0, .int .i64 0],0⟩:=hs2h _ _ (ZY htb b_0);have hbvl:bv.live=true:=by
  rcases hcase with⟨-,-,w3⟩|⟨-,inn,-,w3,-⟩
  ·rw[w3];rfl
  ·exact w3.live
 have hbnl:=QP 1 nb;have hc1:=hccl bv hbvl;have hc2:=hccl _ hbnl;simp+decide only[ev,putD,VO,VQ,Ka,Kb,↓qg,qc,↓QY,QL,QV,KY,J9,VZ,Kn,VZ,Kn,Js,Nat.reduceAdd,QC];refine Qi qaE (cs:=[.int .i64 0, .int .i64 0, .int .i64 0]) (by rfl) fun k2q5 hk2q5=>?_;have hn_2q5:h2q1 k2q5=none:=by first|assumption|(simp only[V9]at hk2q5;simp only[hk2q5])
 have hf_2q5:h k2q5=none:=Bi hs_h2q1 hn_2q5;have ne_2q5_1q3:k2q5≠k1q3:=Bj hn_2q5 eb_1q3;have ne_2q5_0q2:k2q5≠k0q2:=Bj hn_2q5 eb_0q2;simp+decide only[ev,putD,VO,VQ,Ka,Kb,↓qd,qb];refine qp (by rfl) (by rfl) zqA QN (by rfl) (by rfl) zqD (Jt _) (by first|rfl|(simp+decide only[ev,putD,VO,VQ,Ka,VX,Qt,JU,Vg,hmvs,XJ,XM,Xi,qnC])) ?_;simp only[Vi,VX];simp+decide only[qa,ev,putD,VQ,VP,Ka,setAt,VY,Kj,Js,Nat.reduceAdd];apply hK;clear hK K;refine qJ ?_;refine awp_rseq [6,7,8,9,20] (by rfl) fun K hK=>?_;simp+decide only[qa,ev,qH,qG,putD,VO,VQ,VP,Ka,Kb,↓qF,qY,qh Xw QN,↓Qu,↓Qa,Yn,evP,Vk,↓qw,qm,qR,cond_false,YO,qpr,QT,qf,VZ,Kn,Js,Nat.reduceAdd,qi,allLive,JU,UG];apply hK;clear hK K;refine qI (b:=_) rfl (fun hb1=>?_) (fun hb1=>?_)
 ·try simp only[decide_eq_false_iff_not,Jj]at hb1
  have hXb:X= .bad bf:=by
   rcases hcase with⟨-,z,-⟩|⟨z,-⟩
   ·exact z
   ·exact absurd z hb1
  refine Zk 3 [4,5,6] mixed (by kernel_rfl) (by rfl) (by rfl) fun K hK=>?_;simp+decide only[ev,qH,qG,putD,VO,VQ,Ka,Kb,↓qF,qY,qh Xw QN,↓qd,qb,QT,qf,VZ,Kn,Js,Nat.reduceAdd,qi,allLive,JU];refine qp (by rfl) (by rfl) zqA QN (by rfl) (by rfl) zqD (Jt _) (by first|rfl|(simp+decide only[ev,putD,VO,VQ,Ka,VX,Qt,JU,Vg,hmvs,XJ,XM,Xi,qnC])) ?_;simp only[VX];simp+decide only[qa,ev,putD,VQ,VP,Ka,setAt,VY,Kj,Js,Nat.reduceAdd];apply hK;clear hK K;refine qL ?_;try simp only[Qe]
  refine QD (?_) ?_
  ·simp+decide only[QG,qy,qj,VQ,Ka,and_true,qy,qj,qh Xw QN,qZ,qf,VZ,Kn,Js,Nat.reduceAdd,qi,allLive,JU,qf,VZ,Kn,Js,Nat.reduceAdd,qi,allLive,JU]
  simp+decide only[VQ,Ka,QJ,qy,qj,qh Xw QN,qZ,qf,VZ,Kn,Js,Nat.reduceAdd,qi,allLive,JU,qf,VZ,Kn,Js,Nat.reduceAdd,qi,allLive,JU];exact⟨_,Vm _, .nilSlice, .nilSlice,bf,rfl,zqB,rfl,rfl, .inl ⟨hb1,hXb,rfl,rfl⟩⟩
 ·try simp only[decide_eq_true_eq,VU]at hb1
  obtain⟨hf0,inn,w2,w3,w4,w5,w6⟩:bf=okF/\∃inn,X= .ok inn st/\IsL wz (Ql (fun _=>none) tb) 5 bv (inn.map QI)/\inn.length<=200000/\st.names.length<=st.copies/\st.copies<=4096:=by
   rcases hcase with⟨z,-⟩|z
   ·exact absurd (by simpa using hb1) z
   ·exact z
  have hasT:hasB h2q1 tb:=(qfy B tb).mono hs2h;have hasN:hasB h2q1 nb:=(qfy _ nb).mono hs2;have nT:UW k0q2 tb:=Uc htb b_0;have nN:UW k0q2 nb:=(qft he2 (ZY htb b_0)).2.2;have hun:=he2.use ⟨[],0⟩;have w7:IsL wz (Ql (fun _=>none) nb) 1 (QH 1 nb) (st.names.map Ut):=BH ((hun.ok ⟨[],0⟩).sub (qeZ _)) (by decide) hun.eq qam (Vm _);have w3h:=w3.mono (qhr hasT);have w7h:=w7.mono (qhr hasN);refine qP ?_;change Awp _ _ _ _ _ _ _;obtain⟨C5,hC5⟩:∃C5,C5=h2q1.set k2q5 ⟨[.int .i64 bf.e, .int .i64 bf.line, .int .i64 bf.col],0⟩:=⟨_,rfl⟩
  refine BI (h':=C5) (by rw[hC5];exact Vm _) ?_;have hs_C5:Sub h C5:=by rw[hC5];exact zqB
  have eb_1q3:C5 k1q3=some ⟨[mv, .map k1q1,QH 1 nb, .int .i64 st.copies],0⟩:=by rw[hC5];exact zqA
  have eb_0q2:C5 k0q2=some ⟨[.int .i64 0, .int .i64 0, .int .i64 0],0⟩:=by rw[hC5];exact zqA
  have hs25:Sub h2q1 C5:=by rw[hC5];exact Vh hn_2q5
  have hok1:(Yp bv).okIn (fun k=>(C5 k).isSome):=qwn (by decide) (w3h.mono hs25);have hok2:(Yp (QH 1 nb)).okIn (fun k=>(C5 k).isSome):=qwn (by decide) (w7h.mono hs25);refine Wo 8 [] [4,5,6] mixed (by kernel_rfl) (by rfl) fun K hK=>?_;simp only[Ki,V8,VE,KQ];simp+decide only[ev,putD,VO,VQ,Ka,Kb,↓Zd,qc];refine Xu (V:=Yp bv) (by rfl) (by rfl) (by first|trivial|(simp+decide only[Be,XL,and_true,Kb,QC,Wy,Ve,JK];done)|(simp[Be,XL,Bf];done)) (fun g hg=>qop wz _ _ (inn.map QI) (w3h.mono (BL hs25 hg))) ?_;simp+decide only[ev,putD,VO,VQ,Ka,Kb,↓Yd,ql,qoa,↓ZN,XU,qz qBV,QB wz eb_1q3,VZ,Kn,Js,hbnl];refine Xu (V:=Yp (QH 1 nb)) (by rfl) (by rfl) (by first|trivial|(simp+decide only[Be,XL,and_true,Kb,QC,Wy,Ve,JK];done)|(simp[Be,XL,Bf];done)) (fun g hg=>qAe wz _ _ st.names (w7h.mono (BL hs25 hg))) ?_;simp+decide only[YK,ev,qH,qG,putD,VO,VQ,Ka,Kb,↓qac,↓Qa,Yn,evP,Vk,↓qbs,qb];refine qp (by rfl) (by rfl) zqA QN (by rfl) (by rfl) zqD (Jt _) (by first|rfl|(simp+decide only[ev,putD,VO,VQ,Ka,VX,Qt,JU,Vg,hmvs,XJ,XM,Xi,qnC])) ?_;simp only[VX];simp+decide only[qa,ev,putD,VQ,VP,Ka,setAt,VY,Kj,Js,Nat.reduceAdd];apply hK;clear hK K;refine qL ?_;refine QD (?_) ?_
  ·simp+decide only[QG,qy,qj,VQ,Ka,and_true,qy,qj,qh Xw QN,qZ,qf,VZ,Kn,Js,Nat.reduceAdd,qi,allLive,JU,qf,VZ,Kn,Js,Nat.reduceAdd,qi,allLive,JU]
  simp+decide only[VQ,Ka,QJ,qy,qj,qh Xw QN,qZ,qf,VZ,Kn,Js,Nat.reduceAdd,qi,allLive,JU,qf,VZ,Kn,Js,Nat.reduceAdd,qi,allLive,JU];refine⟨_,Vm _,Yp bv,Yp (QH 1 nb),okF,rfl,zqB,qgW _,qgW _, .inr ⟨rfl,inn,st,w2,?_,?_,w4,by omega⟩⟩
  ·exact(w3.mono (qhr ((hasT.mono hs25).set nT _))).clip
  ·exact(w7.mono (qhr ((hasN.mono hs25).set nN _))).clip
end Go.Proofs.YtlhhaagmakhilaaGreatDoor
namespace Go.Proofs.YtlhhaagmakhilaaGreatDoor
open Go.AM
open Go.Proofs
open Go.Col
open Go.Tok
open Go.RowKit (Below)
set_option maxRecDepth 100000
def qdN:Str->Str
 |[]=>[]
 |b::s=>if b=34 then 34::34::qdN s else b::qdN s
theorem qpJ:∀a b:Str,qdN (a++b)=qdN a++qdN b
 |[],_=>rfl
 |x::a,b=>by
  rw[Kh,qdN,qdN,qpJ a b];split<;>rfl
theorem qiT:∀{a:Str},(34:UInt8)∉a->qdN a=a
 |[],_=>rfl
 |x::a,h=>by
  simp only[KX,not_or]at h;rw[qdN,if_neg (fun e=>h.1 e.symm),qiT h.2]
theorem qpI(s:Str):(qdN s).length<=2*s.length:=by
 induction s with
 |nil=>exact KL _
 |cons b s ih=>
  rw[qdN];split<;>simp only[KY]<;>omega
theorem qtd:∀(n:Nat) (s:Str),s.length<=n->Lib.replaceK [34] [34,34] (Lib.count s [34]) s=qdN s
 |0,s,h=>by
  have:s=[]:=Kg (by omega);subst this;rfl
 |n+1,s,h=>by
  rcases index_one s 34 with⟨h1,h2⟩|⟨i,h1,h2,h3,h4⟩
  ·rw[Lib.count_miss h1,qiT h2]
   rfl
  ·have hc:Lib.count s [34]=Lib.count (s.drop (i+1)) [34]+1:=by
    have:=Lib.count_hit (s:=s) (sub:=[34]) (i:=i) (by decide) h1;rw[this,Nat.add_comm];rfl
   rw[hc,Lib.replaceK_hit _ _ _ _ i h1];have ih:=qtd n (s.drop (i+1)) (by rw[K6];omega);show s.take i++[34,34]++Lib.replaceK [34] [34,34] (Lib.count (s.drop (i+1)) [34]) (s.drop (i+1))=_
   rw[ih];conv=>rhs;rw[h3,qpJ,qiT h4,qdN,if_pos rfl]
   simp
theorem qvK(s:Str):Lib.count s [34]<=s.length:=by
 have:∀(n:Nat) (s:Str),s.length<=n->Lib.count s [34]<=s.length:=by
  intro n;induction n with
  |zero=>
   intro s h;have:s=[]:=Kg (by omega);subst this;exact KL _
  |succ n ih=>
   intro s h;rcases index_one s 34 with⟨h1,h2⟩|⟨i,h1,h2,h3,h4⟩
   ·rw[Lib.count_miss h1];exact Jt _
   ·rw[Lib.count_hit (s:=s) (sub:=[34]) (i:=i) (by decide) h1]
    have:=ih (s.drop (i+[34].length)) (by rw[K6];simp;omega);rw[K6]at this;simp only[KY,J9]at this|-
    omega
 exact this _ s (KL _)
theorem qCE(wz:World)(hm:MaxL wz)(h:AHeap)(s:Str)(hl:s.length<=100000000):ACall Tryz.prog wz 54 [.str s, .str [34], .str [34,34]] h (fun v h'=>v= .str (qdN s)/\h'=h):=by
 obtain⟨m,hm⟩:=hm;have hlt:0<wz.heap.size:=qkf hm;refine qjV (vals:=[.string ⟨⟨s⟩⟩, .string ⟨⟨[34]⟩⟩, .string ⟨⟨[34,34]⟩⟩]) (val:= .string ⟨⟨qdN s⟩⟩) Tryz.func54 rfl rfl (fun fi vs hv=>?_) (fun fi=>rfl) fun w hb=>?_
 ·simp only[VRs,VR]at hv
  obtain⟨v,vs',rfl,rfl,v2,vs2,rfl,rfl,v3,vs3,rfl,rfl,rfl⟩:=hv;rfl
 ·have hw:w.cell? ⟨0,0,none⟩=some (.int .i64 m):=(hb.cell (p:=⟨0,0,none⟩) hlt).trans hm
  have hcn:Lib.countB ⟨⟨s⟩⟩ ⟨⟨[34]⟩⟩<=s.length:=by
   have h1:=qvK s;exact h1
  refine(Tryz.strings_ReplaceAll ⟨⟨s⟩⟩ ⟨⟨[34]⟩⟩ ⟨⟨[34,34]⟩⟩ m w (by show s.length<_;omega) hw (by decide) (by show s.length+_*2<=_;omega)).mono fun e w' ⟨e1,e2⟩=>⟨?_,e2⟩
  rw[e1];show Ending.returned (.string ⟨⟨Lib.replaceAll s [34] [34,34]⟩⟩)=_
  unfold Lib.replaceAll Lib.replace Lib.replaceNum;rw[if_neg (by decide),if_pos (.inl (by decide)),qtd _ _ (KL _)]
def qbe(t:TokC):Str:=if t.kind=3 then 34::qdN t.text++[34]else if t.kind=6 then[46]else if t.kind=7 then[61,61]else t.text
def textE(l:List TokC):Str:=Lib.join (l.map qbe) [32]
theorem qtN(t:TokC):(qbe t).length<=2*t.text.length+2:=by
 have:=qpI t.text;unfold qbe;split
 ·simp;omega
 split
 ·simp
 split
 ·simp
 ·omega
def qhu(s:Str):List AVal:=[.str s]
structure TxtOk(h:AHeap)(l:List TokC)(g:Nat×Option Buf):Prop where
 i:g.1<=l.length
 ok:bufOk h 1 g.2
 eq:Yh g.2=((l.take g.1).map fun t=>qhu (qbe t)).flatten
theorem qmO{sep:Str}{m:Nat}:∀{l:List Str},(∀x∈l,x.length<=m)->(Lib.join l sep).length<=l.length*(m+sep.length)
 |[],_=>by simp[Lib.join]
 |[x],h=>by
  have:=h x (by simp);simp[Lib.join];omega
 |x::y::l,h=>by
  have ih:=qmO (sep:=sep) (l:=y::l) fun z hz=>h z (by simp[hz]);have hx:=h x (by simp);have e:Lib.join (x::y::l) sep=x++sep++Lib.join (y::l) sep:=by
   unfold Lib.join;rw[List.intercalate_cons_cons]
  rw[e];simp only[Jc];have:(x::y::l).length*(m+sep.length)=(y::l).length*(m+sep.length)+(m+sep.length):=by
   rw[KY,Nat.add_mul,Nat.one_mul]
  omega
set_option maxHeartbeats 1000000 in
theorem qBL(wz:World)(hm:MaxL wz)(h:AHeap)(v:AVal)(l:List TokC)(hv:IsL wz h 5 v (l.map QI))(hl:l.length<=65536)(hb:∀t∈l,t.text.length<=100000000):
 ACall Tryz.prog wz 45 [v] h (fun r h'=>r= .str (textE l)/\h'=h):=by
 have hlv:=hv.live;have hlen:=Zc hv;refine qU (n:=42) (rs:=[.tmp 2]) Tryz.func45 rfl rfl rfl rfl (VN rfl) ?_;simp only[Qg];refine awp_rseq [0] (by rfl) fun K hK=>?_;simp+decide only[qa,ev,qH,qG,putD,VO,VP,Ka,Kb,↓qd,qb];apply hK;clear hK K;refine awp_rseq [0,3] (by rfl) fun K hK=>?_;simp+decide only[qa,ev,qH,qG,putD,VO,VP,Ka,Kb,↓qd,qb];apply hK;clear hK K;refine qJ ?_;refine awp_rseq [3,6,7,8] (by rfl) fun K hK=>?_;simp+decide only[qa,ev,qH,qG,putD,VO,VQ,VP,Ka,Kb,↓qg,qc,↓Xe,Qw,hlen];apply hK;clear hK K;refine Qm ?_;refine XC [3,6,7,8] (fun g:Nat×Option Buf=>[(3,QH 1 g.2),(6,v),(7, .int .i64 l.length),(8, .int .i64 g.1)]) (fun g:Nat×Option Buf=>Ql h g.2) (fun g:Nat×Option Buf=>TxtOk h l g) (fun g:Nat×Option Buf=>l.length-g.1) (0,none) (by rfl) (Vm _) ⟨Jt _,trivial,rfl⟩ ?_;rintro⟨i,b⟩ ⟨g1,g2,g3⟩;simp only at g1 g2 g3|-
 have hbs:=BJ g2;refine awp_rseq [3,6,7,8,9] (by rfl) fun K hK=>?_;simp+decide only[qa,ev,putD,VO,VQ,VP,Ka,Kb,↓qw,qm,qR,cond_false,qo,XZ];apply hK;clear hK K;refine qJ (qI (b:=_) rfl (fun hb1=>?_) (fun hb1=>?_))
 ·try simp only[decide_eq_true_eq]at hb1
  have hi:i<l.length:=by omega
  obtain⟨lc,o,c,rfl⟩:=YD hv (by omega);obtain⟨e0,e1,e2,e3,e4⟩:=YP (hv.mono hbs) hi;obtain⟨t,ht⟩:∃t,t=l.getD i Zi:=⟨_,rfl⟩
  have htk:l.take (i+1)=l.take i++[t]:=by rw[VL,JA hi,ht];simp[Ko,hi]
  rw[<-ht]at e0 e1 e2 e3 e4;have htb:=hb t (by rw[ht,Ko,JA hi];exact VJ hi);have hdl:=qpI t.text;refine qP ?_;change Awp _ _ _ _ _ _ _;refine qJ ?_;refine Qm ?_;refine awp_rseq [3,5,6,7,8] (by rfl) fun K hK=>?_;simp+decide only[ev,putD,VO,VQ,Ka,Kb,↓QE,qY,qW Tryz.underlying26 Xb,↓qF,qh ZB Xb,qf,qD,qi,qE,allLive,JU,e0,e1,e2,e3,e4,Vr];repeat (with_reducible refine And.intro ?_ ?_;· first|trivial|omega|(intro hg;simp only[Ky,JW,Jj,VS,VT,VU,decide_eq_true_eq,decide_eq_false_iff_not,XY]at hg;omega)|(simp only[Jc,Jp,Ez,EA,K5,K6,KY,J9,EB,V6];omega))
  refine Qi qat (cs:=[.int .u8 0, .str [], .int .i64 0, .int .i64 0, .bool false]) (by rfl) fun k4q2 hk4q2=>?_;try have hf_4q2:h k4q2=none:=by first|assumption|(simp only[V9]at hk4q2;simp only[hk4q2])
  refine qp (by rfl) (by rfl) zqA Xb (by rfl) (by rfl) zqD (Jt _) (by rfl) ?_;simp only[Vi,VX];simp+decide only[qa,ev,putD,VO,VQ,VP,Ka,setAt,VY,Kj,Js,Nat.reduceAdd];apply hK;clear hK K;refine awp_rseq [3,5,6,7,8,13] (by rfl) fun K hK=>?_;simp+decide only[qa,ev,putD,VO,VQ,VP,Ka,Kb,↓qB,ql,qbW,↓qF,qY,qz qjd,QT,VZ,Js,qi];apply hK;clear hK K;refine Qm ?_;refine awp_rseq [3,5,6,7,8,13,19] (by rfl) fun K hK=>?_;simp+decide only[qa,ev,qH,qG,putD,VO,VQ,VP,Ka,Kb,↓qw,qm,qA,cond_false,qo,Za,↓qd,qb];apply hK;clear hK K;refine qI (b:=_) rfl (fun hb2=>?_) (fun hb2=>?_)
  ·try simp only[decide_eq_true_eq]at hb2
   have hk:t.kind=3:=(ZJ _ 3).mp hb2;have htx:qbe t=[34]++qdN t.text++[34]:=by unfold qbe;rw[if_pos hk];rfl
   refine XW [3,6,7,8] (by rfl) ?_;simp+decide only[ev,putD,VO,VQ,Ka,Kb,↓qg,qc,↓qB,ql,Uu,↓qF,qY,qz ag9,QT,VZ,Kn,Js,qE];refine qO (V:= .str (qdN t.text)) (by rfl) (by rfl) (qCE wz hm _ t.text htb) ?_;simp+decide only[ev,qH,qG,putD,VO,VQ,Ka,↓qw,qm,qR,cond_false,Zj,qfn,WO];repeat (with_reducible refine And.intro ?_ ?_;· first|trivial|omega|(intro hg;simp only[Ky,JW,Jj,VS,VT,VU,decide_eq_true_eq,decide_eq_false_iff_not,XY]at hg;omega)|(simp only[Jc,KY,J9];omega))
   refine Qr (cs:=[.str ([34]++qdN t.text++[34])]) (by kernel_rfl) fun k8q6 hk8q6=>?_;have ne_8q6_4q2:k8q6≠k4q2:=by simp only[V9]at hk8q6;simp only[hk8q6,ne_eq,not_false_eq_true]
   try have hf_8q6:h k8q6=none:=by first|assumption|(simp only[V9]at hk8q6;simp only[hk8q6])
   refine Xt (es:=1) (zs:=(l.take i).map fun t=>qhu (qbe t)) (xs:=[qhu ([34]++qdN t.text++[34])]) (hZ:=h) (b:=b) (by rfl) (by rfl) Tryz.underlying30 Tryz.underlying30 (fun k e=>by cases e) sz9 by9 ze9 (by rfl) (by decide) (by rfl) g2 g3 (fun y hy=>by obtain⟨d,_,rfl⟩:=JH.1 hy;rfl) ((Vh hk4q2).trans (Vh hk8q6)) (by rfl) (Ba (Ve _ _ _) (by simp[qhu]) (by rfl) (by rfl) (.exact 1) (KL _)) (by rfl) (by simp;omega) (by simp;omega) fun b' h5 o1 o2 o3=>?_;have hbl':=QP 1 b';simp+decide only[qa,ev,putD,VO,VQ,VP,Ka,Kb,↓qd,qb];change Awp _ _ _ _ _ _ _;refine XW [3,6,7,8] (by rfl) ?_;simp+decide only[qa,ev,qH,qG,putD,VO,VQ,VP,Ka,Kb,↓qw,qm,qA,cond_false,qo,Xa,↓qg,qc];try simp(disch:=omega)only[wrap_i64]
   try simp only[Qj]
   exact⟨(i+1,b'),rfl,o3,⟨hi,o1,by simp only;rw[o2,htk,Bd,Ke,Vk,htx]⟩,by simp only;omega⟩
  ·try simp only[decide_eq_false_iff_not]at hb2
   have hk3:¬t.kind=3:=fun q=>hb2 ((ZJ _ 3).mpr q);refine awp_rseq [3,5,6,7,8,13,29] (by rfl) fun K hK=>?_;simp+decide only[qa,ev,qH,qG,putD,VO,VQ,VP,Ka,Kb,↓qw,qm,qA,cond_false,qo,Za,↓qd,qb];apply hK;clear hK K;refine qI (b:=_) rfl (fun hb3=>?_) (fun hb3=>?_)
   ·try simp only[decide_eq_true_eq]at hb3
    have hk:t.kind=6:=(ZJ _ 6).mp hb3;have htx:qbe t=[46]:=by unfold qbe;rw[if_neg hk3,if_pos hk]
    refine XW [3,6,7,8] (by rfl) ?_;simp+decide only[ev,putD,VO,VQ,Ka,Kb,↓qg,qc];refine Qr (cs:=[.str ([46])]) (by kernel_rfl) fun k10q1 hk10q1=>?_;have ne_10q1_4q2:k10q1≠k4q2:=by simp only[V9]at hk10q1;simp only[hk10q1,ne_eq,not_false_eq_true]
    try have hf_10q1:h k10q1=none:=by first|assumption|(simp only[V9]at hk10q1;simp only[hk10q1])
    refine Xt (es:=1) (zs:=(l.take i).map fun t=>qhu (qbe t)) (xs:=[qhu ([46])]) (hZ:=h) (b:=b) (by rfl) (by rfl) Tryz.underlying30 Tryz.underlying30 (fun k e=>by cases e) sz9 by9 ze9 (by rfl) (by decide) (by rfl) g2 g3 (fun y hy=>by obtain⟨d,_,rfl⟩:=JH.1 hy;rfl) ((Vh hk4q2).trans (Vh hk10q1)) (by rfl) (Ba (Ve _ _ _) (by simp[qhu]) (by rfl) (by rfl) (.exact 1) (KL _)) (by rfl) (by simp;omega) (by simp;omega) fun b' h5 o1 o2 o3=>?_;have hbl':=QP 1 b';simp+decide only[qa,ev,putD,VO,VQ,VP,Ka,Kb,↓qd,qb];change Awp _ _ _ _ _ _ _;refine XW [3,6,7,8] (by rfl) ?_;simp+decide only[qa,ev,qH,qG,putD,VO,VQ,VP,Ka,Kb,↓qw,qm,qA,cond_false,qo,Xa,↓qg,qc];try simp(disch:=omega)only[wrap_i64]
    try simp only[Qj]
    exact⟨(i+1,b'),rfl,o3,⟨hi,o1,by simp only;rw[o2,htk,Bd,Ke,Vk,htx]⟩,by simp only;omega⟩
   ·try simp only[decide_eq_false_iff_not]at hb3
    have hk6:¬t.kind=6:=fun q=>hb3 ((ZJ _ 6).mpr q);refine awp_rseq [3,5,6,7,8,34] (by rfl) fun K hK=>?_;simp+decide only[qa,ev,qH,qG,putD,VO,VQ,VP,Ka,Kb,↓qw,qm,qA,cond_false,qo,Za,↓qd,qb];apply hK;clear hK K;refine qI (b:=_) rfl (fun hb4=>?_) (fun hb4=>?_)
    ·try simp only[decide_eq_true_eq]at hb4
     have hk:t.kind=7:=(ZJ _ 7).mp hb4;have htx:qbe t=[61,61]:=by unfold qbe;rw[if_neg hk3,if_neg hk6,if_pos hk]
     refine XW [3,6,7,8] (by rfl) ?_;simp+decide only[ev,putD,VO,VQ,Ka,Kb,↓qg,qc];refine Qr (cs:=[.str ([61,61])]) (by kernel_rfl) fun k12q1 hk12q1=>?_;have ne_12q1_4q2:k12q1≠k4q2:=by simp only[V9]at hk12q1;simp only[hk12q1,ne_eq,not_false_eq_true]
     try have hf_12q1:h k12q1=none:=by first|assumption|(simp only[V9]at hk12q1;simp only[hk12q1])
     refine Xt (es:=1) (zs:=(l.take i).map fun t=>qhu (qbe t)) (xs:=[qhu ([61,61])]) (hZ:=h) (b:=b) (by rfl) (by rfl) Tryz.underlying30 Tryz.underlying30 (fun k e=>by cases e) sz9 by9 ze9 (by rfl) (by decide) (by rfl) g2 g3 (fun y hy=>by obtain⟨d,_,rfl⟩:=JH.1 hy;rfl) ((Vh hk4q2).trans (Vh hk12q1)) (by rfl) (Ba (Ve _ _ _) (by simp[qhu]) (by rfl) (by rfl) (.exact 1) (KL _)) (by rfl) (by simp;omega) (by simp;omega) fun b' h5 o1 o2 o3=>?_;have hbl':=QP 1 b';simp+decide only[qa,ev,putD,VO,VQ,VP,Ka,Kb,↓qd,qb];change Awp _ _ _ _ _ _ _;refine XW [3,6,7,8] (by rfl) ?_;simp+decide only[qa,ev,qH,qG,putD,VO,VQ,VP,Ka,Kb,↓qw,qm,qA,cond_false,qo,Xa,↓qg,qc];try simp(disch:=omega)only[wrap_i64]
     try simp only[Qj]
     exact⟨(i+1,b'),rfl,o3,⟨hi,o1,by simp only;rw[o2,htk,Bd,Ke,Vk,htx]⟩,by simp only;omega⟩
    ·try simp only[decide_eq_false_iff_not]at hb4
     have hk7:¬t.kind=7:=fun q=>hb4 ((ZJ _ 7).mpr q);have htx:qbe t=t.text:=by unfold qbe;rw[if_neg hk3,if_neg hk6,if_neg hk7]
     refine XW [3,6,7,8] (by rfl) ?_;simp+decide only[ev,putD,VO,VQ,Ka,Kb,↓qg,qc,↓qB,ql,Uu,↓qF,qY,qz ag9,QT,VZ,Kn,Js,qE];refine Qr (cs:=[.str (t.text)]) (by kernel_rfl) fun k6q3 hk6q3=>?_;have ne_6q3_4q2:k6q3≠k4q2:=by simp only[V9]at hk6q3;simp only[hk6q3,ne_eq,not_false_eq_true]
     try have hf_6q3:h k6q3=none:=by first|assumption|(simp only[V9]at hk6q3;simp only[hk6q3])
     refine Xt (es:=1) (zs:=(l.take i).map fun t=>qhu (qbe t)) (xs:=[qhu (t.text)]) (hZ:=h) (b:=b) (by rfl) (by rfl) Tryz.underlying30 Tryz.underlying30 (fun k e=>by cases e) sz9 by9 ze9 (by rfl) (by decide) (by rfl) g2 g3 (fun y hy=>by obtain⟨d,_,rfl⟩:=JH.1 hy;rfl) ((Vh hk4q2).trans (Vh hk6q3)) (by rfl) (Ba (Ve _ _ _) (by simp[qhu]) (by rfl) (by rfl) (.exact 1) (KL _)) (by rfl) (by simp;omega) (by simp;omega) fun b' h5 o1 o2 o3=>?_;have hbl':=QP 1 b';simp+decide only[qa,ev,putD,VO,VQ,VP,Ka,Kb,↓qd,qb];change Awp _ _ _ _ _ _ _;refine XW [3,6,7,8] (by rfl) ?_;simp+decide only[qa,ev,qH,qG,putD,VO,VQ,VP,Ka,Kb,↓qw,qm,qA,cond_false,qo,Xa,↓qg,qc];try simp(disch:=omega)only[wrap_i64]
     try simp only[Qj]
     exact⟨(i+1,b'),rfl,o3,⟨hi,o1,by simp only;rw[o2,htk,Bd,Ke,Vk,htx]⟩,by simp only;omega⟩
 ·try simp only[decide_eq_false_iff_not]at hb1
  refine XE ?_;change Awp _ _ _ _ _ _ _;have hie:i=l.length:=by omega
  rw[hie,List.take_length]at g3;have hst:IsStrs wz (Ql h b) (QH 1 b) (l.map qbe):=by
   have:=BH (wz:=wz) g2 (by decide) g3 (by simp[qhu]) (h:=Ql h b) (Vm _);unfold IsStrs;rw[List.map_map];exact this
  have hjl:(Lib.join (l.map qbe) [32]).length<=140737488355328:=by
   refine V7 (qmO (m:=200000002) fun y hy=>?_) ?_
   ·obtain⟨d,hd,rfl⟩:=JH.1 hy
    have h1:=qtN d;have h2:=hb d hd;omega
   ·rw[Jp]
    exact V7 (Nat.mul_le_mul_right _ hl) (by decide)
  refine awp_rseq [2] (by rfl) fun K hK=>?_;simp+decide only[ev,putD,VO,VQ,Ka,Kb,↓qg,qc];refine qO (V:= .str (textE l)) (by rfl) (by rfl) (qBH wz _ _ _ _ hst (by simp;omega) hjl) ?_;simp+decide only[qa,ev,putD,VO,VQ,VP,Ka,Kb,↓qd,qb];apply hK;clear hK K;refine qL ?_;refine Qb h hbs (qN (Qc)) ?_;simp+decide only[VQ,if_true,and_true,Qs];all_goals first|rfl|exact⟨rfl,rfl⟩|(simp+decide only[Ka, *];done)|(trace_state;fail)
end Go.Proofs.YtlhhaagmakhilaaGreatDoor
namespace Go.Proofs.YtlhhaagmakhilaaGreatDoor
open Go.AM
open Go.Proofs
open Go.Col (Str FaultC okF sp)
open Go.Tok
open Go.Cop
open Go.RowKit (Below)
set_option maxRecDepth 100000
theorem qgr(tb:Option Buf):(Yp (QH 5 tb)).live=true:=by cases tb<;>rfl
theorem qtC(tb:Option Buf):Sc (Yp (QH 5 tb))=True:=by cases tb<;>exact eq_true trivial
theorem qip(wz:World)(hm:MaxL wz)(h:AHeap)(s:Str)(hl:s.length<=1000000):ACall Tryz.prog wz 20 [.str s] h (fun r h'=>OutR h (qcu s) r h'):=by
 have hsp:(sp 11++s).length<=9223372036854775807:=by simp[sp];omega
 have hcl:=qgr none;refine qU (n:=12) (rs:=[.tmp 2]) Tryz.func20 rfl rfl rfl rfl (VN rfl) ?_;simp only[Qg];refine awp_rseq [0] (by rfl) fun K hK=>?_;simp+decide only[qa,ev,qH,qG,putD,VO,VP,Ka,Kb,↓qd,qb];apply hK;clear hK K;refine awp_rseq [3] (by rfl) fun K hK=>?_;simp+decide only[ev,qH,qG,putD,VO,VQ,Ka,Kb,↓qg,qc,↓qw,qm,qR,cond_false,Zj,qfn];repeat (with_reducible refine And.intro ?_ ?_;· first|trivial|omega|(intro hg;simp only[Ky,JW,Jj,VS,VT,VU,decide_eq_true_eq,decide_eq_false_iff_not,XY]at hg;omega)|(simp only[KY,J9];omega))
 refine QU (by rfl) (by rfl) (qyJ wz hm _ (sp 11++s) false hsp) fun x1q2 h1q2 hx1q2=>?_;obtain⟨tb,rfl,o1,o2,hh1⟩:=hx1q2;have hs1:Sub h h1q2:=by rw[hh1];exact BJ o1
 have hcl:=qgr tb;have hs_h1q2:Sub h h1q2:=BL zqC hs1;have hr_h1q2:=hs_h1q2;simp+decide only[ev,putD,VO,VQ,Ka,Kb,↓qg,qc,↓QY,QL,QV,KY,J9,VZ,Kn,VZ,Kn,Js,Nat.reduceAdd,QC];refine Qi qaE (cs:=[.int .i64 0, .int .i64 0, .int .i64 0]) (by rfl) fun k1q6 hk1q6=>?_;have hn_1q6:h1q2 k1q6=none:=by first|assumption|(simp only[V9]at hk1q6;simp only[hk1q6])
 have hf_1q6:h k1q6=none:=Bi hs_h1q2 hn_1q6;simp+decide only[ev,putD,VO,VQ,Ka,Kb,↓qd,qb];refine qp (by rfl) (by rfl) zqA QN (by rfl) (by rfl) zqD (Jt _) (by rfl) ?_;simp only[Vi,VX];simp+decide only[qa,ev,putD,VQ,VP,Ka,setAt,VY,Kj,Js,Nat.reduceAdd];apply hK;clear hK K;refine awp_rseq [2] (by rfl) fun K hK=>?_;simp+decide only[qa,ev,putD,VO,VQ,VP,Ka,Kb,↓qg,qc,↓qd,qb];apply hK;clear hK K;refine qL ?_;refine QD (qN (Qc)) ?_;simp+decide only[VQ,if_true,Qs];exact⟨Ql h tb,by rw[<-hh1];exact Vh hn_1q6,tb,rfl,o1,o2,rfl⟩
theorem qgZ(wz:World)(hm:MaxL wz)(h:AHeap):ACall Tryz.prog wz 24 [] h (fun r h'=>IsMems wz h' r qdJ/\Sub h h'):=by
 refine qU (n:=6) (rs:=[.tmp 0]) Tryz.func24 rfl rfl rfl rfl (VN rfl) ?_;simp only[Qg];refine awp_rseq [] (by rfl) fun K hK=>?_;simp+decide only[qa,ev,qH,qG,putD,VO,VP,if_false,Kb,↓qd,qb];apply hK;clear hK K;refine awp_rseq [0] (by rfl) fun K hK=>?_;refine QU (by rfl) (by rfl) (qip wz hm _ _ (by decide)) fun x1q0 h1q0 hx1q0=>?_;have ht1:=hx1q0.toks (wz:=wz);obtain⟨tb1,hv1,a1,a2,a3⟩:=hx1q0;have hcl1:=qgr tb1;have hcS1:=qtC tb1;subst hv1;have hs_h1q0:Sub h h1q0:=BL zqC ht1.2.2;have hr_h1q0:=hs_h1q0;simp+decide only[ev,qH,qG,putD,VO,VQ,Ka,Kb,↓Qu,↓Qa,qjb,evP,Ke,Vk,hcS1];refine QU (by rfl) (by rfl) (qip wz hm _ _ (by decide)) fun x1q2 h1q2 hx1q2=>?_;have ht2:=hx1q2.toks (wz:=wz);obtain⟨tb2,hv2,b1,b2,b3⟩:=hx1q2;have hcl2:=qgr tb2;have hcS2:=qtC tb2;subst hv2;have hs_h1q2:Sub h h1q2:=BL zqC ht2.2.2;have hr_h1q2:Sub h1q0 h1q2:=BL zqC ht2.2.2;simp+decide only[ev,qH,qG,putD,VO,VQ,Ka,Kb,↓Qu,↓Qa,qjb,evP,Ke,Vk,hcS2];refine Qr (cs:=[.str [65],Yp (QH 5 tb1), .str [66],Yp (QH 5 tb2)]) (by cases tb1<;>cases tb2<;>rfl) fun k1q4 hk1q4=>?_;have hn_1q4:h1q2 k1q4=none:=by first|assumption|(simp only[V9]at hk1q4;simp only[hk1q4])
 have hf_1q4:h k1q4=none:=Bi hs_h1q2 hn_1q4;simp+decide only[qa,ev,putD,VO,VQ,VP,Ka,Kb,↓qd,qb];apply hK;clear hK K;refine qL ?_;refine QD (qN (Qc)) ?_;simp+decide only[VQ,if_true,Qs];have hs4:Sub h1q2 (h1q2.set k1q4 ⟨[.str [65],Yp (QH 5 tb1), .str [66],Yp (QH 5 tb2)],0⟩):=Vh hn_1q4;refine⟨_,Vm _,⟨[(⟨[65],qcu [48,53,32,88,32,80,73,67,32,57,40,51,41,46]⟩,Yp (QH 5 tb1)),(⟨[66],qcu [48,49,32,82,46,32,67,79,80,89,32,65,32,82,69,80,76,65,67,73,78,71,32,88,32,66,89,32,89,46]⟩,Yp (QH 5 tb2))],rfl,?_,?_⟩,zqB⟩
 ·exact Ba (wz:=wz) (es:=2) (xs:=[[.str [65],Yp (QH 5 tb1)],[.str [66],Yp (QH 5 tb2)]]) (Ve _ _ _) (by simp) rfl (by simp[allLive,qE,hcl1,hcl2]) (.exact 2) (KL _)
 ·intro q hq
  simp only[KX,Bn,or_false]at hq;rcases hq with rfl|rfl
  ·exact(ht1.1.mono ht2.2.2).mono hs4
  ·exact ht2.1.mono hs4
theorem qed(s:Str):(qcu s).length<=65536:=(qnA (sp 11++s) false).1
theorem qfF:∀m∈qdJ,m.toks.length<=100000:=by
 intro m hm;simp only[qdJ,KX,Bn,or_false]at hm;rcases hm with rfl|rfl<;>(have:=qed;exact V7 (this _) (by decide))
def qnU(s want:Str):Bool:=match qaC true (qcu s) qdJ with
 | .ok out _=>decide (0<out.length) && (decide (out.length<=65536) && (out.all (fun t=>decide (t.text.length<=100000000)) && decide (textE out=want)))
 | .bad _=>false
def qiN(s:Str)(e col:Int):Bool:=match qaC true (qcu s) qdJ with
 | .ok _ _=>false
 | .bad f=>decide (f=⟨e,1,col⟩)
theorem qon(wz:World)(hm:MaxL wz)(h:AHeap)(s want:Str)(hs:s.length<=1000000)(hg:qnU s want=true):ACall Tryz.prog wz 25 [.str s, .str want] h (fun r h'=>r= .bool true/\h'=h):=by
 have hovl:(AVal.bool true).live=true:=rfl;have hnvl:(AVal.bool true).live=true:=rfl;refine qU (n:=30) (rs:=[.tmp 4]) Tryz.func25 rfl rfl rfl rfl (VN rfl) ?_;simp only[Qg];refine awp_rseq [0,1] (by rfl) fun K hK=>?_;simp+decide only[qa,ev,qH,qG,putD,VO,VP,Ka,Kb,↓qd,qb,Js];apply hK;clear hK K;refine awp_rseq [1,5,7] (by rfl) fun K hK=>?_;simp+decide only[ev,putD,VO,VQ,Ka,Kb,↓qg,qc];refine QU (by rfl) (by rfl) (qip wz hm _ s hs) fun x1q1 h1q1 hx1q1=>?_;have ht1:=hx1q1.toks (wz:=wz);have hs1:=ht1.2.2;have hs_h1q1:Sub h h1q1:=BL zqC hs1;have hr_h1q1:=hs_h1q1;refine QU (by rfl) (by rfl) (qgZ wz hm _) fun x1q2 h1q2 hx1q2=>?_;obtain⟨hms,hs2⟩:=hx1q2;have hs_h1q2:Sub h h1q2:=BL zqC hs2;have hr_h1q2:Sub h1q1 h1q2:=BL zqC hs2;refine QU (by rfl) (by rfl) (qis wz _ x1q1 x1q2 (qcu s) qdJ (ht1.1.mono hs2) hms (by have:=qed s;omega) (by decide) qfF) fun x1q3 h1q3 hx1q3=>?_;obtain⟨ov,nv,f,rfl,hs3,hc1,hc2,hcase⟩:=hx1q3;obtain⟨rfl,out,st,hX,hov,hnv,hl1,hl2⟩:f=okF/\∃out st,qaC true (qcu s) qdJ= .ok out st/\IsL wz h1q3 5 ov (out.map QI)/\IsL wz h1q3 1 nv (st.names.map Ut)/\out.length<=200000/\st.names.length<=4096:=by
  rcases hcase with⟨-,z,-⟩|z
  ·unfold qnU at hg
   rw[z]at hg;cases hg
  ·exact z
 unfold qnU at hg;rw[hX]at hg;simp only[Ky,decide_eq_true_eq,JD]at hg;obtain⟨g1,g2,g3,g4⟩:=hg;have hovl:=hov.live;have hnvl:=hnv.live;have nov:=Zc hov;have hpos:(0:Int)<out.length:=by omega
 have hs_h1q3:Sub h h1q3:=BL zqC hs3;have hr_h1q3:Sub h1q2 h1q3:=BL zqC hs3;simp+decide only[ev,putD,VO,VQ,Ka,Kb,↓qg,qc,↓QY,QL,QV,KY,J9,VZ,Kn,VZ,Kn,Js,Nat.reduceAdd,QC];refine Qi qaE (cs:=[.int .i64 0, .int .i64 0, .int .i64 0]) (by rfl) fun k1q8 hk1q8=>?_;have hn_1q8:h1q3 k1q8=none:=by first|assumption|(simp only[V9]at hk1q8;simp only[hk1q8])
 have hf_1q8:h k1q8=none:=Bi hs_h1q3 hn_1q8;simp+decide only[ev,putD,VO,VQ,Ka,Kb,↓qd,qb];refine qp (by rfl) (by rfl) zqA QN (by rfl) (by rfl) zqD (Jt _) (by rfl) ?_;simp only[Vi,VX];simp+decide only[qa,ev,putD,VQ,VP,Ka,setAt,VY,Kj,Js,Nat.reduceAdd];apply hK;clear hK K;refine awp_rseq [4] (by rfl) fun K hK=>?_;simp+decide only[ev,qH,qG,putD,VO,VQ,Ka,Kb,↓qF,qY,qh Xw QN,↓Qu,↓Qa,Yn,evP,Vk,↓qw,qm,qR,cond_false,YO,qyc,↓qg,qc,↓Xf,agP,Qv,qM,qK,qC,implies_true,decide_true,Qy,JU,↓qdn,Qw,↓Xd,qA,qo,qau,↓QW,Qz,Qk,decide_true,Qy,JU,Wl,cond_true,cond_false,QT,qf,VZ,Kn,Js,Nat.reduceAdd,qi,allLive,JU,nov,hpos];refine YM (by rfl) ?_;refine qO (V:= .str want) (by rfl) (by rfl) (by rw[<-g4];exact qBL wz hm _ ov out (hov.mono zqB) g2 (fun t ht=>g3 t ht)) ?_;simp+decide only[qa,ev,qH,qG,putD,VO,VQ,VP,Ka,Kb,↓Xf,qc,agP,Qv,qM,qK,qC,implies_true,decide_true,Qy,↓Xd,qm,qR,cond_false,Zj,qep,↓QW,Qz,Qk,↓qd,qb,decide_true,Qy,Wl,cond_true,cond_false];apply hK;clear hK K;refine qL ?_;refine Qb h zqC (qN (Qc)) ?_;simp+decide only[VQ,if_true,and_true,Qs];all_goals first|rfl|exact⟨rfl,rfl⟩|(simp+decide only[Ka, *];done)|(trace_state;fail)
theorem qoo(wz:World)(hm:MaxL wz)(h:AHeap)(s:Str)(e col:Int)(hs:s.length<=1000000)(hg:qiN s e col=true):ACall Tryz.prog wz 26 [.str s, .int .i64 e, .int .i64 col] h (fun r h'=>r= .bool true/\h'=h):=by
 refine qU (n:=32) (rs:=[.tmp 6]) Tryz.func26 rfl rfl rfl rfl (VN rfl) ?_;simp only[Qg];refine awp_rseq [0,1,2] (by rfl) fun K hK=>?_;simp+decide only[qa,ev,qH,qG,putD,VO,VP,Ka,Kb,↓qd,qb,Js,Nat.reduceAdd];apply hK;clear hK K;refine awp_rseq [1,2,7,8,9] (by rfl) fun K hK=>?_;simp+decide only[ev,putD,VO,VQ,Ka,Kb,↓qg,qc];refine QU (by rfl) (by rfl) (qip wz hm _ s hs) fun x1q1 h1q1 hx1q1=>?_;have ht1:=hx1q1.toks (wz:=wz);have hs1:=ht1.2.2;have hs_h1q1:Sub h h1q1:=BL zqC hs1;have hr_h1q1:=hs_h1q1;refine QU (by rfl) (by rfl) (qgZ wz hm _) fun x1q2 h1q2 hx1q2=>?_;obtain⟨hms,hs2⟩:=hx1q2;have hs_h1q2:Sub h h1q2:=BL zqC hs2;have hr_h1q2:Sub h1q1 h1q2:=BL zqC hs2;refine QU (by rfl) (by rfl) (qis wz _ x1q1 x1q2 (qcu s) qdJ (ht1.1.mono hs2) hms (by have:=qed s;omega) (by decide) qfF) fun x1q3 h1q3 hx1q3=>?_;obtain⟨ov,nv,f,rfl,hs3,hc1,hc2,hcase⟩:=hx1q3;obtain⟨hX,rfl,rfl⟩:qaC true (qcu s) qdJ= .bad f/\ov= .nilSlice/\nv= .nilSlice:=by
  rcases hcase with⟨-,z⟩|⟨-,out,st,z,-⟩
  ·exact z
  ·unfold qiN at hg
   rw[z]at hg;cases hg
 unfold qiN at hg;rw[hX]at hg;simp only[decide_eq_true_eq]at hg;subst hg;have hs_h1q3:Sub h h1q3:=BL zqC hs3;have hr_h1q3:Sub h1q2 h1q3:=BL zqC hs3;simp+decide only[ev,putD,VO,VQ,Ka,Kb,↓qg,qc,↓QY,QL,QV,KY,J9,VZ,Kn,VZ,Kn,Js,Nat.reduceAdd,QC];refine Qi qaE (cs:=[.int .i64 0, .int .i64 0, .int .i64 0]) (by rfl) fun k1q8 hk1q8=>?_;have hn_1q8:h1q3 k1q8=none:=by first|assumption|(simp only[V9]at hk1q8;simp only[hk1q8])
 have hf_1q8:h k1q8=none:=Bi hs_h1q3 hn_1q8;simp+decide only[ev,putD,VO,VQ,Ka,Kb,↓qd,qb];refine qp (by rfl) (by rfl) zqA QN (by rfl) (by rfl) zqD (Jt _) (by rfl) ?_;simp only[Vi,VX];simp+decide only[qa,ev,putD,VQ,VP,Ka,setAt,VY,Kj,Js,Nat.reduceAdd];apply hK;clear hK K;refine awp_rseq [6] (by rfl) fun K hK=>?_;simp+decide only[qa,ev,qH,qG,putD,VO,VQ,VP,Ka,Kb,↓qg,qc,↓Xe,Qw,qfo Tryz.underlying26,qfo Tryz.underlying30,↓qw,qm,qR,cond_false,qo,Xa,qA,Za,↓Zn,XT,YY,agP,Qv,qM,qK,qC,implies_true,decide_true,Qy,JU,qh Xw QN,↓Xf,↓qyS,↓Qa,qdP,evP,Ke,Vk,Wi,↓Xd,YO,qyc,↓QW,Qz,Qk,↓qd,qb,decide_true,Qy,JU,Wl,cond_true,cond_false,QT,qf,VZ,Kn,Js,Nat.reduceAdd,qi,allLive,JU];apply hK;clear hK K;refine qL ?_;refine Qb h zqC (qN (Qc)) ?_;simp+decide only[VQ,if_true,and_true,Qs];all_goals first|rfl|exact⟨rfl,rfl⟩|(simp+decide only[Ka, *];done)|(trace_state;fail)
def qAM:Bool:=match qaC true (qcu [67,79,80,89,32,34,66,34,46,32,77,79,86,69]) qdJ with
 | .ok _ st=>decide (st.names=[[66],[65]])
 | .bad _=>false
theorem qwt:qAM=true:=by decide+kernel
theorem qCt:qnU [67,79,80,89,32,65,46] [48,53,32,88,32,80,73,67,32,57,40,51,41,32,46]=true:=by decide+kernel
theorem qCw:qiN [67,79,80,89,32,67,46] 7 17=true:=by decide+kernel
theorem qCv:qiN [67,79,80,89,32,65] 4 12=true:=by decide+kernel
theorem qCu:qiN [67,79,80,89,32,65,32,82,69,80,76,65,67,73,78,71,32,88,46] 4 30=true:=by decide+kernel
set_option maxHeartbeats 2000000 in
theorem qiY(wz:World)(hm:MaxL wz)(h:AHeap):ACall Tryz.prog wz 9 [] h (fun r h'=>r= .bool true/\h'=h):=by
 have hovl:(AVal.bool true).live=true:=rfl;have hnvl:(AVal.bool true).live=true:=rfl;refine qU (n:=44) (rs:=[.tmp 0]) Tryz.func9 rfl rfl rfl rfl (VN rfl) ?_;simp only[Qg];refine awp_rseq [] (by rfl) fun K hK=>?_;simp+decide only[qa,ev,qH,qG,putD,VO,VP,if_false,Kb,↓qd,qb];apply hK;clear hK K;refine awp_rseq [2] (by rfl) fun K hK=>?_;refine QU (by rfl) (by rfl) (qip wz hm _ _ (by decide)) fun x1q0 h1q0 hx1q0=>?_;have ht1:=hx1q0.toks (wz:=wz);have hs1:=ht1.2.2;have hs_h1q0:Sub h h1q0:=BL zqC hs1;have hr_h1q0:=hs_h1q0;refine QU (by rfl) (by rfl) (qgZ wz hm _) fun x1q1 h1q1 hx1q1=>?_;obtain⟨hms,hs2⟩:=hx1q1;have hs_h1q1:Sub h h1q1:=BL zqC hs2;have hr_h1q1:Sub h1q0 h1q1:=BL zqC hs2;refine QU (by rfl) (by rfl) (qis wz _ x1q0 x1q1 _ qdJ (ht1.1.mono hs2) hms (by have:=qed [67,79,80,89,32,34,66,34,46,32,77,79,86,69];exact V7 this (by decide)) (by decide) qfF) fun x1q2 h1q2 hx1q2=>?_;obtain⟨ov,nv,f,rfl,hs3,hc1,hc2,hcase⟩:=hx1q2;have hlb:=qwt;unfold qAM at hlb;obtain⟨rfl,out,st,hX,hov,hnv,hl1,hl2⟩:f=okF/\∃out st,qaC true (qcu [67,79,80,89,32,34,66,34,46,32,77,79,86,69]) qdJ= .ok out st/\IsL wz h1q2 5 ov (out.map QI)/\IsL wz h1q2 1 nv (st.names.map Ut)/\out.length<=200000/\st.names.length<=4096:=by
  rcases hcase with⟨-,z,-⟩|z
  ·rw[show qaC true (qcu [67,79,80,89,32,34,66,34,46,32,77,79,86,69]) qdJ= .bad f from z]at hlb
   cases hlb
  ·exact z
 rw[hX]at hlb;simp only[decide_eq_true_eq]at hlb;rw[hlb]at hnv;have hovl:=hov.live;have hnvl:=hnv.live;have nnv:=qes hnv;have hs_h1q2:Sub h h1q2:=BL zqC hs3;have hr_h1q2:Sub h1q1 h1q2:=BL zqC hs3;simp+decide only[ev,putD,VO,VQ,Ka,Kb,↓qg,qc,↓QY,QL,QV,KY,J9,VZ,Kn,VZ,Kn,Js,Nat.reduceAdd,QC];refine Qi qaE (cs:=[.int .i64 0, .int .i64 0, .int .i64 0]) (by rfl) fun k1q7 hk1q7=>?_;have hn_1q7:h1q2 k1q7=none:=by first|assumption|(simp only[V9]at hk1q7;simp only[hk1q7])
 have hf_1q7:h k1q7=none:=Bi hs_h1q2 hn_1q7;simp+decide only[ev,putD,VO,VQ,Ka,Kb,↓qd,qb];refine qp (by rfl) (by rfl) zqA QN (by rfl) (by rfl) zqD (Jt _) (by rfl) ?_;simp only[Vi,VX];simp+decide only[qa,ev,putD,VQ,VP,Ka,setAt,VY,Kj,Js,Nat.reduceAdd];apply hK;clear hK K;refine BI (h':=h1q2) (Vh hn_1q7) ?_;obtain⟨lc,o,c,hnve⟩:=hnv.open (by simp);have hnv2:=hnv;rw[hnve]at hnv2;have e0:rd wz h1q2 lc (o+0)= .str [66]:=hnv2.at0 (i:=0) (by simp) (by decide);have e1:rd wz h1q2 lc (o+1)= .str [65]:=hnv2.at0 (i:=1) (by simp) (by decide);rw[K7]at e0;have hlen2:((([[66],[65]]:List Str).map Ut).length:Int)=2:=by decide
 have i0:Int.toNat 0=0:=rfl;have i1:Int.toNat 1=1:=rfl;subst hnve;refine awp_rseq [0] (by kernel_rfl) fun K hK=>?_;refine qO (V:= .bool true) (by rfl) (by rfl) (qon wz hm _ _ _ (by decide) qCt) ?_;simp+decide only[ev,putD,VO,VQ,Ka,Kb,↓qg,qc];refine YM (by rfl) ?_;refine qO (V:= .bool true) (by rfl) (by rfl) (qon wz hm _ _ _ (by decide) (by decide+kernel)) ?_;simp+decide only[ev,qH,qG,putD,VO,VQ,Ka,Kb,↓QW,Qz,Qk,↓qg,qc,Wl,cond_true];refine YM (by rfl) ?_;refine qO (V:= .bool true) (by rfl) (by rfl) (qon wz hm _ _ _ (by decide) (by decide+kernel)) ?_;simp+decide only[ev,qH,qG,putD,VO,VQ,Ka,Kb,↓QW,Qz,Qk,↓qg,qc,Wl,cond_true];refine YM (by rfl) ?_;refine qO (V:= .bool true) (by rfl) (by rfl) (qoo wz hm _ _ _ _ (by decide) qCw) ?_;simp+decide only[ev,qH,qG,putD,VO,VQ,Ka,Kb,↓QW,Qz,Qk,↓qg,qc,Wl,cond_true];refine YM (by rfl) ?_;refine qO (V:= .bool true) (by rfl) (by rfl) (qoo wz hm _ _ _ _ (by decide) qCv) ?_;simp+decide only[ev,qH,qG,putD,VO,VQ,Ka,Kb,↓QW,Qz,Qk,↓qg,qc,Wl,cond_true];refine YM (by rfl) ?_;refine qO (V:= .bool true) (by rfl) (by rfl) (qoo wz hm _ _ _ _ (by decide) qCu) ?_;simp+decide only[qa,ev,qH,qG,putD,VO,VQ,VP,Ka,Kb,↓QW,Qz,Qk,↓qg,qc,↓Xf,agP,Qv,qM,qK,qC,implies_true,decide_true,Qy,↓qdn,Qw,Zh Tryz.underlying30,↓Xd,qm,qA,cond_false,qo,Za,↓Zf,XT,YY,qW Tryz.underlying30 sz9,↓Zn,qz ag9,WO,Zj,qep,↓qd,qb,decide_true,Qy,Wl,cond_true,cond_false,qE,i0,i1,e0,e1,BK,K7];apply hK;clear hK K;refine qL ?_;refine Qb h zqC (qN (Qc)) ?_;simp+decide only[VQ,if_true,and_true,Qs];all_goals first|rfl|exact⟨rfl,rfl⟩|(simp+decide only[Ka, *];done)|(trace_state;fail)
end Go.Proofs.YtlhhaagmakhilaaGreatDoor
namespace Go.AM
section
variable {P:Program} {wz:World} {ops:List Oper} {K:Slots->AHeap->Prop}
end
end Go.AM
namespace Go.Proofs.YtlhhaagmakhilaaGreatDoor
open Go.AM
open Go.Proofs
open Go.Col (Str FaultC okF sp)
open Go.Tok
open Go.Cop
open Go.RowKit (Below)
set_option maxRecDepth 100000
theorem qbK{H:AHeap}{ea eb:Nat}{a b:Option Buf}(ha:bufOk H ea a)(hb:bufOk (Ql H a) eb b):Ql (Ql H a) b=Ql (Ql H b) a/\bufOk H eb b/\bufOk (Ql H b) ea a:=by
 cases a with
 |none=>exact⟨rfl,hb,trivial⟩
 |some a=>
  cases b with
  |none=>exact⟨rfl,trivial,ha⟩
  |some b=>
   have hne:b.blk≠a.blk:=fun e=>by
    have:=hb.1;rw[e,show Ql H (some a)=H.set a.blk ⟨a.cells,0⟩from rfl,Ve]at this;cases this
   have hb1:H b.blk=none:=by
    have:=hb.1
    rwa [show Ql H (some a)=H.set a.blk ⟨a.cells,0⟩from rfl,Vd _ _ hne]at this
   exact⟨Vj _ _ _ hne,⟨hb1,hb.2⟩,⟨(Vd _ _ hne.symm).trans ha.1,ha.2⟩⟩
theorem Ue{α:Type}(l:List α)(d e:α){i:Nat}(hi:i<l.length):l.getD i d=l.getD i e:=by
 rw[Ko,Ko,JA hi];rfl
theorem qhJ{wz:World}{h:AHeap}{v:AVal}{l:List Str}(hv:IsL wz h 1 v (l.map Ut))(hn:0<l.length):∃lc o c,v= .slice lc o l.length c:=by
 obtain⟨lc,o,c,e⟩:=hv.open (fun e=>by rw[VW]at e;subst e;simp at hn);rw[Jp]at e;exact⟨lc,o,c,e⟩
theorem qnO{wz:World}{h:AHeap}{lc:AM.Loc}{o:Nat}{c:Cap}{l:List Str}(hv:IsL wz h 1 (.slice lc o l.length c) (l.map Ut)){i:Nat}(hi:i<l.length):rd wz h lc (o+i)= .str (l.getD i []):=by
 have he:=hv.elem (i:=i) (by rw[Jp];exact hi);rw[getD_map [] hi,BK]at he;simp only[qf,Ut,List.cons.injEq,and_true]at he;exact he
theorem qvf(wz:World)(h:AHeap)(a b:AVal)(l:List TokC)(ha:IsL wz h 5 a (l.map QI))(hb:IsL wz h 5 b (l.map QI))(hl:l.length<=1099511627776):ACall Tryz.prog wz 14 [a,b] h (fun v h'=>v= .int .i64 0/\h'=h):=by
 have hla:=ha.live;have hlb:=hb.live;have na:=Zc ha;have nb:=Zc hb;refine qU (n:=26) (rs:=[.tmp 4]) Tryz.func14 rfl rfl rfl rfl (VN rfl) ?_;simp only[Qg];refine awp_rseq [0,1] (by rfl) fun K hK=>?_;simp+decide only[qa,ev,qH,qG,putD,VO,VP,Ka,Kb,↓qd,qb];apply hK;clear hK K;refine qJ ?_;refine awp_rseq [0,1,10] (by rfl) fun K hK=>?_;simp+decide only[qa,ev,putD,VO,VQ,VP,Ka,Kb,↓qg,qc,↓Xe,Qw,↓qw,qm,qR,cond_false,qo,Un,na,nb];apply hK;clear hK K;refine qI (b:=_) rfl (fun hb1=>?_) (fun hb1=>?_)
 ·exact absurd hb1 (by simp)
 ·try simp only[decide_eq_true_eq,VU]at hb1
  refine qP ?_;change Awp _ _ _ _ _ _ _;refine qJ ?_;refine awp_rseq [0,1,5] (by rfl) fun K hK=>?_;simp+decide only[qa,ev,qH,qG,putD,VO,VP,Ka,Kb,↓qd,qb];apply hK;clear hK K;refine Qm ?_;refine XC [0,1,5] (fun i:Nat=>[(0,a),(1,b),(5, .int .i64 i)]) (fun i:Nat=>h) (fun i:Nat=>i<=l.length) (fun i:Nat=>l.length-i) 0 (by rfl) (Vm _) (Jt _) ?_;intro i hi;refine qJ ?_;refine awp_rseq [0,1,5,14] (by rfl) fun K hK=>?_;simp+decide only[qa,ev,putD,VO,VQ,VP,Ka,Kb,↓qg,qc,↓Xe,Qw,↓qw,qm,qR,cond_false,qo,XZ,na];apply hK;clear hK K;refine qI (b:=_) rfl (fun hb2=>?_) (fun hb2=>?_)
  ·try simp only[decide_eq_true_eq]at hb2
   have hi':i<l.length:=by omega
   obtain⟨lc,o,c,rfl⟩:=YD ha (by omega);obtain⟨lc',o',c',rfl⟩:=YD hb (by omega);have he:=ha.elem (i:=i) (by rw[Jp];exact hi');have hd:=hb.elem (i:=i) (by rw[Jp];exact hi');rw[getD_map Zi hi',QI]at he hd;have hal:AM.allLive (QI (l.getD i Zi))=true:=rfl;rw[QI]at hal;have hbe:((l.getD i Zi).left==(l.getD i Zi).left)=true:=beq_self_eq_true _;refine qP ?_;change Awp _ _ _ _ _ _ _;refine qJ ?_;refine Qm ?_;refine Zt [0,1,5,25] mixed (by kernel_rfl) (by rfl) (by rfl) fun K hK=>?_;simp+decide only[qa,ev,putD,VO,VQ,VP,Ka,Kb,↓qg,qc,↓QE,qY,qW Tryz.underlying26 Xb,↓qF,qh ZB Xb,↓qw,qm,qR,cond_false,YO,qDb,he,hd,hal,hbe,Vr];repeat (with_reducible refine And.intro ?_ ?_;· first|trivial|omega|(intro hg;simp only[Ky,JW,Jj,VS,VT,VU,decide_eq_true_eq,decide_eq_false_iff_not,XY]at hg;omega))
   apply hK;clear hK K;refine qI (b:=_) rfl (fun hb3=>?_) (fun hb3=>?_)
   ·exact absurd hb3 (by simp)
   ·try simp only[decide_eq_true_eq,VU,Ky]at hb3
    refine qP ?_;change Awp _ _ _ _ _ _ _;refine XW [0,1,5] (by rfl) ?_;simp+decide only[qa,ev,qH,qG,putD,VO,VQ,VP,Ka,Kb,↓qg,qc,↓qw,qm,qA,cond_false,qo,Xa,↓qd,qb];try simp(disch:=omega)only[wrap_i64]
    try simp only[Qj]
    exact⟨i+1,rfl,Vm _,hi',by omega⟩
  ·try simp only[decide_eq_false_iff_not]at hb2
   refine XE ?_;change Awp _ _ _ _ _ _ _;refine awp_rseq [4] (by rfl) fun K hK=>?_;simp+decide only[qa,ev,qH,qG,putD,VO,VP,Ka,Kb,↓qd,qb];apply hK;clear hK K;refine qL ?_;refine Qb _ (Vm _) (qN (Qc)) ?_;simp+decide only[VQ,if_true,and_true,Qs];all_goals first|rfl|exact⟨rfl,rfl⟩|(simp+decide only[Ka, *];done)|(trace_state;fail)
theorem quY(wz:World)(h:AHeap)(a b:AVal)(l:List Str)(ha:IsL wz h 1 a (l.map Ut))(hb:IsL wz h 1 b (l.map Ut))(hl:l.length<=1099511627776):ACall Tryz.prog wz 15 [a,b] h (fun v h'=>v= .int .i64 0/\h'=h):=by
 have hla:=ha.live;have hlb:=hb.live;have na:=qes ha;have nb:=qes hb;refine qU (n:=26) (rs:=[.tmp 4]) Tryz.func15 rfl rfl rfl rfl (VN rfl) ?_;simp only[Qg];refine awp_rseq [0,1] (by rfl) fun K hK=>?_;simp+decide only[qa,ev,qH,qG,putD,VO,VP,Ka,Kb,↓qd,qb];apply hK;clear hK K;refine qJ ?_;refine awp_rseq [0,1,10] (by rfl) fun K hK=>?_;simp+decide only[qa,ev,putD,VO,VQ,VP,Ka,Kb,↓qg,qc,↓Xe,Qw,↓qw,qm,qR,cond_false,qo,Un,na,nb];apply hK;clear hK K;refine qI (b:=_) rfl (fun hb1=>?_) (fun hb1=>?_)
 ·exact absurd hb1 (by simp)
 ·try simp only[decide_eq_true_eq,VU]at hb1
  refine qP ?_;change Awp _ _ _ _ _ _ _;refine qJ ?_;refine awp_rseq [0,1,5] (by rfl) fun K hK=>?_;simp+decide only[qa,ev,qH,qG,putD,VO,VP,Ka,Kb,↓qd,qb];apply hK;clear hK K;refine Qm ?_;refine XC [0,1,5] (fun i:Nat=>[(0,a),(1,b),(5, .int .i64 i)]) (fun i:Nat=>h) (fun i:Nat=>i<=l.length) (fun i:Nat=>l.length-i) 0 (by rfl) (Vm _) (Jt _) ?_;intro i hi;refine qJ ?_;refine awp_rseq [0,1,5,14] (by rfl) fun K hK=>?_;simp+decide only[qa,ev,putD,VO,VQ,VP,Ka,Kb,↓qg,qc,↓Xe,Qw,↓qw,qm,qR,cond_false,qo,XZ,na];apply hK;clear hK K;refine qI (b:=_) rfl (fun hb2=>?_) (fun hb2=>?_)
  ·try simp only[decide_eq_true_eq]at hb2
   have hi':i<l.length:=by omega
   obtain⟨lc,o,c,rfl⟩:=qhJ ha (by omega);obtain⟨lc',o',c',rfl⟩:=qhJ hb (by omega);have he:=qnO ha hi';have hd:=qnO hb hi';refine qP ?_;change Awp _ _ _ _ _ _ _;refine qJ ?_;refine Qm ?_;refine Zt [0,1,5,25] mixed (by kernel_rfl) (by rfl) (by rfl) fun K hK=>?_;simp+decide only[qa,ev,putD,VO,VQ,VP,Ka,Kb,↓qg,qc,↓QE,qY,qW Tryz.underlying30 sz9,↓qF,qz ag9,↓qw,qm,qR,cond_false,Zj,qeo,he,hd,qE,decide_true,Bool.not_true,Vr,BK];repeat (with_reducible refine And.intro ?_ ?_;· first|trivial|omega|(intro hg;simp only[Ky,JW,Jj,VS,VT,VU,decide_eq_true_eq,decide_eq_false_iff_not,XY]at hg;omega))
   apply hK;clear hK K;refine qI (b:=_) rfl (fun hb3=>?_) (fun hb3=>?_)
   ·exact absurd hb3 (by simp)
   ·try simp only at hb3
    refine qP ?_;change Awp _ _ _ _ _ _ _;refine XW [0,1,5] (by rfl) ?_;simp+decide only[qa,ev,qH,qG,putD,VO,VQ,VP,Ka,Kb,↓qg,qc,↓qw,qm,qA,cond_false,qo,Xa,↓qd,qb];try simp(disch:=omega)only[wrap_i64]
    try simp only[Qj]
    exact⟨i+1,rfl,Vm _,hi',by omega⟩
  ·try simp only[decide_eq_false_iff_not]at hb2
   refine XE ?_;change Awp _ _ _ _ _ _ _;refine awp_rseq [4] (by rfl) fun K hK=>?_;simp+decide only[qa,ev,qH,qG,putD,VO,VP,Ka,Kb,↓qd,qb];apply hK;clear hK K;refine qL ?_;refine Qb _ (Vm _) (qN (Qc)) ?_;simp+decide only[VQ,if_true,and_true,Qs];all_goals first|rfl|exact⟨rfl,rfl⟩|(simp+decide only[Ka, *];done)|(trace_state;fail)
theorem qvh(wz:World)(h:AHeap)(a b:TokC):ACall Tryz.prog wz 48 [.agg (QI a), .agg (QI b)] h (fun v h'=>v= .int .i64 (if qdt a b=true then 1 else 0)/\h'=h):=by
 have hsa:qdt a b=(decide (a.kind=b.kind) && decide (a.text=b.text)):=rfl;unfold QI;have ek:decide ((a.kind.toNat:Int)=b.kind.toNat)=decide (a.kind=b.kind):=decide_eq_decide.2 ⟨fun q=>UInt8.toNat_inj.1 (by omega),fun q=>by rw[q]⟩;refine qU (n:=17) (rs:=[.tmp 4]) Tryz.func48 rfl rfl rfl rfl (VN rfl) ?_;simp only[Qg];refine awp_rseq [2,3] (by rfl) fun K hK=>?_;refine Wt (by rfl) (by rfl) (by rfl) fun k0q0 hk0q0=>?_;try have hf_0q0:h k0q0=none:=by first|assumption|(simp only[V9]at hk0q0;simp only[hk0q0])
 skip;refine Wt (by rfl) (by rfl) (by rfl) fun k0q1 hk0q1=>?_;have ne_0q1_0q0:k0q1≠k0q0:=by simp only[V9]at hk0q1;simp only[hk0q1,ne_eq,not_false_eq_true]
 try have hf_0q1:h k0q1=none:=by first|assumption|(simp only[V9]at hk0q1;simp only[hk0q1])
 skip;simp+decide only[qa,ev,qH,qG,putD,VO,VQ,VP,Ka,Kb,↓qd,qb,VX,Js];apply hK;clear hK K;refine qJ ?_;refine awp_rseq [16] (by rfl) fun K hK=>?_;simp+decide only[qa,ev,qH,qG,putD,VO,VQ,VP,Ka,Kb,↓qB,ql,qbW,↓qF,qY,qz qjd,↓qw,qm,qR,cond_false,qo,Za,↓qg,qc,↓Xj,agP,Qv,qM,qK,qC,implies_true,Uu,↓Zn,XT,YY,qeE,qz ag9,↓Xd,Zv,qbB,Zw,qbC,Zj,qep,↓QW,Qz,Qk,Xp,Xy,QZ,ne_eq,not_false_eq_true,ne_0q1_0q0.symm,QT,VZ,Kn,Js,qi,qE,ek];apply hK;clear hK K;refine qI (b:=_) rfl (fun hb1=>?_) (fun hb1=>?_)
 ·try simp only[decide_eq_true_eq,Ky]at hb1
  refine awp_rseq [4] (by rfl) fun K hK=>?_;simp+decide only[qa,ev,qH,qG,putD,VO,VP,Ka,Kb,↓qd,qb];apply hK;clear hK K;refine qL ?_;try simp only[Qe]
  refine Qb h zqC (qN (Qc)) ?_;simp+decide only[VQ,if_true,and_true,Qs];rw[if_pos (by rw[hsa];simpa using hb1)]
 ·try simp only[decide_eq_false_iff_not,VS]at hb1
  refine qP ?_;change Awp _ _ _ _ _ _ _;refine awp_rseq [4] (by rfl) fun K hK=>?_;simp+decide only[qa,ev,qH,qG,putD,VO,VP,Ka,Kb,↓qd,qb];apply hK;clear hK K;refine qL ?_;refine Qb h zqC (qN (Qc)) ?_;simp+decide only[VQ,if_true,and_true,Qs];rw[if_neg (by rw[hsa];rcases hb1 with z|z<;>simp[z])]
theorem qlO:∀{l m:List TokC} {a b:TokC},l.length=m.length->alike (l++[a]) (m++[b])=(alike l m && qdt a b)
 |[],[],a,b,_=>by simp only[Je,alike,Vg,JU];rfl
 |x::l,y::m,a,b,h=>by
  simp only[Kh,alike];rw[qlO (by simpa using h)];simp only[Bool.and_assoc]
theorem qrz(a b:TokC):qdt a b=qdt b a:=by
 unfold qdt;rw[show decide (a.kind=b.kind)=decide (b.kind=a.kind)from decide_eq_decide.2 eq_comm,show decide (a.text=b.text)=decide (b.text=a.text)from decide_eq_decide.2 eq_comm]
theorem qmr(l:List TokC){i:Nat}(hi:i<l.length):l.take (i+1)=l.take i++[l.getD i Zi]:=by
 rw[VL,JA hi,Ko,JA hi];rfl
structure FiG where
 i:Nat
 c:Nat
structure FiOk(l o:List TokC)(s:FiG):Prop where
 i:s.i<=o.length
 c:s.c<=s.i
 eq:s.c=s.i↔alike (o.take s.i) (l.take s.i)=true
theorem qyH(wz:World)(h:AHeap)(v w:AVal)(l o:List TokC)(hv:IsL wz h 5 v (l.map QI))(hw:IsL wz h 5 w (o.map QI))(hl:l.length<=1099511627776):ACall Tryz.prog wz 39 [v,w] h (fun r h'=>r= .bool (Yb l o)/\h'=h):=by
 have hlv:=hv.live;have hlw:=hw.live;have nv:=Zc hv;have nw:=Zc hw;refine qU (n:=33) (rs:=[.tmp 4]) Tryz.func39 rfl rfl rfl rfl (VN rfl) ?_;simp only[Qg];refine awp_rseq [0,1] (by rfl) fun K hK=>?_;simp+decide only[qa,ev,qH,qG,putD,VO,VP,Ka,Kb,↓qd,qb,Js];apply hK;clear hK K;refine qJ ?_;refine awp_rseq [0,1,11] (by rfl) fun K hK=>?_;simp+decide only[qa,ev,putD,VO,VQ,VP,Ka,Kb,↓qg,qc,↓Xe,Qw,↓qw,qm,qR,cond_false,qo,qau,nv,nw];apply hK;clear hK K;refine qI (b:=_) rfl (fun hb1=>?_) (fun hb1=>?_)
 ·try simp only[decide_eq_true_eq]at hb1
  refine awp_rseq [4] (by rfl) fun K hK=>?_;simp+decide only[qa,ev,qH,qG,putD,VO,VP,Ka,Kb,↓qd,qb];apply hK;clear hK K;refine qL ?_;try simp only[Qe]
  refine Qb h zqC (qN (Qc)) ?_;simp+decide only[VQ,if_true,and_true,Qs];rw[show Yb l o=false by unfold Yb;rw[decide_eq_false (by omega),Bool.false_and]]
 ·try simp only[decide_eq_false_iff_not]at hb1
  have hol:o.length<=l.length:=by omega
  refine qP ?_;change Awp _ _ _ _ _ _ _;refine awp_rseq [0,1,5] (by rfl) fun K hK=>?_;simp+decide only[qa,ev,qH,qG,putD,VO,VP,Ka,Kb,↓qd,qb];apply hK;clear hK K;refine qJ ?_;refine awp_rseq [0,1,5,6] (by rfl) fun K hK=>?_;simp+decide only[qa,ev,qH,qG,putD,VO,VP,Ka,Kb,↓qd,qb];apply hK;clear hK K;refine Qm ?_;refine XC [0,1,5,6] (fun s:FiG=>[(0,v),(1,w),(5, .int .i64 s.c),(6, .int .i64 s.i)]) (fun s:FiG=>h) (fun s:FiG=>FiOk l o s) (fun s:FiG=>o.length-s.i) ⟨0,0⟩ (by rfl) (Vm _) ⟨Jt _,KL _,by simp[alike]⟩ ?_;rintro⟨i,c⟩ ⟨g1,g2,g3⟩;simp only at g1 g2 g3|-
  refine qJ ?_;refine awp_rseq [0,1,5,6,15] (by rfl) fun K hK=>?_;simp+decide only[qa,ev,putD,VO,VQ,VP,Ka,Kb,↓qg,qc,↓Xe,Qw,↓qw,qm,qR,cond_false,qo,XZ,nw];apply hK;clear hK K;refine qI (b:=_) rfl (fun hb2=>?_) (fun hb2=>?_)
  ·try simp only[decide_eq_true_eq]at hb2
   have hi':i<o.length:=by omega
   obtain⟨lc,lo,cc,rfl⟩:=YD hv (by omega);obtain⟨lc',lo',cc',rfl⟩:=YD hw (by omega);obtain⟨e0,e1,e2,e3,e4⟩:=YP hv (i:=i) (by omega);obtain⟨d0,d1,d2,d3,d4⟩:=YP hw hi';have e2':rd wz h lc (lo+i*5+1+1)= .int .i64 (l.getD i Zi).line:=e2;have e3':rd wz h lc (lo+i*5+1+1+1)= .int .i64 (l.getD i Zi).col:=e3;have e4':rd wz h lc (lo+i*5+1+1+1+1)= .bool (l.getD i Zi).left:=e4;have d2':rd wz h lc' (lo'+i*5+1+1)= .int .i64 (o.getD i Zi).line:=d2;have d3':rd wz h lc' (lo'+i*5+1+1+1)= .int .i64 (o.getD i Zi).col:=d3;have d4':rd wz h lc' (lo'+i*5+1+1+1+1)= .bool (o.getD i Zi).left:=d4;have hst:alike (o.take (i+1)) (l.take (i+1))=(alike (o.take i) (l.take i) && qdt (l.getD i Zi) (o.getD i Zi)):=by
    rw[qmr o hi',qmr l (by omega),qlO (by simp;omega),qrz]
   refine qP ?_;change Awp _ _ _ _ _ _ _;refine qJ ?_;refine Qm ?_;refine qeD 12 [] mixed (by kernel_rfl) (by rfl) ?_;simp only[Ki,VE,EC,ED];simp+decide only[qa,ev,putD,VO,VQ,Ka,Kb,↓Zd,qc,↓qce,XU,qW Tryz.underlying26 Xb,UF,↓ZN,qh ZB Xb,qf,qD,qi,qE,allLive,JU,e0,e1,e2',e3',e4',d0,d1,d2',d3',d4',Vr];repeat (with_reducible refine And.intro ?_ ?_;· first|trivial|omega|(intro hg;simp only[Ky,JW,Jj,VS,VT,VU,decide_eq_true_eq,decide_eq_false_iff_not,XY]at hg;omega))
   refine Xu (V:= .int .i64 (if qdt (l.getD i Zi) (o.getD i Zi)=true then 1 else 0)) (by rfl) (by rfl) (by first|trivial|(simp+decide only[Be,XL,and_true,Kb,QC,Wy,Ve,JK];done)|(simp[Be,XL,Bf];done)) (fun g hg=>qvh wz _ _ _) ?_;simp+decide only[YK,ev,putD,VO,VQ,Ka,Kb,↓qfA,qm,qR,cond_false,qo,Xa,↓qbs,qb];try simp(disch:=omega)only[wrap_i64]
   change Awp _ _ _ _ _ _ _;refine XW [0,1,5,6] (by rfl) ?_;simp+decide only[qa,ev,qH,qG,putD,VO,VQ,VP,Ka,Kb,↓qg,qc,↓qw,qm,qA,cond_false,qo,Xa,↓qd,qb];try simp(disch:=omega)only[wrap_i64]
   try simp only[Qj]
   cases hs:qdt (l.getD i Zi) (o.getD i Zi)with
   |true=>
    rw[hs,JU]at hst;exact⟨⟨i+1,c+1⟩,rfl,Vm _,⟨hi',by simp only;omega,by simp only;rw[hst,<-g3];omega⟩,by simp only;omega⟩
   |false=>
    rw[hs,Bool.and_false]at hst;exact⟨⟨i+1,c⟩,rfl,Vm _,⟨hi',by simp only;omega,by simp only;rw[hst];simp;omega⟩,by simp only;omega⟩
  ·try simp only[decide_eq_false_iff_not]at hb2
   refine XE ?_;change Awp _ _ _ _ _ _ _;refine awp_rseq [4] (by rfl) fun K hK=>?_;simp+decide only[qa,ev,putD,VO,VQ,VP,Ka,Kb,↓qg,qc,↓Xe,Qw,↓qw,qm,qR,cond_false,qo,Za,↓qd,qb,nw];apply hK;clear hK K;refine qL ?_;refine Qb h zqC (qN (Qc)) ?_;simp+decide only[VQ,if_true,and_true,Qs];rw[show Yb l o=decide ((c:Int)=o.length) by
    rw[show i=o.length by omega,Jr (KL _)]at g3;unfold Yb;rw[decide_eq_true hol,Vg,Bool.eq_iff_iff,<-g3,decide_eq_true_eq];omega]
theorem Zm(wz:World)(h:AHeap)(s:Str):ACall Tryz.prog wz 27 [.str s] h (fun r h'=>r= .agg [.int .u8 1, .str s, .int .i64 0, .int .i64 0, .bool false]/\h'=h):=by
 refine qU (n:=5) (rs:=[.cell 2 54]) Tryz.func27 rfl rfl rfl rfl (VN rfl) ?_;simp only[Qg];refine awp_rseq [0,2] (by rfl) fun K hK=>?_;refine Qi qat (cs:=[.int .u8 0, .str [], .int .i64 0, .int .i64 0, .bool false]) (by rfl) fun k0q0 hk0q0=>?_;try have hf_0q0:h k0q0=none:=by first|assumption|(simp only[V9]at hk0q0;simp only[hk0q0])
 simp+decide only[qa,putD,VO,VP,Ka];apply hK;clear hK K;refine awp_rseq [2] (by rfl) fun K hK=>?_;simp+decide only[ev,qH,qG,putD,VO,VQ,Ka,Kb,↓qg,qc,↓Qu,↓Qa,qar,evP,Ke,Vk];refine qp (by rfl) (by rfl) zqA Xb (by rfl) (by rfl) zqD (Jt _) (by rfl) ?_;simp only[Vi,VX];simp+decide only[qa,ev,putD,VQ,VP,Ka,setAt,VY,Kj,Js,Nat.reduceAdd];apply hK;clear hK K;refine qL ?_;refine Qb h zqC (?_) ?_
 ·simp+decide only[QG,qj,VQ,if_true,and_true,qj,qh ZB Xb,qZ,qf,VZ,Kn,Js,Nat.reduceAdd,qD,qi,qE,allLive,JU,qf,VZ,Kn,Js,Nat.reduceAdd,qD,qi,qE,allLive,JU]
 simp+decide only[VQ,if_true,and_true,Zu,qj,qh ZB Xb,qZ,qf,VZ,Kn,Js,Nat.reduceAdd,qD,qi,qE,allLive,JU,qf,VZ,Kn,Js,Nat.reduceAdd,qD,qi,qE,allLive,JU];all_goals first|rfl|exact⟨rfl,rfl⟩|(simp+decide only[Ka, *];done)|(trace_state;fail)
def plN(i:Nat)(l:List TokC):List TokC:=(qbn l).take i++l.drop i
theorem qwc(l:List TokC):plN 0 l=l:=rfl
theorem qge(i:Nat)(l:List TokC):(plN i l).length=l.length:=by
 unfold plN qbn;simp;omega
theorem qzs(l:List TokC):plN l.length l=qbn l:=by
 unfold plN;rw[JZ,Bg,Jr (by unfold qbn;simp)]
theorem qwd{i:Nat}{l:List TokC}(hi:i<l.length):(plN i l).set i (atT i ((plN i l).getD i Zi))=plN (i+1) l:=by
 have hp:(qbn l).length=l.length:=by unfold qbn;simp
 have hg:(plN i l).getD i Zi=l.getD i Zi:=by
  unfold plN;rw[Ko,VD (by simp[hp];omega),K5,hp,EE (by omega),Ew,Kq,K7];rfl
 rw[hg];apply List.ext_getElem?;intro j;rw[List.getElem?_set];by_cases e:i=j
 ·subst e
  rw[if_pos rfl,if_pos (by rw[qge];exact hi)];unfold plN;rw[EF (by simp[hp];omega),K3,if_pos (by omega)];unfold qbn;rw[EG,JA hi];simp[Ko,hi]
 ·rw[if_neg e]
  unfold plN;by_cases h:j<i
  ·rw[EF (by simp[hp];omega),EF (by simp[hp];omega),K3,K3,if_pos h,if_pos (by omega)]
  ·rw[VD (by simp[hp];omega),VD (by simp[hp];omega)]
   simp only[K5,hp,Kq];rw[EE (by omega),EE (by omega),show i+(j-i)=j by omega,show i+1+(j-(i+1))=j by omega]
theorem WJ(l:List TokC):AM.allLive ((l.map QI).flatten)=true:=YB.2 fun x hx=>by obtain⟨y,_,rfl⟩:=JH.1 hx;rfl
theorem qdZ(l:List TokC):Qt ((l.map QI).flatten)=true:=YT.2 fun x hx=>by obtain⟨y,_,rfl⟩:=JH.1 hx;rfl
theorem qmW:∀(l:List TokC) (i:Nat) (a b:AVal) (t:TokC),i<l.length->QI t=(QI (l.getD i Zi)).take 2++[a,b]++(QI (l.getD i Zi)).drop 4->setAt ((l.map QI).flatten) (i*5+2) [a,b]=((l.set i t).map QI).flatten
 |[],i,_,_,_,h,_=>by simp at h
 |x::l,0,a,b,t,_,e=>by
  simp only[VZ]at e;simp only[Ke,VA,VY,e];rfl
 |x::l,i+1,a,b,t,h,e=>by
  simp only[Kn]at e;have ih:=qmW l i a b t (by simpa using h) e;simp only[Ke,VA,Kj];rw[<-ih,show(i+1)*5+2=5+(i*5+2) by omega,qds (m:=5) rfl]
theorem qoD{P:Program}{wz:World}{ops rest:List Oper}{s:Slots}{H:AHeap}{K:Slots->AHeap->Prop}{dst:Option Tmp}{ty:TypeId}{pos:String}{af:Array Edge}{t:TypeId}{x y:Operand}{k i:Nat}{l:List TokC}
 (hx:ev s x= .ptr (.own k) (i*5+2)) (hv:ev s y= .agg [.int .i64 (1+(i / 8:Nat)), .int .i64 (8+(i%8:Nat))]) (hb:H k=some ⟨(l.map QI).flatten,0⟩) (hi:i<l.length) (hn:Yz P t=some 2)
 (hk:QO P wz ops rest (putD s dst (.tuple [])) (H.set k ⟨((l.set i ⟨(l.getD i Zi).kind,(l.getD i Zi).text,1+(i / 8:Nat),8+(i%8:Nat),(l.getD i Zi).left⟩).map QI).flatten,0⟩) K):
 QO P wz ops (⟨dst, .store t x y,ty,pos,af,none⟩::rest) s H K:=by
 refine qp hx hv hb hn rfl rfl ?_ (Jt _) rfl ?_
 ·simp only
  rw[ZF (es:=5) Xn,Jp];omega
 ·simp only[VX]
  rw[qmW l i _ _ ⟨(l.getD i Zi).kind,(l.getD i Zi).text,1+(i / 8:Nat),8+(i%8:Nat),(l.getD i Zi).left⟩ hi rfl];exact hk
structure Of2(h:AHeap)(l:List TokC)(g:Nat×Option Buf):Prop where
 i:g.1<=l.length
 ok:bufOk h 5 g.2
 eq:Yh g.2=((plN g.1 l).map QI).flatten
theorem qzr{l:List TokC}(hl:∀t∈l,t.left=false){i:Nat}(hi:i<l.length):(⟨((plN i l).getD i Zi).kind,((plN i l).getD i Zi).text,1+(i / 8:Nat),8+(i%8:Nat),((plN i l).getD i Zi).left⟩:TokC)=atT i ((plN i l).getD i Zi):=by
 have:((plN i l).getD i Zi).left=false:=by
  have hp:(qbn l).length=l.length:=by unfold qbn;simp
  unfold plN;rw[Ko,VD (by simp[hp];omega),K5,hp,EE (by omega),Ew,Kq,K7,JA hi];exact hl _ (VJ hi)
 unfold atT;rw[this]
theorem qvT:∀{ns:List Nat},(∀n∈ns,n<256)->∀t∈XI ns,t.left=false:=by
 intro ns hn t ht;have h:=(qcm hn).1;rw[<-h]at ht;obtain⟨y,-,rfl⟩:=JH.1 ht;rfl
set_option maxHeartbeats 1000000 in
theorem qwo(wz:World)(h:AHeap)(l:List TokC)(hlf:∀t∈l,t.left=false)(hl:l.length<=1000000)(tb:Option Buf)(hok:bufOk h 5 tb)(heq:Yh tb=(l.map QI).flatten):
 Awp Tryz.prog wz 178 (UL 8 (qeB Tryz.f10)) (qeg Tryz.prog wz [.tmp 2] (fun r h'=>∃tb,r=QH 5 tb/\bufOk h 5 tb/\Yh tb=((qbn l).map QI).flatten/\h'=Ql h tb)) [(8,QH 5 tb)] (Ql h tb):=by
 have hlv:=QP 5 tb;change Awp _ _ _ (Code.seq _ _) _ _ _;refine qJ ?_;refine awp_rseq [8,12] (by rfl) fun K hK=>?_;simp+decide only[qa,ev,qH,qG,putD,VO,VP,Ka,Kb,↓qd,qb];apply hK;clear hK K;refine Qm ?_;refine XC [8,12] (fun g:Nat×Option Buf=>[(8,QH 5 g.2),(12, .int .i64 g.1)]) (fun g:Nat×Option Buf=>Ql h g.2) (fun g:Nat×Option Buf=>Of2 h l g) (fun g:Nat×Option Buf=>l.length-g.1) (0,tb) (by rfl) (Vm _) ⟨Jt _,hok,by rw[qwc];exact heq⟩ ?_;rintro⟨i,tb⟩ ⟨g1,g2,g3⟩;simp only at g1 g2 g3|-
 have hbl:=QP 5 tb;have hV:IsL wz (Ql h tb) 5 (QH 5 tb) ((plN i l).map QI):=BH g2 (by decide) g3 Xn (Vm _);have hlen:=Zc hV;rw[qge]at hlen;refine qJ ?_;refine awp_rseq [8,12,163] (by rfl) fun K hK=>?_;simp+decide only[qa,ev,putD,VO,VQ,VP,Ka,Kb,↓qg,qc,↓Xe,Qw,↓qw,qm,qR,cond_false,qo,XZ,hlen];apply hK;clear hK K;refine qI (b:=_) rfl (fun hb1=>?_) (fun hb1=>?_)
 ·try simp only[decide_eq_true_eq]at hb1
  have hi:i<l.length:=by omega
  obtain⟨b,rfl⟩:∃b,tb=some b:=by
   cases tb with
   |some b=>exact⟨b,rfl⟩
   |none=>
    have e:=congrArg BR g3;rw[ZF (es:=5) Xn,Jp,qge]at e;simp[Yh]at e;omega
  have hbc:b.cells=((plN i l).map QI).flatten:=g3;have hbv:QH 5 (some b)= .slice (.own b.blk) 0 l.length (.grow 5):=by
   show AVal.slice (.own b.blk) 0 (b.cells.length / 5) (.grow 5)=_
   rw[hbc,ZF (es:=5) Xn,Jp,qge,Vo _ (by decide)]
  have hq:Int.tdiv (i:Int) 8=((i / 8:Nat):Int):=by rw[Int.tdiv_eq_ediv_of_nonneg (by omega)];omega
  have hr:EH (i:Int) 8=((i%8:Nat):Int):=by rw[EI (by omega)];omega
  refine qP ?_;change Awp _ _ _ _ _ _ _;refine qJ ?_;refine Qm ?_;refine XW [8,12] (by rfl) ?_;simp+decide only[ev,qH,qG,putD,VO,VQ,Ka,Kb,↓qg,qc,↓qw,qm,qA,cond_false,qo,qBf,qR,Xa,qkP,↓Qu,↓Qa,qdP,evP,Ke,Vk,hbv,hq,hr];try simp(disch:=omega)only[wrap_i64]
  try simp+decide only[ev,putD,VO,VQ,Ka,Kb,↓QE,qY,qW Tryz.underlying26 Xb,↓qB,ql,qdm,Js,Vr,Js]
  repeat (with_reducible refine And.intro ?_ ?_;· first|trivial|omega|(intro hg;simp only[Ky,JW,Jj,VS,VT,VU,decide_eq_true_eq,decide_eq_false_iff_not,XY]at hg;omega))
  refine qoD (k:=b.blk) (i:=i) (l:=plN i l) (by rfl) (by rfl) (by rw[<-hbc];exact Ve _ _ _) (by rw[qge];exact hi) qbd ?_;rw[qzr hlf hi,qwd hi];simp+decide only[qa,putD,VP,Ka];change Awp _ _ _ _ _ _ _;refine XW [8,12] (by rfl) ?_;simp+decide only[qa,ev,qH,qG,putD,VO,VQ,VP,Ka,Kb,↓qg,qc,↓qw,qm,qA,cond_false,qo,Xa,↓qd,qb];try simp(disch:=omega)only[wrap_i64]
  try simp only[Qj]
  refine⟨(i+1,some ⟨b.blk,((plN (i+1) l).map QI).flatten⟩),?_,?_,⟨hi,?_,rfl⟩,by simp only;omega⟩
  ·have hbv2:QH 5 (some ⟨b.blk,((plN (i+1) l).map QI).flatten⟩)= .slice (.own b.blk) 0 l.length (.grow 5):=by
    show AVal.slice (.own b.blk) 0 (((plN (i+1) l).map QI).flatten.length / 5) (.grow 5)=_
    rw[ZF (es:=5) Xn,Jp,qge,Vo _ (by decide)]
   simp only;rw[hbv2];rfl
  ·show Sub ((h.set b.blk ⟨((plN (i+1) l).map QI).flatten,0⟩)) ((h.set b.blk ⟨b.cells,0⟩).set b.blk ⟨((plN (i+1) l).map QI).flatten,0⟩)
   rw[Vi];exact Vm _
  ·refine⟨g2.1,?_,?_⟩
   ·simp only
    rw[ZF (es:=5) Xn,Nat.mul_mod_left]
   ·exact WJ _
 ·try simp only[decide_eq_false_iff_not]at hb1
  have hil:i=l.length:=by omega
  rw[hil,qzs]at g3;refine XE ?_;change Awp _ _ _ _ _ _ _;refine awp_rseq [2] (by rfl) fun K hK=>?_;simp+decide only[qa,ev,putD,VO,VQ,VP,Ka,Kb,↓qg,qc,↓qd,qb];apply hK;clear hK K;refine qL ?_;refine QD (qN (Qc)) ?_;simp+decide only[VQ,if_true,Qs];exact⟨Ql h tb,Vm _,tb,rfl,g2,g3,rfl⟩
end Go.Proofs.YtlhhaagmakhilaaGreatDoor
namespace Go.AM
open Go.RowKit (Below)
section
variable {P:Program} {wz:World} {n:FrameK} {g₀:AHeap}
def qbr(P:Program)(wz:World)(l:List Oper)(g₀:AHeap):List Oper->Nat->List Nat->Slots->AHeap->(Slots->AHeap->Prop)->Prop
 |[],_,_,s,h,K=>K s h
 |o::r,0,_,s,h,K=>QO P wz l [o] s h fun s' h'=>Sub g₀ h'/\qbr P wz l g₀ r 0 [] s' h' K
 |o::r,m+1,1::bs,s,h,K=>∃V,(∀g,Sub h g->QO P wz l [o] s g fun s' h'=>s'=putD s o.dst V/\h'=g)/\qbr P wz l g₀ r m bs (putD s o.dst V) h K
 |o::r,m+1,2::bs,s,h,K=>QO P wz l [o] s g₀ fun s' _=>qbr P wz l g₀ r m bs s' h K
 |o::r,m+1,bs,s,h,K=>QO P wz l [o] s h fun s' h'=>Sub h h'/\qbr P wz l g₀ r m (bs.drop 1) s' h' K
theorem qpw{l:List Oper}{m:Nat}{bs:List Nat}{s:Slots}{h:AHeap}{K:Slots->AHeap->Prop}:qbr P wz l g₀ [] m bs s h K=K s h:=by cases m<;>rfl
theorem qmL{l:List Oper}{m:Nat}{bs:List Nat}{o:Oper}{r:List Oper}{s:Slots}{h:AHeap}{K:Slots->AHeap->Prop}:qbr P wz l g₀ (o::r) (m+1) (0::bs) s h K=QO P wz l [o] s h fun s' h'=>Sub h h'/\qbr P wz l g₀ r m bs s' h' K:=rfl
theorem qmJ{l:List Oper}{bs:List Nat}{o:Oper}{r:List Oper}{s:Slots}{h:AHeap}{K:Slots->AHeap->Prop}:qbr P wz l g₀ (o::r) 0 bs s h K=QO P wz l [o] s h fun s' h'=>Sub g₀ h'/\qbr P wz l g₀ r 0 [] s' h' K:=rfl
theorem quA{l:List Oper}{m:Nat}{bs:List Nat}{o:Oper}{r:List Oper}{s:Slots}{h:AHeap}{K:Slots->AHeap->Prop}{V:AVal}(hc:∀g,Sub h g->QO P wz l [o] s g fun s' h'=>s'=putD s o.dst V/\h'=g)(hk:qbr P wz l g₀ r m bs (putD s o.dst V) h K):qbr P wz l g₀ (o::r) (m+1) (1::bs) s h K:=⟨V,hc,hk⟩
theorem quz{l:List Oper}{m:Nat}{bs:List Nat}{o:Oper}{r:List Oper}{s:Slots}{h:AHeap}{K:Slots->AHeap->Prop}:qbr P wz l g₀ (o::r) (m+1) (2::bs) s h K=QO P wz l [o] s g₀ fun s' _=>qbr P wz l g₀ r m bs s' h K:=rfl
theorem qmK{l:List Oper}{m:Nat}{bs:List Nat}(h1:bs.getD 0 0≠1)(h2:bs.getD 0 0≠2){o:Oper}{r:List Oper}{s:Slots}{h:AHeap}{K:Slots->AHeap->Prop}(hj:qbr P wz l g₀ (o::r) (m+1) bs s h K):QO P wz l [o] s h fun s' h'=>Sub h h'/\qbr P wz l g₀ r m (bs.drop 1) s' h' K:=by
 match bs,h1,h2,hj with
 |[],_,_,hj=>exact hj
 |0::bs,_,_,hj=>exact hj
 |1::bs,h1,_,_=>exact absurd rfl h1
 |2::bs,_,h2,_=>exact absurd rfl h2
 |(k+3)::bs,_,_,hj=>exact hj
theorem qrT{l:List Oper}{m:Nat}{bs:List Nat}(hb:bs.getD 0 0=1){o:Oper}{r:List Oper}{s:Slots}{h:AHeap}{K:Slots->AHeap->Prop}(hj:qbr P wz l g₀ (o::r) (m+1) bs s h K):∃V,(∀g,Sub h g->QO P wz l [o] s g fun s' h'=>s'=putD s o.dst V/\h'=g)/\qbr P wz l g₀ r m (bs.drop 1) (putD s o.dst V) h K:=by
 match bs,hb,hj with
 |[],hb,_=>simp at hb
 |1::bs,_,hj=>exact hj
 |0::bs,hb,_=>simp at hb
 |(k+2)::bs,hb,_=>simp at hb
theorem qrS{l:List Oper}{m:Nat}{bs:List Nat}(hb:bs.getD 0 0=2){o:Oper}{r:List Oper}{s:Slots}{h:AHeap}{K:Slots->AHeap->Prop}(hj:qbr P wz l g₀ (o::r) (m+1) bs s h K):QO P wz l [o] s g₀ fun s' _=>qbr P wz l g₀ r m (bs.drop 1) s' h K:=by
 match bs,hb,hj with
 |[],hb,_=>simp at hb
 |2::bs,_,hj=>exact hj
 |0::bs,hb,_=>simp at hb
 |1::bs,hb,_=>simp at hb
 |(k+3)::bs,hb,_=>simp at hb
theorem qrR{l:List Oper}{bs bs':List Nat}{r:List Oper}{s:Slots}{h:AHeap}{K:Slots->AHeap->Prop}:qbr P wz l g₀ r 0 bs s h K=qbr P wz l g₀ r 0 bs' s h K:=by cases r<;>rfl
def isL(P:Program)(l:List Oper)(π:List Nat)(fl:List Nat)(m q:Nat):Bool:=decide (q<m) && (fl.getD q 0==1||isF P l (π.getD q 0))
def qrY(P:Program)(l:List Oper)(π:List Nat)(fl:List Nat)(ws:List (Option Nat))(m:Nat):Bool:=
 Uo l && ((KP m).all fun q=> !(fl.getD q 0==2)||isF P l (π.getD q 0)) && (π.all fun i=>decide (i<l.length)) && ((KP l.length).all fun i=>π.contains i) &&
 ((KP π.length).all fun q=>(KP π.length).all fun r=>decide (q=r)|| !(π.getD q 0==π.getD r 0)) &&
 ((KP π.length).all fun q=>match ws.getD q none with
   |none=>(KP q).all fun c=>isL P l π fl m c
   |some r=>decide (r<q) && Region.waitsFor .any l.toArray (π.getD q 0) (π.getD r 0) && (KP q).all fun c=>decide (c<=r)||isL P l π fl m c) &&
 ((KP π.length).all fun q=>match l[π.getD q 0]? with
   |none=>true
   |some o=>(KP π.length).all fun r=>match l[π.getD r 0]? with
    |none=>true
    |some oj=>(match oj.dst with
     |none=>true
     |some t=> !(QS l o).contains t||(decide (q<r) && decide (m<=r) && !(fl.getD q 0==2))||(decide (r<q) && Region.waitsFor .any l.toArray (π.getD q 0) (π.getD r 0)))) &&
 decide (m<=π.length) && ((KP π.length).all fun q=>decide (q<m)|| !isL P l π fl m q) &&
 (decide (m=π.length)||(KP m).all fun q=>(fl.getD q 0==2)||(KP (m+1)).any fun r=>decide (q<r) && (decide (r=m)|| !(fl.getD r 0==2)) && Region.waitsFor .any l.toArray (π.getD r 0) (π.getD q 0))
structure FloatL(P:Program)(l:List Oper)(π:List Nat)(fl:List Nat)(m:Nat):Prop where
 order:Uo l=true
 lateF:∀q,q<m->fl.getD q 0=2->isF P l (π.getD q 0)=true
 inr:∀q,q<π.length->π.getD q 0<l.length
 onto:∀i,i<l.length->∃q,q<π.length/\π.getD q 0=i
 inj:∀q r,q<π.length->r<π.length->π.getD q 0=π.getD r 0->q=r
 wait:∀q c,q<π.length->c<q->isL P l π fl m c=false->∃r,c<=r/\r<q/\Region.waitsFor .any l.toArray (π.getD q 0) (π.getD r 0)=true
 data:∀q r o oj t,q<π.length->r<π.length->l[π.getD q 0]?=some o->l[π.getD r 0]?=some oj->oj.dst=some t->t∈QS l o->(q<r/\m<=r/\fl.getD q 0≠2)\/(r<q/\Region.waitsFor .any l.toArray (π.getD q 0) (π.getD r 0)=true)
 mle:m<=π.length
 tail:∀q,m<=q->q<π.length->isL P l π fl m q=false
 sink:m<π.length->∀q,q<m->fl.getD q 0≠2->∃r,q<r/\r<=m/\(r=m\/fl.getD r 0≠2)/\Region.waitsFor .any l.toArray (π.getD r 0) (π.getD q 0)=true
theorem qpA{l:List Oper}{π:List Nat}{fl:List Nat}{ws:List (Option Nat)}{m:Nat}(h:qrY P l π fl ws m=true):FloatL P l π fl m:=by
 unfold qrY at h;simp only[Ky]at h;obtain⟨⟨⟨⟨⟨⟨⟨⟨⟨h1,hL⟩,h2⟩,h3⟩,h4⟩,h5⟩,h6⟩,h7⟩,h8⟩,h9⟩:=h;simp only[JD,JE]at hL h2 h3 h4 h5 h6 h8;refine⟨h1,fun q hq e=>by
  have z:=hL q hq;rw[JW]at z;rcases z with z|z
  ·rw[e]at z;simp at z
  ·exact z,fun q hq=>?_,fun i hi=>?_,fun q r hq hr e=>?_,fun q c hq hc hf=>?_,fun q r o oj t hq hr ho hoj hd ht=>?_,by simpa using h7,fun q hm hq=>?_,fun hm q hq hq2=>?_⟩
 ·have:=h2 (π.getD q 0) (by rw[Ko,JA hq];exact VJ hq)
  simpa using this
 ·have:=h3 i hi
  rw[JX]at this;obtain⟨q,hq,e⟩:=List.getElem_of_mem this;exact⟨q,hq,by rw[Ko,JA hq];exact e⟩
 ·have:=h4 q hq r hr
  rw[JW,decide_eq_true_eq]at this;rcases this with e'|e'
  ·exact e'
  ·rw[e]at e';simp at e'
 ·have:=h5 q hq
  split at this
  ·rw[JD]at this
   rw[this c (JE.2 hc)]at hf;cases hf
  ·rename_i r _
   simp only[Ky,decide_eq_true_eq,JD,JE,JW]at this;obtain⟨⟨t1,t2⟩,t3⟩:=this;rcases t3 c hc with e|e
   ·exact⟨r,e,t1,t2⟩
   ·rw[e]at hf;cases hf
 ·have:=h6 q hq
  rw[ho]at this;simp only[JD,JE]at this;have:=this r hr;rw[hoj]at this;simp only[hd,JW,Ky,decide_eq_true_eq,Jj]at this;rcases this with(e|e)|e
  ·have hm:(QS l o).contains t=true:=by simpa using ht
   rw[hm]at e;cases e
  ·exact .inl ⟨e.1.1,e.1.2,by simpa using e.2⟩
  ·exact .inr e
 ·have:=h8 q hq
  simp only[JW,decide_eq_true_eq,Jj]at this;rcases this with e|e
  ·omega
  ·exact e
 ·rw[JW,decide_eq_true_eq]at h9
  rcases h9 with e|e
  ·omega
  ·rw[JD]at e
   have:=e q (JE.2 hq);rw[JW]at this;rcases this with this|this
   ·exact absurd (by simpa using this) hq2
   rw[JY]at this;obtain⟨r,hr,hw⟩:=this;rw[JE]at hr;simp only[Ky,JW,decide_eq_true_eq]at hw;exact⟨r,hw.1.1,by omega,hw.1.2.imp id (fun z=>by simpa using z),hw.2⟩
theorem qrj{l:List Oper}(hall:Xl n l=true){π:List Nat}{fl:List Nat}{m:Nat}(F:FloatL P l π fl m){K:Slots->AHeap->Prop}{g:AHeap}(hg₀:Sub g₀ g):∀(d p:Nat) (S:Slots),π.length-p=d->p<=π.length->qbr P wz l g₀ ((Zy l π).drop p) (m-p) (fl.drop p) S g K->
 ∃p' S',p<=p'/\p'<=π.length/\(p'<π.length->isL P l π fl m p'=false)/\(∀q,p<=q->q<p'->isL P l π fl m q=true)/\qbr P wz l g₀ ((Zy l π).drop p') (m-p') (fl.drop p') S' g K/\
  (∀q o,p<=q->q<p'->l[π.getD q 0]?=some o->∃V,(∀t,o.dst=some t->S'.get t=V)/\FactC P wz n l g S' o V/\(fl.getD q 0=2->FactC P wz n l g₀ S' o V))/\
  (∀t,(∀q o,p<=q->q<p'->l[π.getD q 0]?=some o->o.dst≠some t)->S'.get t=S.get t):=by
 intro d;induction d with
 |zero=>
  intro p S hd hp ha;exact⟨p,S,KL _,hp,fun h=>by omega,fun q h1 h2=>by omega,ha,fun q o h1 h2=>by omega,fun t _=>rfl⟩
 |succ d ih=>
  intro p S hd hp ha;have hpl:p<π.length:=by omega
  cases hf:isL P l π fl m p with
  |false=>exact⟨p,S,KL _,hp,fun _=>hf,fun q h1 h2=>by omega,ha,fun q o h1 h2=>by omega,fun t _=>rfl⟩
  |true=>
   have hpm:p<m:=by
    refine JP fun h=>?_;rw[F.tail p h hpl]at hf;cases hf
   obtain⟨o,ho⟩:∃o,l[π.getD p 0]?=some o:=⟨_,JA (F.inr p hpl)⟩
   rw[ZZ F.inr hpl ho,show m-p=(m-(p+1))+1 by omega]at ha;have hfl:(fl.drop p).getD 0 0=fl.getD p 0:=by simp[Ko,Kq]
   have hfd:(fl.drop p).drop 1=fl.drop (p+1):=by rw[BP]
   obtain⟨V,hv,hfact,hfact₀⟩:∃V,qbr P wz l g₀ ((Zy l π).drop (p+1)) (m-(p+1)) (fl.drop (p+1)) (putD S o.dst V) g K/\FactC P wz n l g S o V/\(fl.getD p 0=2->FactC P wz n l g₀ S o V):=by
    by_cases hb2:fl.getD p 0=2
    ·have ha:=qrS (by rw[hfl,hb2]) ha
     rw[hfd]at ha;have hk2:ZW P o.op=2:=by
      have:=F.lateF p hpm hb2;unfold isF at this;rw[ho]at this;simpa using this
     obtain⟨V,hv,hfact⟩:=qgm hall hk2 ha;exact⟨V,hv,hfact.toC.sub hg₀,fun _=>hfact.toC⟩
    ·by_cases hb1:fl.getD p 0=1
     ·obtain⟨V,h1,h2⟩:=qrT (by rw[hfl,hb1]) ha
      rw[hfd]at h2;exact⟨V,h2,qmZ hall h1,fun e=>absurd e hb2⟩
     ·have hk2:ZW P o.op=2:=by
       unfold isL isF at hf;rw[ho]at hf;simp only[Ky,JW,beq_iff_eq,hb1,false_or]at hf;simpa using hf.2
      have ha:=qmK (by rw[hfl];exact hb1) (by rw[hfl];exact hb2) ha;rw[hfd]at ha;obtain⟨V,⟨_,hv⟩,hfact⟩:=qgm hall hk2 ha;exact⟨V,hv,hfact.toC,fun e=>absurd e hb2⟩
   obtain⟨p',S',a1,a2,a3,a4,a5,a6,a7⟩:=ih (p+1) (putD S o.dst V) (by omega) (by omega) hv;have notlook:∀q oq t,p<=q->q<p'->l[π.getD q 0]?=some oq->oq.dst=some t->t∉QS l o:=fun q oq t h1 h2 h3 h4 ht=>by
    rcases F.data p q o oq t hpl (by omega) ho h3 h4 ht with⟨c1,c2,_⟩|⟨c1,_⟩
    ·have:=a4 q (by omega) h2
     rw[F.tail q c2 (by omega)]at this;cases this
    ·omega
   have uniq:∀q oq t,p<q->q<π.length->l[π.getD q 0]?=some oq->oq.dst=some t->o.dst≠some t:=fun q oq t h1 h2 h3 h4 e=>by
    have:=((XP F.order ho).2 _ oq t h3 h4).1 e;have:=F.inj p q hpl h2 this;omega
   refine⟨p',S',by omega,a2,a3,fun q h1 h2=>?_,a5,fun q oq h1 h2 hq=>?_,fun t ht=>?_⟩
   ·rcases JC h1 with e|e
    ·rw[<-e];exact hf
    ·exact a4 q e h2
   ·rcases JC h1 with e|e
    ·subst e
     rw[ho]at hq;obtain rfl:=Option.some.inj hq;have hsl:∀t∈QS l o,S'.get t=S.get t:=fun t ht=>by
      rw[a7 t fun q oq h3 h4 h5 h6=>notlook q oq t (by omega) (by omega) h5 h6 ht,Xv,if_neg fun e=>notlook p o t (KL _) (by omega) ho e ht]
     refine⟨V,fun t ht=>?_,hfact.slots hsl,fun e=>(hfact₀ e).slots hsl⟩;rw[a7 t fun q oq h3 h4 h5 h6=>uniq q oq t h3 (by omega) h5 h6 ht,Xv,if_pos ht]
    ·exact a6 q oq e h2 hq
   ·rw[a7 t fun q oq h3 h4 h5=>ht q oq (by omega) h4 h5,Xv,if_neg (ht p o (KL _) (by omega) ho)]
def qzb(P:Program)(wz:World)(n:FrameK)(g₀:AHeap)(l:List Oper)(π:List Nat)(fl:List Nat)(m:Nat)(K:Slots->AHeap->Prop)(listed:Array Bool)(Ps:PMap)(a:Act)(w:World):Prop:=
 listed.size=l.length/\(∀j oj,l[j]?=some oj->listed.getD j false=true->∀e∈oj.after,Region.binds .any e=true->listed.getD e.on false=true)/\a.tmps.size=n/\a.defers=n.dfr/\
 ∃p S g,p<=π.length/\(p<π.length->isL P l π fl m p=false)/\(∀q,p<=q->q<π.length->listed.getD (π.getD q 0) false=false)/\(∀q,q<p->isL P l π fl m q=false->listed.getD (π.getD q 0) false=true)/\
  (m<p->∀q,q<p->fl.getD q 0≠2->listed.getD (π.getD q 0) false=true)/\Sub g₀ g/\HRel wz Ps g w/\qbr P wz l g₀ ((Zy l π).drop p) (m-p) (fl.drop p) S g K/\
  (∀q o,q<p->l[π.getD q 0]?=some o->listed.getD (π.getD q 0) false=false->∃V,(∀t,o.dst=some t->S.get t=V)/\FactC P wz n l g S o V/\(fl.getD q 0=2->FactC P wz n l g₀ S o V))/\
  ∀t,(∃q o,q<p/\l[π.getD q 0]?=some o/\o.dst=some t/\listed.getD (π.getD q 0) false=false)\/VR Ps (S.get t) (a.tmps.getD t undef)
theorem qAs{l:List Oper}(hall:Xl n l=true){π:List Nat}{fl:List Nat}{m:Nat}(F:FloatL P l π fl m){K:Slots->AHeap->Prop}{fi:PMap}{Q:Exit->Act->World->Prop}
 (hq:∀Ps S g a w,fi.le Ps->HRel wz Ps g w->SRel Ps n S a->K S g->Q .normal a w):∀(fuel:Nat) (listed:Array Bool) (a:Act) (w:World) (Ps:PMap),fi.le Ps->qzb P wz n g₀ l π fl m K listed Ps a w->
 (listed.toList.filter (!·)).length<=fuel->wpAny P .any l.toArray Q fuel listed a w:=by
 have hB:=F.order;have fin:∀(listed:Array Bool) (a:Act) (w:World) (Ps:PMap),fi.le Ps->qzb P wz n g₀ l π fl m K listed Ps a w->Region.ready .any l.toArray listed=[]->Q .normal a w:=by
  rintro listed a w Ps hle ⟨i1,i2,i3,i4,p,S,g,p1,p2,p3,p4,p5,pg,p6,p7,p8,p9⟩ hrd;have hal:=qaK hB i1 hrd;have hp:p=π.length:=by
   rcases JC p1 with e|e
   ·exact e
   ·have:=p3 p (KL _) e
    rw[hal _ (F.inr p e)]at this;cases this
  subst hp;rw[show(Zy l π).drop π.length=[] by rw[<-qak F.inr];simp,qpw]at p7;refine hq Ps S g a w hle p6 ⟨i3,i4,fun t=>?_⟩ p7;rcases p9 t with⟨q,o,c1,c2,c3,c4⟩|c
  ·rw[hal _ (F.inr q c1)]at c4;cases c4
  ·exact c
 intro fuel;induction fuel with
 |zero=>
  intro listed a w Ps hle inv hc;have hrd:Region.ready .any l.toArray listed=[]:=by
   cases hrd:Region.ready .any l.toArray listed with
   |nil=>rfl
   |cons i r=>
    exfalso;have hm:i∈Region.ready .any l.toArray listed:=by rw[hrd];exact List.mem_cons_self
    obtain⟨h1,o,ho,_⟩:=mem_ready.1 hm;have hi:i<listed.size:=by
     have:l[i]?=some o:=by simpa using ho
     rw[inv.1];exact(JB.1 this).1
    have h2:listed.toList[i]?=some false:=by
     simp[JF,hi]at h1;simp[hi,h1]
    have:=J2 h2;have hmem:false∈listed.toList.filter (!·):=by simp[List.mem_filter,this]
    have:=List.length_pos_of_mem hmem;omega
  exact⟨hrd,fin listed a w Ps hle inv hrd⟩
 |succ fuel ih=>
  intro listed a w Ps hle inv hc;refine⟨fun hrd=>fin listed a w Ps hle inv hrd,fun i hi=>?_⟩;obtain⟨i1,i2,i3,i4,p,S,g,p1,p2,p3,p4,p5,pg,p6,p7,p8,p9⟩:=inv;obtain⟨h1,o,ho,hedges⟩:=mem_ready.1 hi;have hol:l[i]?=some o:=by simpa using ho
  have hilt:i<l.length:=(JB.1 hol).1;have hisz:i<listed.size:=by rw[i1];exact hilt
  have hif:listed.getD i false=false:=by simp[JF,hisz]at h1|-;exact h1
  have hcount:((listed.setIfInBounds i true).toList.filter (!·)).length<=fuel:=by
   have h2:listed.toList[i]?=some false:=by
    simp[JF,hisz]at h1;simp[hisz,h1]
   have:=qaM listed.toList i h2;have e:(listed.setIfInBounds i true).toList=listed.toList.set i true:=by simp
   rw[e];omega
  have hdn:∀d,o.dst=some d->d<n:=fun d hd=>qbT l i d hall (by rw[Yv,hol];exact hd);obtain⟨q,hql,hqi⟩:=F.onto i hilt;have hoq:l[π.getD q 0]?=some o:=by rw[hqi];exact hol
  have looks:LookOk Ps n l o S a:=⟨i3,i4,fun t ht=>by
   rcases p9 t with⟨r,oj,c1,c2,c3,c4⟩|c
   ·exfalso
    rcases F.data q r o oj t hql (by omega) hoq c2 c3 ht with⟨d1,d2,d3⟩|⟨_,this⟩
    ·have:=p5 (by omega) q (by omega) d3
     rw[hqi,hif]at this;cases this
    ·rw[hqi]at this
     rw[YZ hol hedges this]at c4;cases c4
   ·exact c⟩
  have closed':∀j oj,l[j]?=some oj->(listed.setIfInBounds i true).getD j false=true->∀e∈oj.after,Region.binds .any e=true->(listed.setIfInBounds i true).getD e.on false=true:=fun j oj hj hl e he hb=>by
   by_cases e1:e.on=i
   ·rw[e1];exact set_self hisz
   ·rw[XG e1]
    by_cases e2:j=i
    ·subst e2
     rw[hol]at hj;obtain rfl:=Option.some.inj hj;exact hedges e he hb
    ·rw[XG e2]at hl
     exact i2 j oj hj hl e he hb
  have other:∀r,r<π.length->r≠q->(listed.setIfInBounds i true).getD (π.getD r 0) false=listed.getD (π.getD r 0) false:=fun r hr hne=>XG fun e=>hne (F.inj r q hr hql (by rw[e,hqi]));have nobehind:p<q->False:=fun hpq=>by
   obtain⟨r,r1,r2,r3⟩:=F.wait q p hql hpq (p2 (by omega));rw[hqi]at r3;have:=YZ hol hedges r3;rw[p3 r r1 (by omega)]at this;cases this
  have goal:(if Region.wanted o (yielded l.toArray a.tmps)=true then o.wp P a w (wpAny P .any l.toArray Q fuel (listed.setIfInBounds i true)) Q else wpAny P .any l.toArray Q fuel (listed.setIfInBounds i true) (a.put o.dst undef) w):=by
   rcases KU q p with hqp|hqp
   ·
    obtain⟨V,v1,v2,-⟩:=p8 q o hqp hoq (by rw[hqi];exact hif);refine v2 Ps w a g _ Q (Vm g) p6 looks fun ψ₂ v wx hle₂ hr₂ hv=>?_;refine ih _ _ _ ψ₂ (J7 hle hle₂) ⟨by simp[i1],closed',by rw[WZ];exact i3,by rw[put_defers];exact i4,p,S,g,p1,p2,fun r r1 r2=>?_,fun r r1 r2=>?_,fun hm r r1 r2=>?_,pg,hr₂,p7,fun r oj r1 r2 r3=>?_,fun t=>?_⟩ hcount
    ·rw[other r r2 (by omega)];exact p3 r r1 r2
    ·by_cases e:r=q
     ·rw[e,hqi];exact set_self hisz
     ·rw[other r (by omega) e];exact p4 r r1 r2
    ·by_cases e:r=q
     ·rw[e,hqi];exact set_self hisz
     ·rw[other r (by omega) e];exact p5 hm r r1 r2
    ·by_cases e:r=q
     ·rw[e,hqi,set_self hisz]at r3;cases r3
     ·rw[other r (by omega) e]at r3
      exact p8 r oj r1 r2 r3
    ·by_cases hod:o.dst=some t
     ·right
      rw[v1 t hod,Yg a hod (by rw[i3];exact hdn t hod)];exact hv t hod
     ·rcases p9 t with⟨r,oj,c1,c2,c3,c4⟩|c
      ·refine .inl ⟨r,oj,c1,c2,c3,?_⟩
       rw[other r (by omega) fun e=>by subst e;rw[hoq]at c2;obtain rfl:=Option.some.inj c2;exact hod c3];exact c4
      ·right
       rw[Zo a hod];exact Ye hle₂ _ _ c
   ·have hqe:q=p:=by
     rcases JC hqp with e|e
     ·exact e.symm
     ·exact(nobehind e).elim
    subst hqe;have all_m:m<=q->∀r,r<q->fl.getD r 0≠2->listed.getD (π.getD r 0) false=true:=fun hm r hr hr2=>by
     rcases JC hm with e|e
     ·subst e
      have key:∀d r,r+d=m->r<m->fl.getD r 0≠2->listed.getD (π.getD r 0) false=true:=by
       intro d;induction d using Nat.strongRecOn with
       |ind d ihd=>
        intro r hd hr hr2;obtain⟨r',s1,s2,s4,s3⟩:=F.sink hql r hr hr2;rcases JC s2 with e|e
        ·subst e
         rw[hqi]at s3;exact YZ hol hedges s3
        ·have hl:=ihd (m-r') (by omega) r' (by omega) e (s4.resolve_left (by omega))
         obtain⟨oj,hoj⟩:∃oj,l[π.getD r' 0]?=some oj:=⟨_,JA (F.inr r' (by omega))⟩
         exact YZ hoj (i2 _ oj hoj hl) s3
      exact key (m-r) r (by omega) hr hr2
     ·exact p5 e r hr hr2
    obtain⟨K',ha,hnext⟩:∃K':Slots->AHeap->Prop,QO P wz l [o] S g K'/\∀s' h',K' s' h'->(q<m->Sub g h')/\Sub g₀ h'/\qbr P wz l g₀ ((Zy l π).drop (q+1)) (m-(q+1)) (fl.drop (q+1)) s' h' K:=by
     rw[ZZ F.inr hql hoq]at p7;have hfl:(fl.drop q).getD 0 0=fl.getD q 0:=by simp[Ko,Kq]
     have hfd:(fl.drop q).drop 1=fl.drop (q+1):=by rw[BP]
     by_cases c:q<m
     ·have hfb:fl.getD q 0≠1/\fl.getD q 0≠2:=by
       have:=p2 hql;unfold isL at this;rw[decide_eq_true c,Vg,VT]at this;refine⟨by simpa using this.1,fun e=>?_⟩;rw[F.lateF q c e]at this;cases this.2
      rw[show m-q=(m-(q+1))+1 by omega]at p7;have p7:=qmK (by rw[hfl];exact hfb.1) (by rw[hfl];exact hfb.2) p7;rw[hfd]at p7;exact⟨_,p7,fun s' h' hx=>⟨fun _=>hx.1,pg.trans hx.1,hx.2⟩⟩
     ·rw[show m-q=0 by omega,qmJ]at p7
      refine⟨_,p7,fun s' h' hx=>⟨fun hc=>absurd hc c,hx.1,?_⟩⟩;rw[show m-(q+1)=0 by omega,qrR (bs':=[])];exact hx.2
    refine qfr hall ha p6 looks fun ψ' x h' v w' e1 e2 e3 hk=>?_;obtain⟨k1,kg,k2⟩:=hnext _ _ hk;obtain⟨p',S',a1,a2,a3,a4,a5,a6,a7⟩:=qrj hall F kg (π.length-(q+1)) (q+1) (putD S o.dst x) rfl (by omega) k2;have keep:∀r or t,r<q->l[π.getD r 0]?=some or->listed.getD (π.getD r 0) false=false->(or.dst=some t\/t∈QS l or)->S'.get t=S.get t:=fun r or t hr hor hun ht=>by
     have nd:∀u ou,q<=u->u<max p' (q+1)->u<π.length->l[π.getD u 0]?=some ou->ou.dst≠some t:=fun u ou h1 hup h2 h3 h4=>by
      rcases ht with ht|ht
      ·have:=((XP hB hor).2 _ ou t h3 h4).1 ht
       have:=F.inj r u (by omega) h2 this;omega
      ·rcases F.data r u or ou t (by omega) h2 hor h3 h4 ht with⟨c1,c2,c3⟩|⟨c1,_⟩
       ·rcases JC h1 with e|e
        ·subst e
         rw[all_m c2 r hr c3]at hun;cases hun
        ·have:=a4 u e (by omega)
         rw[F.tail u c2 h2]at this;cases this
       ·omega
     rw[a7 t fun u ou h1 h2 h3=>nd u ou (by omega) (by omega) (by omega) h3,Xv,if_neg (nd q o (KL _) (by omega) hql hoq)]
    refine ih _ _ _ ψ' (J7 hle e1) ⟨by simp[i1],closed',by rw[WZ];exact i3,by rw[put_defers];exact i4,p',S',h',a2,a3,fun r r1 r2=>?_,fun r r1 r2=>?_,fun hm r r1 rl=>?_,kg,e2,a5,fun r oj r1 r2 r3=>?_,fun t=>?_⟩ hcount
    ·rw[other r r2 (by omega)];exact p3 r (by omega) r2
    ·by_cases e:r=q
     ·rw[e,hqi];exact set_self hisz
     ·rw[other r (by omega) e]
      rcases KU r q with c|c
      ·exact p4 r c r2
      ·rw[a4 r (by omega) r1]at r2;cases r2
    ·have hmq:m<=q:=by
      refine Nat.le_of_not_lt fun hc=>?_;have hmp:m<π.length:=by omega
      have:=a4 m (by omega) hm;rw[F.tail m (KL _) hmp]at this;cases this
     by_cases e:r=q
     ·rw[e,hqi];exact set_self hisz
     ·rw[other r (by omega) e]
      rcases KU r q with c|c
      ·exact all_m hmq r c rl
      ·have:=a4 r (by omega) r1
       rw[F.tail r (by omega) (by omega)]at this;cases this
    ·by_cases e:r=q
     ·rw[e,hqi,set_self hisz]at r3;cases r3
     ·rw[other r (by omega) e]at r3
      rcases KU r q with c|c
      ·obtain⟨V,v1,v2,v3⟩:=p8 r oj c r2 r3
       have hsl:∀t∈QS l oj,S'.get t=S.get t:=fun t ht=>keep r oj t c r2 r3 (.inr ht);refine⟨V,fun t ht=>(keep r oj t c r2 r3 (.inl ht)).trans (v1 t ht),?_,fun e=>(v3 e).slots hsl⟩;by_cases e2:fl.getD r 0=2
       ·exact((v3 e2).sub kg).slots hsl
       ·have hqm:q<m:=by
         refine JP fun hm=>?_;rw[all_m hm r c e2]at r3;cases r3
        exact(v2.sub (k1 hqm)).slots hsl
      ·exact a6 r oj (by omega) r1 r2
    ·by_cases hod:o.dst=some t
     ·right
      rw[a7 t fun u ou h1 h2 h3 h4=>by
       have:=((XP hB hoq).2 _ ou t h3 h4).1 hod;have:=F.inj q u hql (by omega) this;omega,Xv,if_pos hod,Yg a hod (by rw[i3];exact hdn t hod)]
      exact e3
     ·by_cases hw:∃r or,q+1<=r/\r<p'/\l[π.getD r 0]?=some or/\or.dst=some t
      ·obtain⟨r,or,w1,w2,w3,w4⟩:=hw
       exact .inl ⟨r,or,w2,w3,w4,by rw[other r (by omega) (by omega)];exact p3 r (by omega) (by omega)⟩
      ·have hS:S'.get t=S.get t:=by
        rw[a7 t fun u ou h1 h2 h3 h4=>hw ⟨u,ou,h1,h2,h3,h4⟩,Xv,if_neg hod]
       rcases p9 t with⟨r,oj,c1,c2,c3,c4⟩|c
       ·exact .inl ⟨r,oj,by omega,c2,c3,by rw[other r (by omega) (by omega)];exact c4⟩
       ·right
        rw[hS,Zo a hod];exact Ye e1 _ _ c
  simp only[wpOp,ho];split
  ·rename_i hw
   rw[if_pos hw]at goal;exact .inl goal
  ·rename_i hw
   rw[if_neg hw]at goal;exact goal
theorem qsM{Q:Exit->Slots->AHeap->Prop}{s:Slots}{h:AHeap}{id:Nat}{l:List Oper}(π:List Nat)(fl:List Nat)(ws:List (Option Nat))(m:Nat)(g₀:AHeap)(hm:P.follows .mixedOrders=true)(hB:qrY P l π fl ws m=true)(hd:Xl n l=true)(hg₀:Sub g₀ h)
 (hc:qbr P wz l g₀ (Zy l π) m fl s h fun s' h'=>Q .normal s' h'):Awp P wz n (.region id l.toArray true) Q s h:=by
 refine Awp.of0 ?_;intro fi a w hr hs;have F:=qpA hB;refine wp_region_any hm ?_;have hf:∀j,(Jy l.toArray.size false).getD j false=false:=fun j=>by simp[JF]
 obtain⟨p',S',a1,a2,a3,a4,a5,a6,a7⟩:=qrj hd F hg₀ π.length 0 s rfl (Jt _) (by rw[Nat.sub_zero,KQ];exact hc);refine qAs (fi:=fi) hd F (K:=fun s' h'=>Q .normal s' h') (fun Ps S g a' w' hle h1 h2 h3=>⟨Ps,S,g,hle,h1,h2,h3⟩) _ _ _ _ fi fi.le_refl
  ⟨by simp,fun j oj _ hl=>(by rw[hf]at hl;cases hl),hs.size,hs.defers,p',S',h,a2,a3,fun r _ _=>hf _,fun r r1 r2=>?_,fun hm' r r1 _=>?_,hg₀,hr.drew,a5,fun r oj r1 r2 _=>a6 r oj (Jt _) r1 r2,fun t=>?_⟩ ?_
 ·rw[a4 r (Jt _) r1]at r2;cases r2
 ·have:=a4 m (Jt _) hm'
  rw[F.tail m (KL _) (by omega)]at this;cases this
 ·by_cases hw:∃r or,r<p'/\l[π.getD r 0]?=some or/\or.dst=some t
  ·obtain⟨r,or,w2,w3,w4⟩:=hw
   exact .inl ⟨r,or,w2,w3,w4,hf _⟩
  ·right
   rw[a7 t fun u ou _ h2 h3 h4=>hw ⟨u,ou,h2,h3,h4⟩];exact hs.val t
 ·have:=List.length_filter_le (!·) (Jy l.toArray.size false).toList
  simpa using this
end
end Go.AM
namespace Go.Proofs.YtlhhaagmakhilaaGreatDoor
open Go.AM
open Go.Proofs
open Go.Col (Str FaultC okF sp)
open Go.Tok
open Go.Cop
open Go.RowKit (Below)
set_option maxRecDepth 100000
structure OfB(wz:World)(B:AHeap)(kp ka kr:Nat)(rs:List AVal):Prop where
 per:B kp=some ⟨QI qnK,0⟩
 pla:B ka=some ⟨(plainC.map QI).flatten,0⟩
 row:B kr=some ⟨rs,0⟩
 prs:∀i,i<6->IsL wz B 5 (rs.getD i .dead) ((pairsC.getD i []).map QI)
structure Of1(B:AHeap)(x:List UInt8)(g:Nat×Option Buf):Prop where
 i:g.1<=x.length
 i2:g.1<=60
 ok:bufOk B 5 g.2
 eq:Yh g.2=((XI ((x.take g.1).map EJ)).map QI).flatten
theorem qvS{x:List UInt8}{i:Nat}(hi:i<x.length):XI ((x.take (i+1)).map EJ)=XI ((x.take i).map EJ)++XN (x.getD i 0).toNat:=by
 rw[VL,JA hi,Bd,qcz];simp[Ko,hi,XI]
theorem qzn{x:List UInt8}{i:Nat}(hi:i<=60)(h:i=60\/x.length<=i):XI ((x.take i).map EJ)=XI (qcE x):=by
 unfold qcE;rcases h with h|h
 ·rw[h]
 ·rw[Jr h,Jr (V7 h hi)]
theorem qte(x:List UInt8){i:Nat}(hi:i<=60):(XI ((x.take i).map EJ)).length<=840:=by
 have h:=(qcm (ns:=(x.take i).map EJ) (fun n hn=>by obtain⟨b,-,rfl⟩:=JH.1 hn;exact b.toNat_lt)).2;rw[Jp,K5]at h;omega
theorem qsh:∀i:Fin 8,(([48,49,50,51,52,53,54,55]:Str).drop i.val).take (i.val+1-i.val)=[KD (48+i.val)]:=by decide
theorem qiW{n:Nat}(h:n<160):XN n=[plainC.getD (n%8) Zi]:=by
 unfold XN;rw[if_pos h,Ue plainC noT Zi (by show n%8<8;omega)]
theorem qiE:∀i:Fin 6,(pairsC.getD i.val []).length<=10:=by decide
set_option maxHeartbeats 8000000 in
theorem qwp(wz:World)(h B:AHeap)(hBs:Sub h B)(v:AVal)(x:List UInt8)(hv:IsL wz h 1 v (x.map qdE))(hl:x.length<=9223372036854775807)(kp ka kr:Nat)(rs:List AVal)(hB:OfB wz B kp ka kr rs):
 Awp Tryz.prog wz 178 (UL 6 (qeB Tryz.f10)) (qeg Tryz.prog wz [.tmp 2] (fun r h'=>∃tb,r=QH 5 tb/\bufOk h 5 tb/\Yh tb=((lOf x).map QI).flatten/\h'=Ql h tb)) [(0,v),(3, .func 27 []),(4, .ptr (.own kp) 0),(6, .slice (.own ka) 0 8 (.exact 8)),(7, .slice (.own kr) 0 6 (.exact 6))] (B):=by
 have hlv:=hv.live;have hlen:=hv.len Tryz.underlying23;rw[Jp]at hlen;obtain⟨b1,b2,b3,b4⟩:=hB;change Awp _ _ _ (Code.seq _ _) _ _ _;refine awp_rseq [0,3,4,6,7,8] (by rfl) fun K hK=>?_;simp+decide only[qa,ev,qH,qG,putD,VO,VP,Ka,Kb,↓qd,qb];apply hK;clear hK K;refine qJ ?_;refine awp_rseq [0,3,4,6,7,8,9] (by rfl) fun K hK=>?_;simp+decide only[qa,ev,qH,qG,putD,VO,VP,Ka,Kb,↓qd,qb];apply hK;clear hK K;refine Qm ?_;refine XC [0,3,4,6,7,8,9] (fun g:Nat×Option Buf=>[(0,v),(3, .func 27 []),(4, .ptr (.own kp) 0),(6, .slice (.own ka) 0 8 (.exact 8)),(7, .slice (.own kr) 0 6 (.exact 6)),(8,QH 5 g.2),(9, .int .i64 g.1)]) (fun g:Nat×Option Buf=>Ql B g.2) (fun g:Nat×Option Buf=>Of1 B x g) (fun g:Nat×Option Buf=>60-g.1) (0,none) (by rfl) (Vm _) ⟨Jt _,Jt _,trivial,rfl⟩ ?_;rintro⟨i,tb⟩ ⟨g1,g4,g2,g3⟩;simp only at g1 g2 g3 g4|-
 have hbl:=QP 5 tb;have hSb:Sub h (Ql B tb):=hBs.trans (BJ g2);refine qJ ?_;refine awp_rseq [0,3,4,6,7,8,9,106] (by rfl) fun K hK=>?_;simp+decide only[qa,ev,qH,qG,putD,VO,VQ,VP,Ka,Kb,↓qg,qc,↓Xe,Qw,↓qw,qm,qR,cond_false,qo,XZ,↓Xf,agP,Qv,qM,qK,qC,implies_true,↓Xd,qA,Zv,Zw,↓QW,Qz,Qk,Xp,Xy,hlen];apply hK;clear hK K;refine qI (b:=_) rfl (fun hb1=>?_) (fun hb1=>?_)
 ·try simp only[decide_eq_true_eq,Ky]at hb1
  have hi:i<x.length:=by omega
  have hi2:i<60:=by omega
  obtain⟨lc,o,cp,e⟩:=hv.open (fun e=>by rw[VW]at e;subst e;simp at hi);rw[Jp]at e;subst e;have he:=(hv.mono hSb).elem (i:=i) (by rw[Jp];exact hi);rw[getD_map 0 hi,BK]at he;simp only[qf,qdE,List.cons.injEq,and_true]at he;obtain⟨n,hn⟩:∃n,n=(x.getD i 0).toNat:=⟨_,rfl⟩
  have hn8:n<256:=by rw[hn];exact UInt8.toNat_lt _
  have hst:=qvS hi;obtain⟨l,hl0⟩:∃l,l=XI ((x.take i).map EJ):=⟨_,rfl⟩
  have hll:l.length<=840:=by rw[hl0];exact qte x (by omega)
  rw[<-hl0,<-hn]at hst;rw[<-hl0]at g3;rw[<-hn]at he;have m8:EH (n:Int) 8=((n%8:Nat):Int):=by rw[EI (by omega)];omega
  have m6:EH (n:Int) 6=((n%6:Nat):Int):=by rw[EI (by omega)];omega
  have hP:IsL wz (Ql B tb) 5 (.slice (.own ka) 0 plainC.length (.exact 8)) (plainC.map QI):=Ba (ZY g2 b2) Xn rfl rfl (.exact 8) (KL _);obtain⟨t,ht⟩:∃t,t=plainC.getD (n%8) Zi:=⟨_,rfl⟩
  obtain⟨p0,p1,p2,p3,p4⟩:=YP hP (i:=n%8) (by show n%8<8;omega);rw[<-ht]at p0 p1 p2 p3 p4;rw[Js]at p0 p1 p2 p3 p4;have p2':rd wz (Ql B tb) (.own ka) (n%8*5+1+1)= .int .i64 t.line:=p2;have p3':rd wz (Ql B tb) (.own ka) (n%8*5+1+1+1)= .int .i64 t.col:=p3;have p4':rd wz (Ql B tb) (.own ka) (n%8*5+1+1+1+1)= .bool t.left:=p4;have hcut:=qsh ⟨n%8,by omega⟩;simp only at hcut;have hcut1:List.take ((((n%8:Nat):Int)+1).toNat-n%8) (List.drop (n%8) ([48,49,50,51,52,53,54,55]:Str))=[KD (48+n%8)]:=by
   rw[show(((n%8:Nat):Int)+1).toNat=n%8+1 by omega];exact hcut
  obtain⟨nm,hnm⟩:∃nm,nm=qhI n:=⟨_,rfl⟩
  refine qP ?_;change Awp _ _ _ _ _ _ _;refine qJ ?_;refine Qm ?_;refine awp_rseq [0,3,4,6,7,8,9,10] (by rfl) fun K hK=>?_;simp+decide only[qa,ev,putD,VO,VQ,VP,Ka,Kb,↓qg,qc,↓QE,qY,qW Tryz.underlying23 sz5,↓qF,qz ag5,↓qlN _ _ _ (qBu Tryz.underlying5 Tryz.underlying3),qfl,qum Tryz.underlying5 Tryz.underlying3,↓qd,qb,qi,he,Vr,BK];try simp(disch:=omega)only[wrap_i64]
  repeat (with_reducible refine And.intro ?_ ?_;· first|trivial|omega|(intro hg;simp only[Ky,JW,Jj,VS,VT,VU,decide_eq_true_eq,decide_eq_false_iff_not,XY]at hg;omega)|(simp only[Jc,Jp,Ez,EA,K5,K6,KY,J9,EB,V6];omega))
  apply hK;clear hK K;refine qJ ?_;refine awp_rseq [0,3,4,6,7,8,9,10,115] (by rfl) fun K hK=>?_;simp+decide only[qa,ev,qH,qG,putD,VO,VQ,VP,Ka,Kb,↓qg,qc,↓qw,qm,qA,cond_false,qo,XZ];apply hK;clear hK K;refine qI (b:=_) rfl (fun hb2=>?_) (fun hb2=>?_)
  ·try simp only[decide_eq_true_eq]at hb2
   refine awp_rseq [0,3,4,6,7,8,9] (by rfl) fun K hK=>?_;simp+decide only[ev,qH,qG,putD,VO,VQ,Ka,Kb,↓qg,qc,↓qw,qm,qA,cond_false,qo,qkP,↓QE,qY,qW Tryz.underlying26 Xb,↓qF,qh ZB Xb,qf,Js,qD,qi,qE,allLive,JU,Vr,Js,p0,p1,p2',p3',p4',Js,m8,Vr];repeat (with_reducible refine And.intro ?_ ?_;· first|trivial|omega|(intro hg;simp only[Ky,JW,Jj,VS,VT,VU,decide_eq_true_eq,decide_eq_false_iff_not,XY]at hg;omega)|(simp only[Jc,Jp,Ez,EA,K5,K6,KY,J9,EB,V6];omega))
   refine Qr (cs:=QI (t)) (by kernel_rfl) fun k12q6 hk12q6=>?_;try have hf_12q6:h k12q6=none:=by first|assumption|(simp only[V9]at hk12q6;simp only[hk12q6])
   refine Xt (es:=5) (zs:=(l).map QI) (xs:=[t].map QI) (hZ:=B) (b:=tb) (by rfl) (by rfl) Tryz.underlying26 Tryz.underlying26 (fun k e=>by cases e) Xb qha qat (by rfl) (by decide) (by rfl) g2 g3 Xn (Vh (by assumption)) (by rfl) (Ba (Ve _ _ _) (by simp[QI]) (by rfl) (by rfl) (.exact 1) (KL _)) (by rfl) (by simp;omega) (by simp;omega) fun tb2 htb2 o1tb2 o2tb2 o3tb2=>?_;simp+decide only[qa,ev,putD,VO,VQ,VP,Ka,Kb,↓qd,qb];apply hK;clear hK K;refine XE ?_;change Awp _ _ _ _ _ _ _;refine XW [0,3,4,6,7,8,9] (by rfl) ?_;simp+decide only[qa,ev,qH,qG,putD,VO,VQ,VP,Ka,Kb,↓qg,qc,↓qw,qm,qA,cond_false,qo,Xa,↓qd,qb];try simp(disch:=omega)only[wrap_i64]
   try simp only[Qj]
   first
   |exact⟨(i+1,tb2),rfl,o3tb2,⟨hi,hi2,o1tb2,by simp only;rw[o2tb2,hst,qiW (by omega),ht];simp⟩,by simp only;omega⟩
   |exact⟨(i+1,tb6),rfl,o3tb6,⟨hi,hi2,o1tb6,by simp only;rw[o2tb6,hst,hck (by omega),if_neg (by omega)];simp⟩,by simp only;omega⟩
   |exact⟨(i+1,tj),rfl,Vm _,⟨hi,hi2,z1,by simp only;rw[hst,hck (by omega),if_pos (by omega),Bg];exact z2⟩,by simp only;omega⟩
  ·try simp only[decide_eq_false_iff_not]at hb2
   refine qP ?_;change Awp _ _ _ _ _ _ _;refine awp_rseq [0,3,4,6,7,8,9,10,11] (by rfl) fun K hK=>?_;simp+decide only[ev,qH,qG,putD,VO,VQ,Ka,Kb,↓qg,qc,↓qw,qm,qA,cond_false,qo,qkP,Xa,m8];try simp(disch:=omega)only[wrap_i64]
   try simp+decide only[qa,ev,qH,qG,putD,VO,VQ,VP,Ka,Kb,↓Wp,ZG,evO,qem Tryz.underlying9,qaU,qah,↓qw,qm,qR,cond_false,Zj,qfn,↓qd,qb,Vr,hcut1]
   repeat (with_reducible refine And.intro ?_ ?_;· first|trivial|omega|(intro hg;simp only[Ky,JW,Jj,VS,VT,VU,decide_eq_true_eq,decide_eq_false_iff_not,XY]at hg;omega)|(simp only[KY,J9];omega))
   apply hK;clear hK K;refine qJ ?_;refine awp_rseq [0,3,4,6,7,8,9,10,11,132] (by rfl) fun K hK=>?_;simp+decide only[qa,ev,qH,qG,putD,VO,VQ,VP,Ka,Kb,↓qg,qc,↓qw,qm,qA,cond_false,qo,Za];apply hK;clear hK K;refine UH [0,3,4,6,7,8,9,10,11] (fun z:Unit=>[(0, .slice lc o x.length cp),(3, .func 27 []),(4, .ptr (.own kp) 0),(6, .slice (.own ka) 0 8 (.exact 8)),(7, .slice (.own kr) 0 6 (.exact 6)),(8,QH 5 tb),(9, .int .i64 i),(10, .int .i64 n),(11, .str nm)]) (fun z:Unit=>Ql B tb) (fun z:Unit=>True) ?_ ?_
   ·refine qI (b:=_) rfl (fun hb3=>?_) (fun hb3=>?_)
    ·try simp only[decide_eq_true_eq]at hb3
     have hN:nm=[77,57]:=by rw[hnm];unfold qhI;rw[if_pos (by omega)]
     refine XW [0,3,4,6,7,8,9,10,11] (by rfl) ?_;simp+decide only[qa,ev,qH,qG,putD,VO,VP,Ka,Kb,and_true,↓qd,qb];try simp only[Qj]
     first
     |exact⟨(),by rw[hN]<;>rfl,Vm _⟩
     |exact⟨(),by rw[hN,<-hcut1]<;>rfl,Vm _,trivial⟩
    ·try simp only[decide_eq_false_iff_not]at hb3
     have hN:nm=[77]++[KD (48+n%8)]:=by rw[hnm];unfold qhI;rw[if_neg (by omega)];rfl
     refine qP ?_;try simp only[Qj]
     first
     |exact⟨(),by rw[hN]<;>rfl,Vm _⟩
     |exact⟨(),by rw[hN,<-hcut1]<;>rfl,Vm _,trivial⟩
   ·rintro z-
    refine awp_rseq [0,3,4,6,7,8,9,10] (by rfl) fun K hK=>?_;simp+decide only[ev,putD,VO,VQ,Ka,Kb,↓qg,qc];refine qO (V:= .agg [.int .u8 1, .str [67,79,80,89], .int .i64 0, .int .i64 0, .bool false]) (by rfl) (by rfl) (Zm wz _ _) ?_;simp+decide only[ev,putD,VO,VQ,Ka,Kb,↓qg,qc];refine qO (V:= .agg [.int .u8 1, .str nm, .int .i64 0, .int .i64 0, .bool false]) (by rfl) (by rfl) (Zm wz _ _) ?_;refine Qr (cs:=QI (wd COPY)++QI (wd nm)) (by kernel_rfl) fun k16q6 hk16q6=>?_;try have hf_16q6:h k16q6=none:=by first|assumption|(simp only[V9]at hk16q6;simp only[hk16q6])
    refine Xt (es:=5) (zs:=(l).map QI) (xs:=[wd COPY,wd nm].map QI) (hZ:=B) (b:=tb) (by rfl) (by rfl) Tryz.underlying26 Tryz.underlying26 (fun k e=>by cases e) Xb qha qat (by rfl) (by decide) (by rfl) g2 g3 Xn (Vh (by assumption)) (by rfl) (Ba (Ve _ _ _) (by simp[QI]) (by rfl) (by rfl) (.exact 2) (KL _)) (by rfl) (by simp;omega) (by simp;omega) fun tb3 htb3 o1tb3 o2tb3 o3tb3=>?_;simp+decide only[qa,ev,putD,VO,VQ,VP,Ka,Kb,↓qd,qb];apply hK;clear hK K;refine qJ ?_;refine BI (h':=Ql B tb3) o3tb3 ?_;refine awp_rseq [0,3,4,6,7,8,9,10,142] (by rfl) fun K hK=>?_;simp+decide only[qa,ev,qH,qG,putD,VO,VQ,VP,Ka,Kb,↓qg,qc,↓qw,qm,qA,cond_false,qo,Ua];apply hK;clear hK K;refine UH [0,3,4,6,7,8,9,10] (fun z:Option Buf=>[(0, .slice lc o x.length cp),(3, .func 27 []),(4, .ptr (.own kp) 0),(6, .slice (.own ka) 0 8 (.exact 8)),(7, .slice (.own kr) 0 6 (.exact 6)),(8,QH 5 z),(9, .int .i64 i),(10, .int .i64 n)]) (fun z:Option Buf=>Ql B z) (fun z:Option Buf=>bufOk B 5 z/\Yh z=((l++(wd COPY::wd nm::if 200<=n then wd ZL::pairsC.getD (n%6) []else[])).map QI).flatten) ?_ ?_
    ·refine qI (b:=_) rfl (fun hb4=>?_) (fun hb4=>?_)
     ·try simp only[decide_eq_true_eq]at hb4
      obtain⟨sl,hsl⟩:∃sl,sl=rs.getD (n%6) .dead:=⟨_,rfl⟩
      have hsI:=b4 (n%6) (by omega);rw[<-hsl]at hsI;have hsv:=hsI.live;have r6:rd wz B (.own kr) (n%6)=sl:=by rw[hsl];exact QB wz b3 _
      refine qsM [0,1,2,5,6,7,8,9,3,4,10,11] [0,0,1,2,2,2,2,2,0,0,0,0] [none,none,none,none,none,none,none,none,none,some 8,some 9,some 10] 9 (B) mixed (by kernel_rfl) (by rfl) (BJ o1tb3) ?_;simp only[Zy,VK,Ep,Kz,KM];simp+decide only[qa,ev,putD,VO,VQ,Ka,Kb,qmL,Yt,↓qg,qc];refine quA (V:= .agg [.int .u8 1, .str [82,69,80,76,65,67,73,78,71], .int .i64 0, .int .i64 0, .bool false]) (fun g hg=>?_) ?_
      ·exact qO (V:= .agg [.int .u8 1, .str [82,69,80,76,65,67,73,78,71], .int .i64 0, .int .i64 0, .bool false]) (by rfl) (by rfl) (Zm wz _ _) ⟨rfl,rfl⟩
      simp+decide only[qa,ev,qH,qG,putD,VO,VQ,Ka,Kb,qmL,quz,qmJ,qpw,↓qg,qc,↓qw,qm,qA,cond_false,qo,qkP,↓QE,qY,qW Tryz.underlying67 qCi,↓qF,qz qaw,Js,Vr,BK,Js,r6,hsv,m6,Vr,BK,Js];repeat (with_reducible refine And.intro ?_ ?_;· first|trivial|omega|(intro hg;simp only[Ky,JW,Jj,VS,VT,VU,decide_eq_true_eq,decide_eq_false_iff_not,XY]at hg;omega)|(simp only[Jc,Jp,Ez,EA,K5,K6,KY,J9,EB,V6];omega))
      refine Qr (cs:=QI (wd ZL)) (by kernel_rfl) fun k18q3 hk18q3=>?_;try have hf_18q3:h k18q3=none:=by first|assumption|(simp only[V9]at hk18q3;simp only[hk18q3])
      rw[qa];refine And.intro (by first|exact Vm _|assumption|exact Vh (by assumption)) ?_;simp+decide only[putD,VO,Ka];refine Xt (es:=5) (zs:=(l++[wd COPY,wd nm]).map QI) (xs:=[wd ZL].map QI) (hZ:=B) (b:=tb3) (by rfl) (by rfl) Tryz.underlying26 Tryz.underlying26 (fun k e=>by cases e) Xb qha qat (by rfl) (by decide) (by rfl) o1tb3 (by rw[o2tb3];simp) Xn (Vh (by assumption)) (by rfl) (Ba (Ve _ _ _) (by simp[QI]) (by rfl) (by rfl) (.exact 1) (KL _)) (by rfl) (by simp;omega) (by simp;omega) fun tb4 htb4 o1tb4 o2tb4 o3tb4=>?_;have hSg4:Sub B htb4:=BL (BJ o1tb4) o3tb4;rw[qa];refine And.intro (by first|exact Vm _|assumption|exact Vh (by assumption)) ?_;simp+decide only[putD,VO,Ka];refine Xt (es:=5) (zs:=(l++[wd COPY,wd nm]++[wd ZL]).map QI) (xs:=(pairsC.getD (n%6) []).map QI) (hZ:=B) (b:=tb4) (by rfl) (by rfl) Tryz.underlying26 Tryz.underlying26 (fun k e=>by cases e) Xb qha qat (by rfl) (by decide) (by rfl) o1tb4 (by rw[o2tb4];simp) Xn o3tb4 (by rfl) (hsI.mono (BL (BJ o1tb4) o3tb4)) (qdZ _) (by have:=qiE ⟨n%6,by omega⟩;simp only[Jp,Jc,KY,J9]at this|-;omega) (by have:=qiE ⟨n%6,by omega⟩;simp only[Jp,Jc,KY,J9]at this|-;omega) fun tb5 htb5 o1tb5 o2tb5 o3tb5=>?_;have hSg5:Sub B htb5:=BL (BJ o1tb5) o3tb5;rw[qa];refine And.intro (by first|exact Vm _|assumption|exact Vh (by assumption)) ?_;simp+decide only[qa,ev,putD,VO,VQ,Ka,Kb,↓qd,qb,hSg5];try simp only[Qj]
      first
      |exact⟨tb5,rfl,o3tb5,o1tb5,by rw[o2tb5,if_pos (by omega)];simp⟩
      |exact⟨tb3,rfl,Vm _,o1tb3,by rw[o2tb3,if_neg (by omega)];simp⟩
     ·try simp only[decide_eq_false_iff_not]at hb4
      refine qP ?_;try simp only[Qj]
      first
      |exact⟨tb5,rfl,o3tb5,o1tb5,by rw[o2tb5,if_pos (by omega)];simp⟩
      |exact⟨tb3,rfl,Vm _,o1tb3,by rw[o2tb3,if_neg (by omega)];simp⟩
    ·rintro tj ⟨z1,z2⟩
     have hbj:=QP 5 tj;obtain⟨q0,q1,q2,q3,q4⟩:rd wz (Ql B tj) (.own kp) 0= .int .u8 6/\rd wz (Ql B tj) (.own kp) 1= .str [46]/\rd wz (Ql B tj) (.own kp) 2= .int .i64 0/\rd wz (Ql B tj) (.own kp) 3= .int .i64 0/\rd wz (Ql B tj) (.own kp) 4= .bool false:=⟨qgC wz z1 b1 0,qgC wz z1 b1 1,qgC wz z1 b1 2,qgC wz z1 b1 3,qgC wz z1 b1 4⟩
     obtain⟨lz,hlz⟩:∃lz,lz=l++(wd COPY::wd nm::if 200<=n then wd ZL::pairsC.getD (n%6) []else[]):=⟨_,rfl⟩
     have hlzl:lz.length<=900:=by
      have:=qiE ⟨n%6,by omega⟩;rw[hlz];split<;>simp only[Jc,KY,J9]at this|- <;>omega
     rw[<-hlz]at z2;have hck:¬n<160->l++XN n=lz++(if n=254 then[]else[qnK]):=by
      intro h160;unfold XN;rw[if_neg h160,hlz,hnm];simp
     refine awp_rseq [0,3,4,6,7,8,9,155] (by rfl) fun K hK=>?_;simp+decide only[qa,ev,qH,qG,putD,VO,VQ,VP,Ka,Kb,↓qg,qc,↓qw,qm,qA,cond_false,qo,Un];apply hK;clear hK K;refine qI (b:=_) rfl (fun hb5=>?_) (fun hb5=>?_)
     ·try simp only[decide_eq_false_iff_not,Jj]at hb5
      refine XW [0,3,4,6,7,8,9] (by rfl) ?_;simp+decide only[ev,putD,VO,VQ,Ka,Kb,↓qg,qc,↓qF,qY,qh ZB Xb,qf,Js,Nat.reduceAdd,qD,qi,qE,allLive,JU,q0,q1,q2,q3,q4];refine Qr (cs:=QI (qnK)) (by kernel_rfl) fun k20q2 hk20q2=>?_;try have hf_20q2:h k20q2=none:=by first|assumption|(simp only[V9]at hk20q2;simp only[hk20q2])
      refine Xt (es:=5) (zs:=(lz).map QI) (xs:=[qnK].map QI) (hZ:=B) (b:=tj) (by rfl) (by rfl) Tryz.underlying26 Tryz.underlying26 (fun k e=>by cases e) Xb qha qat (by rfl) (by decide) (by rfl) z1 z2 Xn (Vh (by assumption)) (by rfl) (Ba (Ve _ _ _) (by simp[QI]) (by rfl) (by rfl) (.exact 1) (KL _)) (by rfl) (by simp;omega) (by simp;omega) fun tb6 htb6 o1tb6 o2tb6 o3tb6=>?_;simp+decide only[qa,ev,putD,VO,VQ,VP,Ka,Kb,↓qd,qb];change Awp _ _ _ _ _ _ _;refine XW [0,3,4,6,7,8,9] (by rfl) ?_;simp+decide only[qa,ev,qH,qG,putD,VO,VQ,VP,Ka,Kb,↓qg,qc,↓qw,qm,qA,cond_false,qo,Xa,↓qd,qb];try simp(disch:=omega)only[wrap_i64]
      try simp only[Qj]
      first
      |exact⟨(i+1,tb2),rfl,o3tb2,⟨hi,hi2,o1tb2,by simp only;rw[o2tb2,hst,qiW (by omega),ht];simp⟩,by simp only;omega⟩
      |exact⟨(i+1,tb6),rfl,o3tb6,⟨hi,hi2,o1tb6,by simp only;rw[o2tb6,hst,hck (by omega),if_neg (by omega)];simp⟩,by simp only;omega⟩
      |exact⟨(i+1,tj),rfl,Vm _,⟨hi,hi2,z1,by simp only;rw[hst,hck (by omega),if_pos (by omega),Bg];exact z2⟩,by simp only;omega⟩
     ·try simp only[decide_eq_true_eq,VU]at hb5
      refine qP ?_;change Awp _ _ _ _ _ _ _;refine XW [0,3,4,6,7,8,9] (by rfl) ?_;simp+decide only[qa,ev,qH,qG,putD,VO,VQ,VP,Ka,Kb,↓qg,qc,↓qw,qm,qA,cond_false,qo,Xa,↓qd,qb];try simp(disch:=omega)only[wrap_i64]
      try simp only[Qj]
      first
      |exact⟨(i+1,tb2),rfl,o3tb2,⟨hi,hi2,o1tb2,by simp only;rw[o2tb2,hst,qiW (by omega),ht];simp⟩,by simp only;omega⟩
      |exact⟨(i+1,tb6),rfl,o3tb6,⟨hi,hi2,o1tb6,by simp only;rw[o2tb6,hst,hck (by omega),if_neg (by omega)];simp⟩,by simp only;omega⟩
      |exact⟨(i+1,tj),rfl,Vm _,⟨hi,hi2,z1,by simp only;rw[hst,hck (by omega),if_pos (by omega),Bg];exact z2⟩,by simp only;omega⟩
 ·try simp only[decide_eq_false_iff_not,VS]at hb1
  refine XE ?_;change Awp _ _ _ _ _ _ _;have hbl:=QP 5 tb;have he1:=qzn (x:=x) (i:=i) g4 (by omega);rw[he1]at g3;refine BI (h':=Ql h tb) (Ev hBs) ?_;refine Awp.keep [8] ?_;exact qwo wz h (XI (qcE x)) (qvT (qhH x)) (V7 (by rw[<-he1];exact qte x g4) (by decide)) tb (g2.sub hBs) g3
set_option maxHeartbeats 8000000 in
theorem qyK(wz:World)(h:AHeap)(v:AVal)(x:List UInt8)(hv:IsL wz h 1 v (x.map qdE))(hl:x.length<=9223372036854775807):
 ACall Tryz.prog wz 10 [v] h (fun r h'=>∃tb,r=QH 5 tb/\bufOk h 5 tb/\Yh tb=((lOf x).map QI).flatten/\h'=Ql h tb):=by
 have hlv:=hv.live;have hlen:=hv.len Tryz.underlying23;rw[Jp]at hlen;refine qU (n:=178) (rs:=[.tmp 2]) Tryz.func10 rfl rfl rfl rfl (VN rfl) ?_;simp only[Qg];refine awp_rseq [0] (by rfl) fun K hK=>?_;simp+decide only[qa,ev,qH,qG,putD,VO,VP,Ka,Kb,↓qd,qb];apply hK;clear hK K;refine awp_rseq [0,3] (by rfl) fun K hK=>?_;simp+decide only[qa,ev,putD,VO,VP,Ka,Kb,↓qd,qb];apply hK;clear hK K;refine awp_rseq [0,3,4] (by rfl) fun K hK=>?_;simp+decide only[ev,qH,qG,putD,VO,VQ,if_false,Kb,↓Qu,↓Qa,qar,evP,Ke,Vk];refine Qi qat (cs:=[.int .u8 0, .str [], .int .i64 0, .int .i64 0, .bool false]) (by rfl) fun k2q1 hk2q1=>?_;try have hf_2q1:h k2q1=none:=by first|assumption|(simp only[V9]at hk2q1;simp only[hk2q1])
 refine qp (by rfl) (by rfl) zqA Xb (by rfl) (by rfl) zqD (Jt _) (by rfl) ?_;simp only[Vi,VX];simp+decide only[qa,ev,putD,VO,VQ,VP,Ka,setAt,VY,Kj,Js,Nat.reduceAdd];apply hK;clear hK K;refine awp_rseq [0,3,4,5] (by rfl) fun K hK=>?_;simp+decide only[ev,qH,qG,putD,VO,VQ,if_false,Kb,↓Qu,↓Qa,qar,evP,Ke,Vk];refine Qi qat (cs:=[.int .u8 0, .str [], .int .i64 0, .int .i64 0, .bool false]) (by rfl) fun k3q1 hk3q1=>?_;have ne_3q1_2q1:k3q1≠k2q1:=by simp only[V9]at hk3q1;simp only[hk3q1,ne_eq,not_false_eq_true]
 try have hf_3q1:h k3q1=none:=by first|assumption|(simp only[V9]at hk3q1;simp only[hk3q1])
 refine qp (by rfl) (by rfl) zqA Xb (by rfl) (by rfl) zqD (Jt _) (by rfl) ?_;simp only[Vi,VX];simp+decide only[qa,ev,putD,VO,VQ,VP,Ka,setAt,VY,Kj,Js,Nat.reduceAdd];apply hK;clear hK K;refine Wo 14 [] [0,3,4,5,6] mixed (by kernel_rfl) (by rfl) fun K hK=>?_;simp only[Ki,VE,EC,ED];simp+decide only[qa,ev,putD,VO,VQ,Ka,Kb,↓Zd,qc];refine Xu (V:= .agg [.int .u8 1, .str [65], .int .i64 0, .int .i64 0, .bool false]) (by rfl) (by rfl) (by first|trivial|(simp+decide only[Be,XL,and_true,Kb,QC,Wy,Ve,JK];done)|(simp[Be,XL,Bf];done)) (fun g hg=>Zm wz _ _) ?_;simp+decide only[ev,putD,VO,VQ,Ka,Kb,↓Zd,qc];refine Xu (V:= .agg [.int .u8 1, .str [66], .int .i64 0, .int .i64 0, .bool false]) (by rfl) (by rfl) (by first|trivial|(simp+decide only[Be,XL,and_true,Kb,QC,Wy,Ve,JK];done)|(simp[Be,XL,Bf];done)) (fun g hg=>Zm wz _ _) ?_;simp+decide only[ev,putD,VO,VQ,Ka,Kb,↓Zd,qc];refine Xu (V:= .agg [.int .u8 1, .str [67], .int .i64 0, .int .i64 0, .bool false]) (by rfl) (by rfl) (by first|trivial|(simp+decide only[Be,XL,and_true,Kb,QC,Wy,Ve,JK];done)|(simp[Be,XL,Bf];done)) (fun g hg=>Zm wz _ _) ?_;simp+decide only[ev,putD,VO,VQ,Ka,Kb,↓Zd,qc];refine Xu (V:= .agg [.int .u8 1, .str [66,89], .int .i64 0, .int .i64 0, .bool false]) (by rfl) (by rfl) (by first|trivial|(simp+decide only[Be,XL,and_true,Kb,QC,Wy,Ve,JK];done)|(simp[Be,XL,Bf];done)) (fun g hg=>Zm wz _ _) ?_;simp+decide only[ev,qH,qG,putD,VO,VQ,Ka,Kb,↓qac,↓Qa,qar,evP,Ke,Vk,↓ZN,XU,qh ZB Xb,QZ,ne_eq,not_false_eq_true,ne_3q1_2q1.symm,QT,qf,VZ,Kn,Js,Nat.reduceAdd,qD,qi,qE,allLive,JU];refine Ui (cs:=[.int .u8 1, .str [65], .int .i64 0, .int .i64 0, .bool false, .int .u8 1, .str [66], .int .i64 0, .int .i64 0, .bool false, .int .u8 1, .str [67], .int .i64 0, .int .i64 0, .bool false, .int .u8 1, .str [66,89], .int .i64 0, .int .i64 0, .bool false, .int .u8 2, .str [53], .int .i64 0, .int .i64 0, .bool false, .int .u8 3, .str [65], .int .i64 0, .int .i64 0, .bool false, .int .u8 6, .str [46], .int .i64 0, .int .i64 0, .bool false, .int .u8 5, .str [40], .int .i64 0, .int .i64 0, .bool false]) (by kernel_rfl) fun k4q12 hk4q12=>?_;have ne_4q12_2q1:k4q12≠k2q1:=by simp only[V9]at hk4q12;simp only[hk4q12,ne_eq,not_false_eq_true]
 have ne_4q12_3q1:k4q12≠k3q1:=by simp only[V9]at hk4q12;simp only[hk4q12,ne_eq,not_false_eq_true]
 try have hf_4q12:h k4q12=none:=by first|assumption|(simp only[V9]at hk4q12;simp only[hk4q12])
 simp+decide only[YK,ev,putD,VO,VQ,VP,Ka,Kb,↓qbs,qb];apply hK;clear hK K;refine Wo 72 [] [0,3,4,6,7] mixed (by kernel_rfl) (by rfl) fun K hK=>?_;simp only[List.append_eq,Kh,Je];simp only[Ki,VE,EC,ED];simp+decide only[qa,ev,putD,VO,VQ,Ka,Kb,↓Zd,qc];refine Xu (V:= .agg [.int .u8 1, .str [65], .int .i64 0, .int .i64 0, .bool false]) (by rfl) (by rfl) (by first|trivial|(simp+decide only[Be,XL,and_true,Kb,QC,Wy,Ve,JK];done)|(simp[Be,XL,Bf];done)) (fun g hg=>Zm wz _ _) ?_;simp+decide only[ev,putD,VO,VQ,Ka,Kb,↓Zd,qc];refine Xu (V:= .agg [.int .u8 1, .str [66,89], .int .i64 0, .int .i64 0, .bool false]) (by rfl) (by rfl) (by first|trivial|(simp+decide only[Be,XL,and_true,Kb,QC,Wy,Ve,JK];done)|(simp[Be,XL,Bf];done)) (fun g hg=>Zm wz _ _) ?_;simp+decide only[ev,putD,VO,VQ,Ka,Kb,↓Zd,qc];refine Xu (V:= .agg [.int .u8 1, .str [66], .int .i64 0, .int .i64 0, .bool false]) (by rfl) (by rfl) (by first|trivial|(simp+decide only[Be,XL,and_true,Kb,QC,Wy,Ve,JK];done)|(simp[Be,XL,Bf];done)) (fun g hg=>Zm wz _ _) ?_;refine Ui (cs:=[.int .u8 1, .str [65], .int .i64 0, .int .i64 0, .bool false, .int .u8 1, .str [66,89], .int .i64 0, .int .i64 0, .bool false, .int .u8 1, .str [66], .int .i64 0, .int .i64 0, .bool false]) (by kernel_rfl) fun k5q6 hk5q6=>?_;have ne_5q6_2q1:k5q6≠k2q1:=by simp only[V9]at hk5q6;simp only[hk5q6,ne_eq,not_false_eq_true]
 have ne_5q6_3q1:k5q6≠k3q1:=by simp only[V9]at hk5q6;simp only[hk5q6,ne_eq,not_false_eq_true]
 have ne_5q6_4q12:k5q6≠k4q12:=by simp only[V9]at hk5q6;simp only[hk5q6,ne_eq,not_false_eq_true]
 try have hf_5q6:h k5q6=none:=by first|assumption|(simp only[V9]at hk5q6;simp only[hk5q6])
 simp+decide only[ev,putD,VO,VQ,Ka,Kb,↓Zd,qc];refine Xu (V:= .agg [.int .u8 1, .str [66], .int .i64 0, .int .i64 0, .bool false]) (by rfl) (by rfl) (by first|trivial|(simp+decide only[Be,XL,and_true,Kb,QC,Wy,Ve,JK];done)|(simp[Be,XL,Bf];done)) (fun g hg=>Zm wz _ _) ?_;simp+decide only[ev,putD,VO,VQ,Ka,Kb,↓Zd,qc];refine Xu (V:= .agg [.int .u8 1, .str [66,89], .int .i64 0, .int .i64 0, .bool false]) (by rfl) (by rfl) (by first|trivial|(simp+decide only[Be,XL,and_true,Kb,QC,Wy,Ve,JK];done)|(simp[Be,XL,Bf];done)) (fun g hg=>Zm wz _ _) ?_;simp+decide only[ev,putD,VO,VQ,Ka,Kb,↓Zd,qc];refine Xu (V:= .agg [.int .u8 1, .str [65], .int .i64 0, .int .i64 0, .bool false]) (by rfl) (by rfl) (by first|trivial|(simp+decide only[Be,XL,and_true,Kb,QC,Wy,Ve,JK];done)|(simp[Be,XL,Bf];done)) (fun g hg=>Zm wz _ _) ?_;simp+decide only[ev,putD,VO,VQ,Ka,Kb,↓Zd,qc];refine Xu (V:= .agg [.int .u8 1, .str [65], .int .i64 0, .int .i64 0, .bool false]) (by rfl) (by rfl) (by first|trivial|(simp+decide only[Be,XL,and_true,Kb,QC,Wy,Ve,JK];done)|(simp[Be,XL,Bf];done)) (fun g hg=>Zm wz _ _) ?_;simp+decide only[ev,putD,VO,VQ,Ka,Kb,↓Zd,qc];refine Xu (V:= .agg [.int .u8 1, .str [66,89], .int .i64 0, .int .i64 0, .bool false]) (by rfl) (by rfl) (by first|trivial|(simp+decide only[Be,XL,and_true,Kb,QC,Wy,Ve,JK];done)|(simp[Be,XL,Bf];done)) (fun g hg=>Zm wz _ _) ?_;simp+decide only[ev,putD,VO,VQ,Ka,Kb,↓Zd,qc];refine Xu (V:= .agg [.int .u8 1, .str [67], .int .i64 0, .int .i64 0, .bool false]) (by rfl) (by rfl) (by first|trivial|(simp+decide only[Be,XL,and_true,Kb,QC,Wy,Ve,JK];done)|(simp[Be,XL,Bf];done)) (fun g hg=>Zm wz _ _) ?_;refine Ui (cs:=[.int .u8 1, .str [66], .int .i64 0, .int .i64 0, .bool false, .int .u8 1, .str [66,89], .int .i64 0, .int .i64 0, .bool false, .int .u8 1, .str [65], .int .i64 0, .int .i64 0, .bool false, .int .u8 1, .str [65], .int .i64 0, .int .i64 0, .bool false, .int .u8 1, .str [66,89], .int .i64 0, .int .i64 0, .bool false, .int .u8 1, .str [67], .int .i64 0, .int .i64 0, .bool false]) (by kernel_rfl) fun k5q19 hk5q19=>?_;have ne_5q19_2q1:k5q19≠k2q1:=by simp only[V9]at hk5q19;simp only[hk5q19,ne_eq,not_false_eq_true]
 have ne_5q19_3q1:k5q19≠k3q1:=by simp only[V9]at hk5q19;simp only[hk5q19,ne_eq,not_false_eq_true]
 have ne_5q19_4q12:k5q19≠k4q12:=by simp only[V9]at hk5q19;simp only[hk5q19,ne_eq,not_false_eq_true]
 have ne_5q19_5q6:k5q19≠k5q6:=by simp only[V9]at hk5q19;simp only[hk5q19,ne_eq,not_false_eq_true]
 try have hf_5q19:h k5q19=none:=by first|assumption|(simp only[V9]at hk5q19;simp only[hk5q19])
 simp+decide only[ev,putD,VO,VQ,Ka,Kb,↓ZN,XU,qh ZB Xb,↓Zd,qc,QZ,ne_eq,not_false_eq_true,ne_4q12_3q1.symm,ne_5q6_3q1.symm,ne_5q19_3q1.symm,QT,qf,VZ,Kn,Js,Nat.reduceAdd,qD,qi,qE,allLive,JU];refine Xu (V:= .agg [.int .u8 1, .str [65], .int .i64 0, .int .i64 0, .bool false]) (by rfl) (by rfl) (by first|trivial|(simp+decide only[Be,XL,and_true,Kb,QC,Wy,Ve,JK];done)|(simp[Be,XL,Bf];done)) (fun g hg=>Zm wz _ _) ?_;simp+decide only[ev,putD,VO,VQ,Ka,Kb,↓Zd,qc];refine Xu (V:= .agg [.int .u8 1, .str [66], .int .i64 0, .int .i64 0, .bool false]) (by rfl) (by rfl) (by first|trivial|(simp+decide only[Be,XL,and_true,Kb,QC,Wy,Ve,JK];done)|(simp[Be,XL,Bf];done)) (fun g hg=>Zm wz _ _) ?_;simp+decide only[ev,putD,VO,VQ,Ka,Kb,↓ZN,XU,qh ZB Xb,↓Zd,qc,QZ,ne_eq,not_false_eq_true,ne_4q12_3q1.symm,ne_5q6_3q1.symm,ne_5q19_3q1.symm,QT,qf,VZ,Kn,Js,Nat.reduceAdd,qD,qi,qE,allLive,JU];refine Xu (V:= .agg [.int .u8 1, .str [66,89], .int .i64 0, .int .i64 0, .bool false]) (by rfl) (by rfl) (by first|trivial|(simp+decide only[Be,XL,and_true,Kb,QC,Wy,Ve,JK];done)|(simp[Be,XL,Bf];done)) (fun g hg=>Zm wz _ _) ?_;simp+decide only[ev,putD,VO,VQ,Ka,Kb,↓ZN,XU,qh ZB Xb,QZ,ne_eq,not_false_eq_true,ne_4q12_3q1.symm,ne_5q6_3q1.symm,ne_5q19_3q1.symm,QT,qf,VZ,Kn,Js,Nat.reduceAdd,qD,qi,qE,allLive,JU];refine Ui (cs:=[.int .u8 7, .str [61,61], .int .i64 0, .int .i64 0, .bool false, .int .u8 1, .str [65], .int .i64 0, .int .i64 0, .bool false, .int .u8 1, .str [66], .int .i64 0, .int .i64 0, .bool false, .int .u8 7, .str [61,61], .int .i64 0, .int .i64 0, .bool false, .int .u8 1, .str [66,89], .int .i64 0, .int .i64 0, .bool false, .int .u8 7, .str [61,61], .int .i64 0, .int .i64 0, .bool false, .int .u8 7, .str [61,61], .int .i64 0, .int .i64 0, .bool false]) (by kernel_rfl) fun k5q30 hk5q30=>?_;have ne_5q30_2q1:k5q30≠k2q1:=by simp only[V9]at hk5q30;simp only[hk5q30,ne_eq,not_false_eq_true]
 have ne_5q30_3q1:k5q30≠k3q1:=by simp only[V9]at hk5q30;simp only[hk5q30,ne_eq,not_false_eq_true]
 have ne_5q30_4q12:k5q30≠k4q12:=by simp only[V9]at hk5q30;simp only[hk5q30,ne_eq,not_false_eq_true]
 have ne_5q30_5q6:k5q30≠k5q6:=by simp only[V9]at hk5q30;simp only[hk5q30,ne_eq,not_false_eq_true]
 have ne_5q30_5q19:k5q30≠k5q19:=by simp only[V9]at hk5q30;simp only[hk5q30,ne_eq,not_false_eq_true]
 try have hf_5q30:h k5q30=none:=by first|assumption|(simp only[V9]at hk5q30;simp only[hk5q30])
 simp+decide only[ev,putD,VO,VQ,Ka,Kb,↓ZN,XU,qh ZB Xb,↓Zd,qc,QZ,ne_eq,not_false_eq_true,ne_4q12_3q1.symm,ne_5q6_3q1.symm,ne_5q19_3q1.symm,ne_5q30_3q1.symm,QT,qf,VZ,Kn,Js,Nat.reduceAdd,qD,qi,qE,allLive,JU];refine Xu (V:= .agg [.int .u8 1, .str [65], .int .i64 0, .int .i64 0, .bool false]) (by rfl) (by rfl) (by first|trivial|(simp+decide only[Be,XL,and_true,Kb,QC,Wy,Ve,JK];done)|(simp[Be,XL,Bf];done)) (fun g hg=>Zm wz _ _) ?_;simp+decide only[ev,putD,VO,VQ,Ka,Kb,↓ZN,XU,qh ZB Xb,↓Zd,qc,QZ,ne_eq,not_false_eq_true,ne_4q12_3q1.symm,ne_5q6_3q1.symm,ne_5q19_3q1.symm,ne_5q30_3q1.symm,QT,qf,VZ,Kn,Js,Nat.reduceAdd,qD,qi,qE,allLive,JU];refine Xu (V:= .agg [.int .u8 1, .str [66,89], .int .i64 0, .int .i64 0, .bool false]) (by rfl) (by rfl) (by first|trivial|(simp+decide only[Be,XL,and_true,Kb,QC,Wy,Ve,JK];done)|(simp[Be,XL,Bf];done)) (fun g hg=>Zm wz _ _) ?_;simp+decide only[ev,putD,VO,VQ,Ka,Kb,↓ZN,XU,qh ZB Xb,↓Zd,qc,QZ,ne_eq,not_false_eq_true,ne_4q12_3q1.symm,ne_5q6_3q1.symm,ne_5q19_3q1.symm,ne_5q30_3q1.symm,QT,qf,VZ,Kn,Js,Nat.reduceAdd,qD,qi,qE,allLive,JU];refine Xu (V:= .agg [.int .u8 1, .str [65], .int .i64 0, .int .i64 0, .bool false]) (by rfl) (by rfl) (by first|trivial|(simp+decide only[Be,XL,and_true,Kb,QC,Wy,Ve,JK];done)|(simp[Be,XL,Bf];done)) (fun g hg=>Zm wz _ _) ?_;simp+decide only[ev,putD,VO,VQ,Ka,Kb,↓Zd,qc];refine Xu (V:= .agg [.int .u8 1, .str [65], .int .i64 0, .int .i64 0, .bool false]) (by rfl) (by rfl) (by first|trivial|(simp+decide only[Be,XL,and_true,Kb,QC,Wy,Ve,JK];done)|(simp[Be,XL,Bf];done)) (fun g hg=>Zm wz _ _) ?_;simp+decide only[ev,putD,VO,VQ,Ka,Kb,↓ZN,XU,qh ZB Xb,QZ,ne_eq,not_false_eq_true,ne_4q12_3q1.symm,ne_5q6_3q1.symm,ne_5q19_3q1.symm,ne_5q30_3q1.symm,QT,qf,VZ,Kn,Js,Nat.reduceAdd,qD,qi,qE,allLive,JU];refine Ui (cs:=[.int .u8 7, .str [61,61], .int .i64 0, .int .i64 0, .bool false, .int .u8 1, .str [65], .int .i64 0, .int .i64 0, .bool false, .int .u8 7, .str [61,61], .int .i64 0, .int .i64 0, .bool false, .int .u8 1, .str [66,89], .int .i64 0, .int .i64 0, .bool false, .int .u8 7, .str [61,61], .int .i64 0, .int .i64 0, .bool false, .int .u8 1, .str [65], .int .i64 0, .int .i64 0, .bool false, .int .u8 1, .str [65], .int .i64 0, .int .i64 0, .bool false, .int .u8 7, .str [61,61], .int .i64 0, .int .i64 0, .bool false]) (by kernel_rfl) fun k5q43 hk5q43=>?_;have ne_5q43_2q1:k5q43≠k2q1:=by simp only[V9]at hk5q43;simp only[hk5q43,ne_eq,not_false_eq_true]
 have ne_5q43_3q1:k5q43≠k3q1:=by simp only[V9]at hk5q43;simp only[hk5q43,ne_eq,not_false_eq_true]
 have ne_5q43_4q12:k5q43≠k4q12:=by simp only[V9]at hk5q43;simp only[hk5q43,ne_eq,not_false_eq_true]
 have ne_5q43_5q6:k5q43≠k5q6:=by simp only[V9]at hk5q43;simp only[hk5q43,ne_eq,not_false_eq_true]
 have ne_5q43_5q19:k5q43≠k5q19:=by simp only[V9]at hk5q43;simp only[hk5q43,ne_eq,not_false_eq_true]
 have ne_5q43_5q30:k5q43≠k5q30:=by simp only[V9]at hk5q43;simp only[hk5q43,ne_eq,not_false_eq_true]
 try have hf_5q43:h k5q43=none:=by first|assumption|(simp only[V9]at hk5q43;simp only[hk5q43])
 simp+decide only[ev,qH,qG,putD,VO,VQ,Ka,Kb,↓qac,↓Qa,qar,evP,Ke,Vk,↓Zd,qc];refine Xu (V:= .agg [.int .u8 1, .str [66,89], .int .i64 0, .int .i64 0, .bool false]) (by rfl) (by rfl) (by first|trivial|(simp+decide only[Be,XL,and_true,Kb,QC,Wy,Ve,JK];done)|(simp[Be,XL,Bf];done)) (fun g hg=>Zm wz _ _) ?_;simp+decide only[ev,putD,VO,VQ,Ka,Kb,↓ZN,XU,qh ZB Xb,↓Zd,qc,QZ,ne_eq,not_false_eq_true,ne_4q12_3q1.symm,ne_5q6_3q1.symm,ne_5q19_3q1.symm,ne_5q30_3q1.symm,ne_5q43_3q1.symm,QT,qf,VZ,Kn,Js,Nat.reduceAdd,qD,qi,qE,allLive,JU];refine Xu (V:= .agg [.int .u8 1, .str [67,79,80,89], .int .i64 0, .int .i64 0, .bool false]) (by rfl) (by rfl) (by first|trivial|(simp+decide only[Be,XL,and_true,Kb,QC,Wy,Ve,JK];done)|(simp[Be,XL,Bf];done)) (fun g hg=>Zm wz _ _) ?_;simp+decide only[ev,putD,VO,VQ,Ka,Kb,↓Zd,qc];refine Xu (V:= .agg [.int .u8 1, .str [77,49], .int .i64 0, .int .i64 0, .bool false]) (by rfl) (by rfl) (by first|trivial|(simp+decide only[Be,XL,and_true,Kb,QC,Wy,Ve,JK];done)|(simp[Be,XL,Bf];done)) (fun g hg=>Zm wz _ _) ?_;simp+decide only[ev,putD,VO,VQ,Ka,Kb,↓ZN,XU,qh ZB Xb,QZ,ne_eq,not_false_eq_true,ne_3q1_2q1.symm,ne_4q12_2q1.symm,ne_4q12_3q1.symm,ne_5q6_2q1.symm,ne_5q6_3q1.symm,ne_5q19_2q1.symm,ne_5q19_3q1.symm,ne_5q30_2q1.symm,ne_5q30_3q1.symm,ne_5q43_2q1.symm,ne_5q43_3q1.symm,QT,qf,VZ,Kn,Js,Nat.reduceAdd,qD,qi,qE,allLive,JU];refine Ui (cs:=[.int .u8 2, .str [53], .int .i64 0, .int .i64 0, .bool false, .int .u8 1, .str [66,89], .int .i64 0, .int .i64 0, .bool false, .int .u8 7, .str [61,61], .int .i64 0, .int .i64 0, .bool false, .int .u8 1, .str [67,79,80,89], .int .i64 0, .int .i64 0, .bool false, .int .u8 1, .str [77,49], .int .i64 0, .int .i64 0, .bool false, .int .u8 6, .str [46], .int .i64 0, .int .i64 0, .bool false, .int .u8 7, .str [61,61], .int .i64 0, .int .i64 0, .bool false]) (by kernel_rfl) fun k5q54 hk5q54=>?_;have ne_5q54_2q1:k5q54≠k2q1:=by simp only[V9]at hk5q54;simp only[hk5q54,ne_eq,not_false_eq_true]
 have ne_5q54_3q1:k5q54≠k3q1:=by simp only[V9]at hk5q54;simp only[hk5q54,ne_eq,not_false_eq_true]
 have ne_5q54_4q12:k5q54≠k4q12:=by simp only[V9]at hk5q54;simp only[hk5q54,ne_eq,not_false_eq_true]
 have ne_5q54_5q6:k5q54≠k5q6:=by simp only[V9]at hk5q54;simp only[hk5q54,ne_eq,not_false_eq_true]
 have ne_5q54_5q19:k5q54≠k5q19:=by simp only[V9]at hk5q54;simp only[hk5q54,ne_eq,not_false_eq_true]
 have ne_5q54_5q30:k5q54≠k5q30:=by simp only[V9]at hk5q54;simp only[hk5q54,ne_eq,not_false_eq_true]
 have ne_5q54_5q43:k5q54≠k5q43:=by simp only[V9]at hk5q54;simp only[hk5q54,ne_eq,not_false_eq_true]
 try have hf_5q54:h k5q54=none:=by first|assumption|(simp only[V9]at hk5q54;simp only[hk5q54])
 simp+decide only[ev,putD,VO,VQ,Ka,Kb,↓ZN,XU,qh ZB Xb,↓Zd,qc,QZ,ne_eq,not_false_eq_true,ne_3q1_2q1.symm,ne_4q12_2q1.symm,ne_4q12_3q1.symm,ne_5q6_2q1.symm,ne_5q6_3q1.symm,ne_5q19_2q1.symm,ne_5q19_3q1.symm,ne_5q30_2q1.symm,ne_5q30_3q1.symm,ne_5q43_2q1.symm,ne_5q43_3q1.symm,ne_5q54_2q1.symm,ne_5q54_3q1.symm,QT,qf,VZ,Kn,Js,Nat.reduceAdd,qD,qi,qE,allLive,JU];refine Xu (V:= .agg [.int .u8 1, .str [66,89], .int .i64 0, .int .i64 0, .bool false]) (by rfl) (by rfl) (by first|trivial|(simp+decide only[Be,XL,and_true,Kb,QC,Wy,Ve,JK];done)|(simp[Be,XL,Bf];done)) (fun g hg=>Zm wz _ _) ?_;simp+decide only[ev,qH,qG,putD,VO,VQ,Ka,Kb,↓qac,↓Qa,qar,evP,Ke,Vk,↓ZN,XU,qh ZB Xb,↓Zd,qc,QZ,ne_eq,not_false_eq_true,ne_4q12_3q1.symm,ne_5q6_3q1.symm,ne_5q19_3q1.symm,ne_5q30_3q1.symm,ne_5q43_3q1.symm,ne_5q54_3q1.symm,QT,qf,VZ,Kn,Js,Nat.reduceAdd,qD,qi,qE,allLive,JU];refine Xu (V:= .agg [.int .u8 1, .str [67], .int .i64 0, .int .i64 0, .bool false]) (by rfl) (by rfl) (by first|trivial|(simp+decide only[Be,XL,and_true,Kb,QC,Wy,Ve,JK];done)|(simp[Be,XL,Bf];done)) (fun g hg=>Zm wz _ _) ?_;simp+decide only[ev,putD,VO,VQ,Ka,Kb,↓ZN,XU,qh ZB Xb,↓Zd,qc,QZ,ne_eq,not_false_eq_true,ne_4q12_3q1.symm,ne_5q6_3q1.symm,ne_5q19_3q1.symm,ne_5q30_3q1.symm,ne_5q43_3q1.symm,ne_5q54_3q1.symm,QT,qf,VZ,Kn,Js,Nat.reduceAdd,qD,qi,qE,allLive,JU];refine Xu (V:= .agg [.int .u8 1, .str [66,89], .int .i64 0, .int .i64 0, .bool false]) (by rfl) (by rfl) (by first|trivial|(simp+decide only[Be,XL,and_true,Kb,QC,Wy,Ve,JK];done)|(simp[Be,XL,Bf];done)) (fun g hg=>Zm wz _ _) ?_;simp+decide only[ev,putD,VO,VQ,Ka,Kb,↓Zd,qc];refine Xu (V:= .agg [.int .u8 1, .str [67], .int .i64 0, .int .i64 0, .bool false]) (by rfl) (by rfl) (by first|trivial|(simp+decide only[Be,XL,and_true,Kb,QC,Wy,Ve,JK];done)|(simp[Be,XL,Bf];done)) (fun g hg=>Zm wz _ _) ?_;refine Ui (cs:=[.int .u8 7, .str [61,61], .int .i64 0, .int .i64 0, .bool false, .int .u8 6, .str [46], .int .i64 0, .int .i64 0, .bool false, .int .u8 7, .str [61,61], .int .i64 0, .int .i64 0, .bool false, .int .u8 1, .str [66,89], .int .i64 0, .int .i64 0, .bool false, .int .u8 3, .str [88], .int .i64 0, .int .i64 0, .bool false, .int .u8 7, .str [61,61], .int .i64 0, .int .i64 0, .bool false, .int .u8 1, .str [67], .int .i64 0, .int .i64 0, .bool false, .int .u8 7, .str [61,61], .int .i64 0, .int .i64 0, .bool false, .int .u8 1, .str [66,89], .int .i64 0, .int .i64 0, .bool false, .int .u8 1, .str [67], .int .i64 0, .int .i64 0, .bool false]) (by kernel_rfl) fun k5q69 hk5q69=>?_;have ne_5q69_2q1:k5q69≠k2q1:=by simp only[V9]at hk5q69;simp only[hk5q69,ne_eq,not_false_eq_true]
 have ne_5q69_3q1:k5q69≠k3q1:=by simp only[V9]at hk5q69;simp only[hk5q69,ne_eq,not_false_eq_true]
 have ne_5q69_4q12:k5q69≠k4q12:=by simp only[V9]at hk5q69;simp only[hk5q69,ne_eq,not_false_eq_true]
 have ne_5q69_5q6:k5q69≠k5q6:=by simp only[V9]at hk5q69;simp only[hk5q69,ne_eq,not_false_eq_true]
 have ne_5q69_5q19:k5q69≠k5q19:=by simp only[V9]at hk5q69;simp only[hk5q69,ne_eq,not_false_eq_true]
 have ne_5q69_5q30:k5q69≠k5q30:=by simp only[V9]at hk5q69;simp only[hk5q69,ne_eq,not_false_eq_true]
 have ne_5q69_5q43:k5q69≠k5q43:=by simp only[V9]at hk5q69;simp only[hk5q69,ne_eq,not_false_eq_true]
 have ne_5q69_5q54:k5q69≠k5q54:=by simp only[V9]at hk5q69;simp only[hk5q69,ne_eq,not_false_eq_true]
 try have hf_5q69:h k5q69=none:=by first|assumption|(simp only[V9]at hk5q69;simp only[hk5q69])
 refine Ui (cs:=[.slice (.own k5q6) 0 3 (.exact 3), .slice (.own k5q19) 0 6 (.exact 6), .slice (.own k5q30) 0 7 (.exact 7), .slice (.own k5q43) 0 8 (.exact 8), .slice (.own k5q54) 0 7 (.exact 7), .slice (.own k5q69) 0 10 (.exact 10)]) (by kernel_rfl) fun k5q70 hk5q70=>?_;have ne_5q70_2q1:k5q70≠k2q1:=by simp only[V9]at hk5q70;simp only[hk5q70,ne_eq,not_false_eq_true]
 have ne_5q70_3q1:k5q70≠k3q1:=by simp only[V9]at hk5q70;simp only[hk5q70,ne_eq,not_false_eq_true]
 have ne_5q70_4q12:k5q70≠k4q12:=by simp only[V9]at hk5q70;simp only[hk5q70,ne_eq,not_false_eq_true]
 have ne_5q70_5q6:k5q70≠k5q6:=by simp only[V9]at hk5q70;simp only[hk5q70,ne_eq,not_false_eq_true]
 have ne_5q70_5q19:k5q70≠k5q19:=by simp only[V9]at hk5q70;simp only[hk5q70,ne_eq,not_false_eq_true]
 have ne_5q70_5q30:k5q70≠k5q30:=by simp only[V9]at hk5q70;simp only[hk5q70,ne_eq,not_false_eq_true]
 have ne_5q70_5q43:k5q70≠k5q43:=by simp only[V9]at hk5q70;simp only[hk5q70,ne_eq,not_false_eq_true]
 have ne_5q70_5q54:k5q70≠k5q54:=by simp only[V9]at hk5q70;simp only[hk5q70,ne_eq,not_false_eq_true]
 have ne_5q70_5q69:k5q70≠k5q69:=by simp only[V9]at hk5q70;simp only[hk5q70,ne_eq,not_false_eq_true]
 try have hf_5q70:h k5q70=none:=by first|assumption|(simp only[V9]at hk5q70;simp only[hk5q70])
 simp+decide only[YK,ev,putD,VO,VQ,VP,Ka,Kb,↓qbs,qb];apply hK;clear hK K;refine Awp.keep [0,3,4,6,7] ?_;refine qwp wz h _ zqB v x hv hl k2q1 k4q12 k5q70 _ ⟨zqA,zqA,zqA,fun i hi=>?_⟩;have h0:IsL wz h 5 .nilSlice []:= .nil;rcases i with _|_|_|_|_|_|i
 ·exact Ba (xs:=(pairsC.getD 0 []).map QI) (b:=⟨((pairsC.getD 0 []).map QI).flatten,0⟩) zqA Xn rfl (WJ _) (.exact 3) (KL _)
 ·exact Ba (xs:=(pairsC.getD 1 []).map QI) (b:=⟨((pairsC.getD 1 []).map QI).flatten,0⟩) zqA Xn rfl (WJ _) (.exact 6) (KL _)
 ·exact Ba (xs:=(pairsC.getD 2 []).map QI) (b:=⟨((pairsC.getD 2 []).map QI).flatten,0⟩) zqA Xn rfl (WJ _) (.exact 7) (KL _)
 ·exact Ba (xs:=(pairsC.getD 3 []).map QI) (b:=⟨((pairsC.getD 3 []).map QI).flatten,0⟩) zqA Xn rfl (WJ _) (.exact 8) (KL _)
 ·exact Ba (xs:=(pairsC.getD 4 []).map QI) (b:=⟨((pairsC.getD 4 []).map QI).flatten,0⟩) zqA Xn rfl (WJ _) (.exact 7) (KL _)
 ·exact Ba (xs:=(pairsC.getD 5 []).map QI) (b:=⟨((pairsC.getD 5 []).map QI).flatten,0⟩) zqA Xn rfl (WJ _) (.exact 10) (KL _)
 ·omega
abbrev LisQ:=List UInt8×AVal
def qpu(q:LisQ):List AVal:=[q.2]
def qsE:LisQ:=([], .nilSlice)
def IsLs(wz:World)(h:AHeap)(v:AVal)(m:List (List UInt8)):Prop:=∃qs:List LisQ,m=qs.map (·.1)/\IsL wz h 1 v (qs.map qpu)/\∀q∈qs,IsL wz h 1 q.2 (q.1.map qdE)
theorem IsLs.mono{wz:World}{h h':AHeap}{v:AVal}{m:List (List UInt8)}(hv:IsLs wz h v m)(hs:Sub h h'):IsLs wz h' v m:=by
 obtain⟨qs,h1,h2,h3⟩:=hv;exact⟨qs,h1,h2.mono hs,fun q hq=>(h3 q hq).mono hs⟩
section
variable {wz:World} {h:AHeap} {v:AVal}
theorem qto{qs:List LisQ}(hv:IsL wz h 1 v (qs.map qpu)):∀H:AHeap,YN Tryz.prog H 24 v=⟨True, .int .i64 qs.length⟩:=by
 have:=hv.len Tryz.underlying24
 rwa [Jp]at this
theorem qpt{qs:List LisQ}(hv:IsL wz h 1 v (qs.map qpu))(hn:0<qs.length):∃lc o c,v= .slice lc o qs.length c:=by
 obtain⟨lc,o,c,e⟩:=hv.open (fun e=>by rw[VW]at e;subst e;simp at hn);rw[Jp]at e;exact⟨lc,o,c,e⟩
theorem qwy{qs:List LisQ}{lc:AM.Loc}{o:Nat}{c:Cap}(hv:IsL wz h 1 (.slice lc o qs.length c) (qs.map qpu)){i:Nat}(hi:i<qs.length):rd wz h lc (o+i)=(qs.getD i qsE).2:=by
 have he:=hv.elem (i:=i) (by rw[Jp];exact hi);rw[getD_map qsE hi,BK]at he;simp only[qf,qpu,List.cons.injEq,and_true]at he;exact he
end
abbrev MemB:=MemC×Option Buf
def qmH(q:MemB):List AVal:=[.str q.1.name,QH 5 q.2]
def apart(a b:Option Buf):Prop:=∀x y,a=some x->b=some y->x.blk≠y.blk
structure TkOk(h B:AHeap)(qs:List MemB):Prop where
 toks:∀q∈qs,Yh q.2=(q.1.toks.map QI).flatten
 has:∀q∈qs,hasB B q.2
 new:∀q∈qs,∀b,q.2=some b->h b.blk=none
 apart:qs.Pairwise fun a b=>apart a.2 b.2
theorem TkOk.push{h B:AHeap}{qs:List MemB}(ht:TkOk h B qs)(hs:Sub h B){tb:Option Buf}(hb:bufOk B 5 tb){m:MemC}(hc:Yh tb=(m.toks.map QI).flatten):TkOk h (Ql B tb) (qs++[(m,tb)]):=by
 have hS:Sub B (Ql B tb):=BJ hb;refine⟨fun q hq=>?_,fun q hq=>?_,fun q hq b e=>?_,?_⟩
 ·rcases JJ.1 hq with c|c
  ·exact ht.toks q c
  ·rw[BG.1 c];exact hc
 ·rcases JJ.1 hq with c|c
  ·exact(ht.has q c).mono hS
  ·rw[BG.1 c];exact qfy B tb
 ·rcases JJ.1 hq with c|c
  ·exact ht.new q c b e
  ·rw[BG.1 c]at e
   simp only at e;subst e;exact hs.none hb.1
 ·rw[List.pairwise_append]
  refine⟨ht.apart,List.pairwise_singleton _ _,fun q hq r hr x y ex ey e=>?_⟩;rw[BG.1 hr]at ey;simp only at ey;subst ey;have h1:=ht.has q hq x ex;have h2:=hb.1;rw[<-e,h1]at h2;cases h2
theorem qkZ{l:List MemB}:∀x∈l.map qmH,x.length=2:=fun x hx=>by obtain⟨y,_,rfl⟩:=JH.1 hx;rfl
theorem qrO(l:List MemB):Qt ((l.map qmH).flatten)=true:=YT.2 fun x hx=>by
 obtain⟨y,_,rfl⟩:=JH.1 hx;show(true && ((QH 5 y.2).scal && true))=true
 rw[XR];rfl
structure LbG where
 i:Nat
 B:AHeap
 mb:Option Buf
 qs:List MemB
structure LbOk(h:AHeap)(ms:List MemC)(s:LbG):Prop where
 sub:Sub h s.B
 ok:bufOk s.B 2 s.mb
 eq:Yh s.mb=(s.qs.map qmH).flatten
 ms:s.qs.map (·.1)=ms
 tk:TkOk h s.B s.qs
theorem quy{m:List (List UInt8)}{i:Nat}(hi:i<m.length)(h8:i<8):(qeS m).take (i+1)=(qeS m).take i++[⟨qcY i,lOf (m.getD i [])⟩]:=by
 have:(qeS m)[i]?=some ⟨qcY i,lOf (m.getD i [])⟩:=by
  unfold qeS;rw[EG,K3,if_pos h8,JA hi];simp[Ko,hi]
 rw[VL,this];rfl
theorem qwz{m:List (List UInt8)}{i:Nat}(h8:i<=8)(h:m.length<=i\/8<=i):(qeS m).take i=qeS m:=by
 refine Jr ?_;unfold qeS;simp;omega
theorem qAi(es:Nat)(b:Option Buf):Sc (QH es b)=True:=by cases b<;>exact eq_true trivial
theorem qpH:∀i:Fin 8,(([48,49,50,51,52,53,54,55]:Str).drop i.val).take (i.val+1-i.val)=[KD (48+i.val)]:=by decide
set_option maxHeartbeats 2000000 in
theorem qpV(wz:World)(h:AHeap)(v:AVal)(m:List (List UInt8))(hv:IsLs wz h v m)(hl:m.length<=1000000)(hl2:∀x∈m,x.length<=9223372036854775807):
 ACall Tryz.prog wz 11 [v] h (fun r h'=>∃s:LbG,r=QH 2 s.mb/\h'=Ql s.B s.mb/\LbOk h (qeS m) s):=by
 obtain⟨qs,hm,hv1,hv2⟩:=hv;have hlv:=hv1.live;have hlen:=qto hv1;have hmq:m.length=qs.length:=by rw[hm,Jp]
 have hcS:Sc .nilSlice=True:=eq_true trivial;refine qU (n:=30) (rs:=[.tmp 2]) Tryz.func11 rfl rfl rfl rfl (VN rfl) ?_;simp only[Qg];refine awp_rseq [0] (by rfl) fun K hK=>?_;simp+decide only[qa,ev,qH,qG,putD,VO,VP,Ka,Kb,↓qd,qb];apply hK;clear hK K;refine awp_rseq [0,3] (by rfl) fun K hK=>?_;simp+decide only[qa,ev,qH,qG,putD,VO,VP,Ka,Kb,↓qd,qb];apply hK;clear hK K;refine qJ ?_;refine awp_rseq [0,3,4] (by rfl) fun K hK=>?_;simp+decide only[qa,ev,qH,qG,putD,VO,VP,Ka,Kb,↓qd,qb];apply hK;clear hK K;refine Qm ?_;refine XC [0,3,4] (fun s:LbG=>[(0,v),(3,QH 2 s.mb),(4, .int .i64 s.i)]) (fun s:LbG=>Ql s.B s.mb) (fun s:LbG=>s.i<=qs.length/\s.i<=8/\LbOk h ((qeS m).take s.i) s) (fun s:LbG=>8-s.i) ⟨0,h,none,[]⟩ (by rfl) (Vm _) ⟨Jt _,Jt _,Vm _,trivial,rfl,rfl,⟨fun q hq=>(by cases hq),fun q hq=>(by cases hq),fun q hq=>(by cases hq),List.Pairwise.nil⟩⟩ ?_;rintro⟨i,B,mb,ms⟩ ⟨g1,g2,g3,g4,g5,g6,g7⟩;simp only at g1 g2 g3 g4 g5 g6 g7|-
 have hbl:=QP 2 mb;refine qJ ?_;refine awp_rseq [0,3,4,12] (by rfl) fun K hK=>?_;simp+decide only[qa,ev,qH,qG,putD,VO,VQ,VP,Ka,Kb,↓qg,qc,↓Xe,Qw,↓qw,qm,qR,cond_false,qo,XZ,↓Xf,agP,Qv,qM,qK,qC,implies_true,↓Xd,qA,Zv,Zw,↓QW,Qz,Qk,Xp,Xy,hlen];apply hK;clear hK K;refine qI (b:=_) rfl (fun hb1=>?_) (fun hb1=>?_)
 ·try simp only[decide_eq_true_eq,Ky]at hb1
  have hi:i<qs.length:=by omega
  have hi8:i<8:=by omega
  obtain⟨lc,o,c,rfl⟩:=qpt hv1 (by omega);have hSb:Sub h (Ql B mb):=g3.trans (BJ g4);have he:=qwy (hv1.mono hSb) hi;obtain⟨x,hx⟩:∃x,x=qs.getD i qsE:=⟨_,rfl⟩
  rw[<-hx]at he;have hxm:x∈qs:=by rw[hx];exact qaZ qsE hi
  have hxv:=(hv2 x hxm).mono hSb;have hxl:=hxv.live;have hmx:m.getD i []=x.1:=by rw[hm,hx,Ko,Ej,JA hi,Ko,JA hi];rfl
  have hx2:x.1.length<=9223372036854775807:=hl2 _ (by rw[hm];exact List.mem_map_of_mem hxm);have hcut:=qpH ⟨i,hi8⟩;simp only at hcut;have hcut1:List.take ((((i:Nat):Int)+1).toNat-i) (List.drop i ([48,49,50,51,52,53,54,55]:Str))=[KD (48+i)]:=by
   rw[show((i:Int)+1).toNat=i+1 by omega];exact hcut
  have hml:ms.length=i:=by
   have:=congrArg BR g6;rw[Jp,K5]at this;unfold qeS at this;rw[List.length_mapIdx,K5]at this;omega
  refine qP ?_;change Awp _ _ _ _ _ _ _;refine qJ ?_;refine Qm ?_;refine qlL [0,1,2,3,4,5,6,7,8,9,10,11,12,13,14] [false,false,false,false,false,false,false,false,false,false,false,false,false,false,false] [none,none,none,none,none,none,none,none,none,none,none,some 10,some 11,some 12,some 13] 13 mixed (by kernel_rfl) (by rfl) ?_;simp only[Zy,VK,Ep,Kz,KM];simp+decide only[qa,ev,qH,qG,putD,VO,VQ,Ka,Kb,qmR,qiH,Yt,↓qg,qc,↓qw,qm,qA,cond_false,qo,Xa];try simp(disch:=omega)only[wrap_i64]
  try simp+decide only[qa,ev,qH,qG,putD,VO,VQ,Ka,Kb,Yt,↓Wp,ZG,evO,qem Tryz.underlying9,qaU,qah,qR,cond_false,Zj,qfn,↓QE,qY,qW Tryz.underlying24 qCj,↓qF,qz qCM,he,hxl,hcut1,Vr,BK]
  refine⟨⟨by omega,by omega,by(show(i:Int)+1<=8;omega)⟩,by(simp only[KY,J9];omega),⟨by omega,by omega⟩,?_⟩;refine QU (by rfl) (by rfl) (qyK wz _ _ x.1 hxv hx2) fun x5q10 h5q10 hx5q10=>?_;obtain⟨tb,hxe,o1,o2,o3⟩:=hx5q10;subst hxe;obtain⟨sw1,sw2,sw3⟩:=qbK g4 o1;have hs5:Sub (Ql B mb) h5q10:=by rw[o3];exact BJ o1
  have hcl:=QP 5 tb;have hcS:=qAi 5 tb;have hcs:=XR 5 tb;rw[qa];refine And.intro (by first|exact Vm _|assumption|exact Vh (by assumption)) ?_;simp+decide only[qa,ev,qH,qG,putD,VO,VQ,Ka,Kb,Yt,↓Qu,↓Qa,qjb,evP,Ke,Vk,hcS];refine Qr (cs:=[.str (qcY i),QH 5 tb]) (by rfl) fun k5q12 hk5q12=>?_;try have hf_5q12:h k5q12=none:=by first|assumption|(simp only[V9]at hk5q12;simp only[hk5q12])
  rw[qa];refine And.intro (by first|exact Vm _|assumption|exact Vh (by assumption)) ?_;simp+decide only[putD,VO,if_false];refine Xt (es:=2) (zs:=ms.map qmH) (xs:=[[.str (qcY i),QH 5 tb]]) (hZ:=Ql B tb) (b:=mb) (by rfl) (by rfl) Tryz.underlying28 Tryz.underlying28 (fun k e=>by cases e) qtO qDc qCU (by rfl) (by decide) (by rfl) sw3 g5 qkZ (by rw[<-sw1,<-o3];exact Vh (by assumption)) (by rfl) (Ba (Ve _ _ _) (by simp) (by rfl) (by simp[AM.allLive,qE,hcl]) (.exact 1) (KL _)) (by simp[Qt,XM,hcs]) (by simp;omega) (by simp;omega) fun mb2 h5 p1 p2 p3=>?_;simp+decide only[qa,ev,putD,VO,VQ,Ka,Kb,↓qd,qb];change Awp _ _ _ _ _ _ _;refine XW [0,3,4] (by rfl) ?_;simp+decide only[qa,ev,qH,qG,putD,VO,VQ,VP,Ka,Kb,↓qg,qc,↓qw,qm,qA,cond_false,qo,Xa,↓qd,qb];try simp(disch:=omega)only[wrap_i64]
  try simp only[Qj]
  exact⟨⟨i+1,Ql B tb,mb2,ms++[(⟨qcY i,lOf x.1⟩,tb)]⟩,rfl,p3,⟨hi,hi8,g3.trans (BJ sw2),p1,by rw[p2,Bd];rfl,by rw[Bd,g6,quy (by omega) hi8,hmx];rfl,g7.push g3 sw2 o2⟩,by simp only;omega⟩
 ·try simp only[decide_eq_false_iff_not,VS]at hb1
  have he:=qwz (m:=m) g2 (by omega);refine XE ?_;change Awp _ _ _ _ _ _ _;refine awp_rseq [2] (by rfl) fun K hK=>?_;simp+decide only[qa,ev,putD,VO,VQ,VP,Ka,Kb,↓qg,qc,↓qd,qb];apply hK;clear hK K;refine qL ?_;refine QD (qN (Qc)) ?_;simp+decide only[VQ,if_true,Qs];exact⟨Ql B mb,Vm _,⟨i,B,mb,ms⟩,rfl,rfl,g3,g4,g5,by rw[g6,he],g7⟩
end Go.Proofs.YtlhhaagmakhilaaGreatDoor
