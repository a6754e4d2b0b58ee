/-
  Texts of this proof, joined: SwA, SwB, SwC, SwD, LwR, LwS, LwK, LwX, LwI, LwM, LwN.
  Conditions: none.
-/
import Derived.Test.YtgiadjbiimkbiaaGreatDoorBd
import Derived.Test.YtgiadjbiimkbiaaGreatDoorBe
import Derived.Test.YtgiadjbiimkbiaaGreatDoorProg
import Derived.Test.YtgiadjbiimkbiaaGreatDoorBb
import Derived.WalkKit
import Derived.ProofKit
import Derived.OpenShut
import Derived.ShutString
import Derived.ChangeOld
import Derived.Below
import Derived.Deep.Strs
import Derived.Handed
import Derived.HandedShaped
import Derived.Shelf.Vars
import Derived.Test.YtgiadjbiimkbiaaGreatDoorRows
import Derived.Lib.LaidTab
import Derived.MakeChecks
set_option linter.unusedSimpArgs false
set_option linter.unnecessarySimpa false
set_option linter.unusedVariables false
open List renaming mem_append->JX,mem_cons_self->Jg,mem_cons_of_mem->Jh,mem_singleton->V9,map_append->JK,length_map->Jp,getElem?_eq_getElem->JD,getD->Ko,length_append->Jd,map_eq_nil_iff->V5,map_take->Du,getElem_mem->VY,mem_map_of_mem->BL,length->Ee,length_take->K6,take_of_length_le->J3,flatten_append->Vv,append_assoc->Jb,range->KP,mem_map->JM,mem_range->JC,length_range->ES,getElem?_map->V6,length_singleton->JH,range_succ->Dw,map_singleton->Es,drop_zero->Vp,drop_succ_cons->VU,map_cons->Ke,map_nil->Vm,getElem?_eq_none->Kr,eq_nil_of_length_eq_zero->Kg,mem_of_getElem?->JO,map_map->Di
open Nat renaming le_of_ble_eq_true->V7,zero_le->Js,le_refl->KL,mul_one->Bo,lt_succ_iff->Dv,le_of_lt->BS,not_lt_zero->Dx,mul_comm->Dz,le_trans->Vg,add_assoc->Kw,zero_mul->K9,mod_eq_of_lt->DD
open Go.AM.AHeap renaming set_none->Bi,ne_some->Bl,set_set->Bn,set_same->Vj
open Go.AM.Sub renaming none->Bj,refl->Vk,trans->Bt,set->Vl
open Go.AM.Awp renaming forget->BO
open Go.AM.IsL renaming own->BA
open Bool renaming and_true->J8,true_and->Vz,not_not->VA
open Go.AM.Sep renaming fold->BZ,unfold->EN,lay->Ec
open Go.AM.GrowV renaming nil->Dt
open Int renaming toNat_natCast->Vw,tmod_eq_emod_of_nonneg->ED
open UInt8 renaming ofNat->KD,toNat_ofNat'->Dy
open Option renaming map_some->KI,bind_eq_some_iff->DC
namespace Go.AM
theorem Sep.nest2{ps qs:List AHeap}{H h:AHeap}(h1:Sep ps H)(h2:Sep (H::qs) h):Sep (ps++qs) h:=by
 obtain⟨d1,d2⟩:=List.pairwise_cons.1 h2.2;refine⟨fun p hp=>?_,List.pairwise_append.2 ⟨h1.2,d2,fun p hp q hq k=>?_⟩⟩
 ·rcases JX.1 hp with hp|hp
  ·exact(h1.1 p hp).trans (h2.1 _ Jg)
  ·exact h2.1 p (Jh _ hp)
 ·rcases d1 q hq k with z|z
  ·exact .inl ((h1.1 p hp).none z)
  ·exact .inr z
end Go.AM
namespace Go.Proofs.YtgiadjbiimkbiaaGreatDoor
open Go.AM
open Go.Proofs
open Go.Col (Str FaultC okF)
open Go.Tok (TokC)
open Go.Stm
open Go.RowKit (Below)
set_option maxRecDepth 100000
structure Item where
 sec:Str
 name:Str
 toks:List TokC
 line:Int
 col:Int
structure ParR where
 it:Item
 lv:AVal
 L:List StC
def qrm(q:ParR):List AVal:=[.str q.it.sec, .str q.it.name, .int .i64 q.it.line, .int .i64 q.it.col,q.lv]
structure OutS(wz:World)(h:AHeap)(k:Nat)(ov:AVal)(op E:AHeap)(qs:List ParR)(H:AHeap):Prop where
 sep:AM.Sep [h,one k ⟨[ov],0⟩,op,E] H
 row:GrowV 5 ov op (qs.map qrm)
 els:∀q∈qs,StsV wz 32 E q.lv q.L
theorem sts_shape{wz:World}{d:Nat}{h:AHeap}{v:AVal}{L:List StC}(hv:StsV wz d h v L):v.live=true/\v.scal=true/\v.cells=[v]:=by
 cases d with
 |zero=>exact⟨hv.2.live,hv.2.scal,hv.2.cells⟩
 |succ d=>
  obtain⟨qs,_,a,_⟩:=hv;exact⟨a.live,a.scal,a.cells⟩
theorem qoj{wz:World}{h:AHeap}{es:Nat}{v:AVal}{xs:List (List AVal)}(hv:IsL wz h es v xs):Sc v=True:=by cases hv<;>exact eq_true trivial
theorem stsR_Sc{wz:World}{h:AHeap}:∀{d:Nat} {v:AVal} {l:List StC},StsV wz d h v l->Sc v=True
 |0,_,_,hp=>qoj hp.2
 |_+1,_,_,⟨_,_,a,_⟩=>qoj a
def AddOut(wz:World)(h:AHeap)(k:Nat)(qs:List ParR)(it:Item):AVal->AHeap->Prop:=fun r h'=>
 ∃f lv L ov op E,r=faultV f/\(ParseR wordsO it.toks Qo (.bad f)\/(f=okF/\∃j,ParseR wordsO it.toks Qo (.ok L j)))/\OutS wz h k ov op E (qs++[⟨it,lv,L⟩]) h'
set_option maxHeartbeats 16000000 in
theorem c_addP(wz:World)(hm:MaxL wz)(ha:Asp wz)(h H:AHeap)(k2:Nat)(ov:AVal)(op E:AHeap)(qs:List ParR)(hq:qs.length<=100)(hO:OutS wz h k2 ov op E qs H)(s2:Str)(tv:AVal)(it:Item)(hl:it.toks.length<=1000000)(hsh:Short it.toks)(hv:IsL wz h 5 tv (it.toks.map Zb)):
 ACall Tryz.prog wz 36 [.str it.sec, .agg [.str s2, .str it.name,tv, .int .i64 it.line, .int .i64 it.col], .ptr (.own k2) 0] H (AddOut wz h k2 qs it):=by
 obtain⟨hS,hrow,hels⟩:=hO;obtain⟨sec,name,l,line,col⟩:=it;simp only at hl hsh hv|-
 have hs_H:AM.Sub h H:=hS.in_ (i:=0) rfl;have eb_2:H k2=some ⟨[ov],0⟩:=hS.at_ (i:=1) rfl;have hvl:=hv.live;have hvs:=hv.scal;have hvc:=hv.cells;have hovl:=hrow.live;have hovs:=hrow.scal;have hovc:=hrow.cells;refine qP (n:=25) (rs:=[.cell 5 48]) Tryz.func36 rfl rfl rfl rfl (V7 rfl) ?_;simp only[qU];refine awp_rseq [0,2,4,5] (by rfl) fun K hK=>?_;refine Ut (by rfl) (by rfl) (by rfl) fun k0q0 hk0q0=>?_;have hn_0q0:H k0q0=none:=by first|assumption|(simp only[Bi]at hk0q0;simp only[hk0q0])
 have hf_0q0:h k0q0=none:=Bj hs_H hn_0q0;have ne_0q0_2:k0q0≠k2:=Bl hn_0q0 eb_2;skip;refine Qz qhv (cs:=[.int .i64 0, .int .i64 0, .int .i64 0]) (by rfl) fun k0q1 hk0q1=>?_;have ne_0q1_0q0:k0q1≠k0q0:=by simp only[Bi]at hk0q1;simp only[Ua,hk0q1]
 have hn_0q1:H k0q1=none:=by first|assumption|(simp only[Bi]at hk0q1;simp only[hk0q1])
 have hf_0q1:h k0q1=none:=Bj hs_H hn_0q1;have ne_0q1_2:k0q1≠k2:=Bl hn_0q1 eb_2;simp+decide only[qR,Nat.reduceAdd];apply hK;clear hK K;have hS1:=(hS.lay hk0q0 ⟨[.str s2, .str name,tv, .int .i64 line, .int .i64 col],0⟩).lay hk0q1 ⟨[.int .i64 0, .int .i64 0, .int .i64 0],0⟩;simp only[Xv]at hS1;obtain⟨H1,hH1⟩:∃H1,H1=(H.set k0q0 ⟨[.str s2, .str name,tv, .int .i64 line, .int .i64 col],0⟩).set k0q1 ⟨[.int .i64 0, .int .i64 0, .int .i64 0],0⟩:=⟨_,rfl⟩
 rw[<-hH1]at hS1;refine BO (h':=H1) (by rw[hH1];exact Vk _) ?_;have eb_2:H1 k2=some _:=hS1.at_ (i:=1) rfl;have eb_0q0:H1 k0q0=some _:=hS1.at_ (i:=4) rfl;have eb_0q1:H1 k0q1=some _:=hS1.at_ (i:=5) rfl;have ne_2_0q0:k2≠k0q0:=hS1.ne (i:=1) (j:=4) rfl rfl (by decide);have ne_2_0q1:k2≠k0q1:=hS1.ne (i:=1) (j:=5) rfl rfl (by decide);have ne_0q0_0q1:k0q0≠k0q1:=hS1.ne (i:=4) (j:=5) rfl rfl (by decide);have hs_H1:AM.Sub h H1:=hS1.in_ (i:=0) rfl;refine awp_rseq [0,2,4,5,6,7] (by rfl) fun K hK=>?_;simp+decide only[qR,XD,↓qg,fa65_2,↓qj,qd qcn,Ql eb_0q0,hvl];refine qM (by rfl) (by rfl) (qss wz hm ha l hl hsh _ tv (hv.mono hs_H1)) fun x1q2 h1q2 hx1q2=>?_;obtain⟨hs_1,hpr⟩:=hx1q2;obtain⟨f,lv,L,E2,rfl,hcase,hS2,hst⟩:∃f lv L E2,x1q2= .tuple [lv,faultV f]/\(ParseR wordsO l Qo (.bad f)\/(f=okF/\∃j,ParseR wordsO l Qo (.ok L j)))/\AM.Sep [H1,E2] h1q2/\StsV wz 32 E2 lv L:=by
  rcases hpr with⟨f,q1,q2⟩|⟨L,j,rv,E2,q1,q2,q3,q4⟩
  ·exact⟨f, .nilSlice,[],emp,q2, .inl q1,Sep.emp (ps:=[H1]) ⟨fun p hp=>by rw[V9.1 hp];exact hs_1,by simp⟩,[],rfl, .nil,fun q hq=>by cases hq⟩
  ·exact⟨okF,rv,L,E2,q2, .inr ⟨rfl,j,q1⟩,q3,q4⟩
 have hS3:=Sep.nest2 hS1 hS2;simp only[Xv]at hS3;obtain⟨hll,hls,hlc⟩:=sts_shape hst;have hs_h1q2:Sub h h1q2:=Bt zqC hs_1;have hr_h1q2:Sub H1 h1q2:=Bt zqC hs_1;have eb_2:=hs_1 k2 _ zqA;have eb_0q0:=hs_1 k0q0 _ zqA;have eb_0q1:=hs_1 k0q1 _ zqA;simp+decide only[Qw,Xo,Xi,Xy,↓qc,↓Xr,Nat.reduceAdd,faultV];refine Qz qhv (cs:=[.int .i64 0, .int .i64 0, .int .i64 0]) (by rfl) fun k1q6 hk1q6=>?_;have hn_1q6:h1q2 k1q6=none:=by first|assumption|(simp only[Bi]at hk1q6;simp only[hk1q6])
 have hf_1q6:h k1q6=none:=Bj hs_h1q2 hn_1q6;have ne_1q6_2:k1q6≠k2:=Bl hn_1q6 eb_2;have ne_1q6_0q0:k1q6≠k0q0:=Bl hn_1q6 eb_0q0;have ne_1q6_0q1:k1q6≠k0q1:=Bl hn_1q6 eb_0q1;simp+decide only[qJ,↓qa];refine qN (by rfl) (by rfl) zqA UF (by rfl) (by rfl) zqD (Js _) (by first|rfl|(simp+decide only[ZJ,Qu,WU,ZM,qbM,hvs,hovs])) ?_;simp only[QZ,Bn];simp+decide only[qR,Nat.reduceAdd];apply hK;clear hK K;have hS4:=hS3.lay hn_1q6 ⟨[.int .i64 f.e, .int .i64 f.line, .int .i64 f.col],0⟩;simp only[Xv]at hS4;obtain⟨H4,hH4⟩:∃H4,H4=h1q2.set k1q6 ⟨[.int .i64 f.e, .int .i64 f.line, .int .i64 f.col],0⟩:=⟨_,rfl⟩
 rw[<-hH4]at hS4;refine BO (h':=H4) (by rw[hH4];exact Vk _) ?_;have eb_2:H4 k2=some _:=hS4.at_ (i:=1) rfl;have eb_0q0:H4 k0q0=some _:=hS4.at_ (i:=4) rfl;have eb_0q1:H4 k0q1=some _:=hS4.at_ (i:=5) rfl;have eb_1q6:H4 k1q6=some _:=hS4.at_ (i:=7) rfl;have hs_H4:AM.Sub h H4:=hS4.in_ (i:=0) rfl;refine awp_rseq [5,7] (by rfl) fun K hK=>?_;simp+decide only[ZU,XN,Yo,XO,Za,XZ,Xt,WO,Zw,evP,↓qj,qd ag68,↓qc,↓qg,fa65_1,qd ag9,fa65_3,Qa ag42 sz42,↓YJ,↓XL,qmN,Ql eb_2,Ql eb_0q0,Nat.reduceAdd,hovl,stsR_Sc hst];refine Qd (cs:=[.str sec, .str name, .int .i64 line, .int .i64 col,lv]) (by kernel_rfl) fun k2q8 hk2q8=>?_;have hn_2q8:H4 k2q8=none:=by first|assumption|(simp only[Bi]at hk2q8;simp only[hk2q8])
 have hf_2q8:h k2q8=none:=Bj hs_H4 hn_2q8;have ne_2q8_2:k2q8≠k2:=Bl hn_2q8 eb_2;have ne_2q8_0q0:k2q8≠k0q0:=Bl hn_2q8 eb_0q0;have ne_2q8_0q1:k2q8≠k0q1:=Bl hn_2q8 eb_0q1;have ne_2q8_1q6:k2q8≠k1q6:=Bl hn_2q8 eb_1q6;refine Yi (es:=5) (v:=ov) (p:=op) (xs:=qs.map qrm) (ys:=[[.str sec, .str name, .int .i64 line, .int .i64 col,lv]]) (i:=2) (by rfl) (by rfl) Tryz.underlying68 Tryz.underlying68 (fun k e=>by cases e) sz72 by72 ze72 (by rfl) (by decide) (by rfl) hrow rfl (hS4.forget (Vl hn_2q8)) (by rfl) (BA (Vj _ _ _) (fun x hx=>by rw[V9.1 hx];rfl) (by rfl) (by show(true && (true && (true && (true && (lv.live && true)))))=true;rw[hll];rfl) (.exact 1) (KL _)) (by show(true && (true && (true && (true && (lv.scal && true)))))=true;rw[hls];rfl) (by simp) (by simp only[Yb];omega) (by simp only[Yb];omega) fun ov2 op2 h5 hg2 _ hS5=>?_;simp only[XE]at hS5;refine qN (v:=ov2) (by rfl) (by rfl) (hS5.at_ (i:=1) rfl) sz68 hg2.live (by rw[hg2.cells];rfl) (by simp only[Xo];omega) (Js _) (by rw[hg2.cells];simp[Qu,hg2.scal]) ?_;simp only[XE,WN,hg2.cells];have hS6:=hS5.put (i:=1) rfl ⟨[ov2],0⟩;simp only[XE]at hS6;simp+decide only[qR];apply hK;clear hK K;obtain⟨H6,hH6⟩:∃H6,H6=h5.set k2 ⟨[ov2],0⟩:=⟨_,rfl⟩
 rw[<-hH6]at hS6;refine BO (h':=H6) (by rw[hH6];exact Vk _) ?_;have eb_2:H6 k2=some _:=hS6.at_ (i:=1) rfl;have eb_0q1:H6 k0q1=some _:=hS6.at_ (i:=5) rfl;have eb_1q6:H6 k1q6=some _:=hS6.at_ (i:=7) rfl;have hs_H6:AM.Sub h H6:=hS6.in_ (i:=0) rfl;refine awp_rseq [5] (by rfl) fun K hK=>?_;simp+decide only[qR,Xa,↓qj,Qa qeR UF,Ql eb_1q6,Nat.reduceAdd];refine qN (by rfl) (by rfl) zqA UF (by rfl) (by rfl) zqD (Js _) (by first|rfl|(simp+decide only[ZJ,Qu,WU,ZM,qbM,hvs,hovs])) ?_;simp only[QZ];simp+decide only[qR,Nat.reduceAdd];apply hK;clear hK K;refine qV ?_;refine Qk (?_) ?_
 ·simp+decide only[qeJ,ev,J8,and_true,true_and,ne_eq,not_false_eq_true,Qt,cellsAt,qeK,Vz,ZV,qaC,Wp,Qa qeR UF,Nat.reduceAdd,Nat.reduceAdd]
 simp+decide only[Zg,ZV,qaC,qhc,Qa qeR UF,Nat.reduceAdd,Nat.reduceAdd];have hS7:=hS6.put (i:=5) rfl ⟨[.int .i64 f.e, .int .i64 f.line, .int .i64 f.col],0⟩;simp only[XE]at hS7;have hsu:=Xl (ps:=[E,E2]) (hS7.pick [3,6] (by decide) (by simp)).2;refine⟨_,Vk _,f,lv,L,ov2,op2,YY [E,E2],rfl,hcase,⟨(BZ (ps:=[E,E2]) (hS7.pick [3,6,0,1,2] (by decide) (by simp))).pick [1,2,3,0] (by decide) (by simp),by rw[JK];exact hg2,fun q hq=>?_⟩⟩;rcases JX.1 hq with hq|hq
 ·exact(hels q hq).mono (hsu E (by simp))
 ·rw[V9.1 hq]
  exact hst.mono (hsu E2 (by simp))
structure ParI where
 it:Item
 tv:AVal
def qeZ(p:ParI):List AVal:=[.str p.it.sec, .str p.it.name,p.tv, .int .i64 p.it.line, .int .i64 p.it.col]
structure UseI where
 sec:Str
 uv:AVal
 pv:AVal
 ps:List ParI
def qna(u:UseI):List AVal:=[.str u.sec,u.uv,u.pv]
def Item.under(it:Item)(s:Str):Item:={it with sec:=s}
def UseI.items(u:UseI):List Item:=u.ps.map fun p=>p.it.under u.sec
def YM(ps:List ParI)(us:List UseI):List Item:=ps.map (·.it)++(us.map UseI.items).flatten
def noIt:Item:=⟨[],[],[],0,0⟩
def noP:ParI:=⟨noIt, .nilSlice⟩
def noU:UseI:=⟨[], .nilSlice, .nilSlice,[]⟩
theorem par_at{wz:World}{h:AHeap}{lc:AM.Loc}{o n:Nat}{c:Cap}{qs:List ParI}(ht:IsL wz h 5 (.slice lc o n c) (qs.map qeZ)){i:Nat}(hi:i<qs.length):
 rd wz h lc (o+i*5)= .str (qs.getD i noP).it.sec/\rd wz h lc (o+i*5+1)= .str (qs.getD i noP).it.name/\rd wz h lc (o+i*5+2)=(qs.getD i noP).tv/\rd wz h lc (o+i*5+3)= .int .i64 (qs.getD i noP).it.line/\rd wz h lc (o+i*5+4)= .int .i64 (qs.getD i noP).it.col:=by
 have he:=ht.elem (i:=i) (by rw[Jp];exact hi);rw[getD_map noP hi]at he;simp only[and_true,cellsAt,List.cons.injEq,qeZ]at he;exact he
theorem use_at{wz:World}{h:AHeap}{lc:AM.Loc}{o n:Nat}{c:Cap}{qs:List UseI}(ht:IsL wz h 3 (.slice lc o n c) (qs.map qna)){i:Nat}(hi:i<qs.length):
 rd wz h lc (o+i*3)= .str (qs.getD i noU).sec/\rd wz h lc (o+i*3+1)=(qs.getD i noU).uv/\rd wz h lc (o+i*3+2)=(qs.getD i noU).pv:=by
 have he:=ht.elem (i:=i) (by rw[Jp];exact hi);rw[getD_map noU hi]at he;simp only[and_true,cellsAt,List.cons.injEq,qna]at he;exact he
theorem qgY{α:Type}(d:α){l:List α}{i:Nat}(h:i<l.length):l.take (i+1)=l.take i++[l.getD i d]:=by
 rw[List.take_add_one,JD h,Ko,JD h];rfl
set_option maxHeartbeats 4000000 in
theorem c_clipPg(wz:World)(h:AHeap)(v:AVal)(xs:List (List AVal))(hv:IsL wz h 5 v xs):ACall Tryz.prog wz 37 [v] h (fun r h'=>r=ZA v/\h'=h):=by
 have hlen:=hv.len Tryz.underlying68;have h3:=hv.slice3 Tryz.underlying68 sz72 .i64 .i64 none rfl;refine qP (n:=9) (rs:=[.tmp 2]) Tryz.func37 rfl rfl rfl rfl (V7 rfl) ?_;simp only[qU];refine awp_rseq [0] (by rfl) fun K hK=>?_;simp+decide only[Zo,Ul,Qt,qac,ZO,↓qa];apply hK;clear hK K;refine awp_rseq [2] (by rfl) fun K hK=>?_;simp+decide only[Zo,Ul,Qt,qac,qbV,ZO,Qm,Wz,↓qc,↓Qr,↓qaz,evO,↓qa,hlen,h3];apply hK;clear hK K;refine qV ?_;refine QL _ (Vk _) (qA (qC)) ?_;simp+decide only[Zo,Ul,Qt,qac,Uv];all_goals first|rfl|exact⟨rfl,rfl⟩|(simp+decide only[Ka, *];done)|(trace_state;fail)
def ProgOut(wz:World)(its:List Item)(h:AHeap):AVal->AHeap->Prop:=fun r h'=>AM.Sub h h'/\
 ((∃it∈its,∃f,ParseR wordsO it.toks Qo (.bad f)/\r= .tuple [.nilSlice,faultV f])\/
  ∃qs:List ParR,∃rv,qs.map (·.it)=its/\(∀q∈qs,∃j,ParseR wordsO q.it.toks Qo (.ok q.L j))/\r= .tuple [rv,faultV okF]/\IsL wz h' 5 rv (qs.map qrm)/\∀q∈qs,StsV wz 32 h' q.lv q.L)
structure PrG where
 i:Nat
 ov:AVal
 op:AHeap
 E:AHeap
 qs:List ParR
 H:AHeap
structure PrI(wz:World)(ps:List AHeap)(k:Nat)(its:List Item)(g:PrG):Prop where
 sep:AM.Sep (ps++[one k ⟨[g.ov],0⟩,g.op,g.E]) g.H
 row:GrowV 5 g.ov g.op (g.qs.map qrm)
 els:∀q∈g.qs,StsV wz 32 g.E q.lv q.L
 done:g.qs.map (·.it)=its
 ok:∀q∈g.qs,∃j,ParseR wordsO q.it.toks Qo (.ok q.L j)
theorem PrI.more{wz:World}{ps:List AHeap}{k:Nat}{its:List Item}{qs:List ParR}(hd:ps.Pairwise disj){h':AHeap}{lv:AVal}{L:List StC}{ov2:AVal}{op2 E2:AHeap}{it:Item}(hO:OutS wz (YY ps) k ov2 op2 E2 (qs++[⟨it,lv,L⟩]) h')(hdone:qs.map (·.it)=its)(hok:∀q∈qs,∃j,ParseR wordsO q.it.toks Qo (.ok q.L j)){j:Nat}(hj:ParseR wordsO it.toks Qo (.ok L j)){H2:AHeap}(hs:AM.Sub h' H2)(i2:Nat):
 PrI wz ps k (its++[it]) ⟨i2,ov2,op2,E2,qs++[⟨it,lv,L⟩],H2⟩:=
 ⟨(EN hd hO.sep).forget hs,hO.row,hO.els,by rw[JK,hdone];rfl,fun q hq=>by
  rcases JX.1 hq with hq|hq
  ·exact hok q hq
  ·rw[V9.1 hq];exact⟨j,hj⟩⟩
set_option maxHeartbeats 16000000 in
theorem c_Program(wz:World)(hm:MaxL wz)(ha:Asp wz)(h:AHeap)(s:Str)(v1 v2 v3 v4 v5 v6 uv pv:AVal)(ps:List ParI)(us:List UseI)(h6:v1= .nilSlice/\v2= .nilSlice/\v3= .nilSlice/\v4= .nilSlice/\v5= .nilSlice/\v6= .nilSlice)
 (hpv:IsL wz h 5 pv (ps.map qeZ)) (hpt:∀p∈ps,IsL wz h 5 p.tv (p.it.toks.map Zb)) (huv:IsL wz h 3 uv (us.map qna)) (hut:∀u∈us,(u.uv.live=true/\u.uv.scal=true/\u.uv.cells=[u.uv])/\IsL wz h 5 u.pv (u.ps.map qeZ)/\∀p∈u.ps,IsL wz h 5 p.tv (p.it.toks.map Zb))
 (hn:(YM ps us).length<=50) (hi:∀it∈YM ps us,it.toks.length<=1000000/\Short it.toks/\∀f,ParseR wordsO it.toks Qo (.bad f)->f.e≠0) (hul:us.length<=50):
 ACall Tryz.prog wz 17 [.agg [.str s,v1,v2,v3,v4,v5,v6,uv,pv]] h (ProgOut wz (YM ps us) h):=by
 obtain⟨rfl,rfl,rfl,rfl,rfl,rfl⟩:=h6;have hpl:=hpv.live;have hul2:=huv.live;have np:∀H:AHeap,Ze Tryz.prog H 56 pv=⟨True, .int .i64 ps.length⟩:=fun H=>by have:=hpv.len Tryz.underlying56 H;rwa [Jp]at this
 have nu:∀H:AHeap,Ze Tryz.prog H 55 uv=⟨True, .int .i64 us.length⟩:=fun H=>by have:=huv.len Tryz.underlying55 H;rwa [Jp]at this
 have hps50:ps.length<=50:=by unfold YM at hn;rw[Jd,Jp]at hn;omega
 refine qP (n:=60) (rs:=[.tmp 2, .cell 3 48]) Tryz.func17 rfl rfl rfl rfl (V7 rfl) ?_;simp only[qU];refine awp_rseq [1,3] (by rfl) fun K hK=>?_;refine Ut (v:= .agg [.str s, .nilSlice, .nilSlice, .nilSlice, .nilSlice, .nilSlice, .nilSlice,uv,pv]) (cs:=[.str s, .nilSlice, .nilSlice, .nilSlice, .nilSlice, .nilSlice, .nilSlice,uv,pv]) (by rfl) (by simp+decide only[J8,allLive,qjl,qlH,qbZ,qoD]) (by rfl) fun k0q0 hk0q0=>?_;try have hf_0q0:h k0q0=none:=by first|assumption|(simp only[Bi]at hk0q0;simp only[hk0q0])
 simp+decide only[qJ,↓qa];refine Qz qhv (cs:=[.int .i64 0, .int .i64 0, .int .i64 0]) (by rfl) fun k0q2 hk0q2=>?_;have ne_0q2_0q0:k0q2≠k0q0:=by simp only[Bi]at hk0q2;simp only[Ua,hk0q2]
 try have hf_0q2:h k0q2=none:=by first|assumption|(simp only[Bi]at hk0q2;simp only[hk0q2])
 simp+decide only[qR];apply hK;clear hK K;refine awp_rseq [1,3,4] (by rfl) fun K hK=>?_;refine Qz ze68 (cs:=[.nilSlice]) (by rfl) fun k1q0 hk1q0=>?_;have ne_1q0_0q0:k1q0≠k0q0:=by simp only[Bi]at hk1q0;simp only[Ua,hk1q0]
 have ne_1q0_0q2:k1q0≠k0q2:=by simp only[Bi]at hk1q0;simp only[Ua,hk1q0]
 try have hf_1q0:h k1q0=none:=by first|assumption|(simp only[Bi]at hk1q0;simp only[hk1q0])
 simp+decide only[qR];apply hK;clear hK K;refine awp_rseq [1,3,4,5] (by rfl) fun K hK=>?_;simp+decide only[qJ,XN,evs,↓qkp,qhT,↓qa];apply hK;clear hK K;refine qo ?_;have hS3:=((Ec (Ec (ps:=[h]) ⟨fun p hp=>by rw[V9.1 hp];exact Vk _,by simp⟩ hk0q0 ⟨[.str s, .nilSlice, .nilSlice, .nilSlice, .nilSlice, .nilSlice, .nilSlice,uv,pv],0⟩) hk0q2 ⟨[.int .i64 0, .int .i64 0, .int .i64 0],0⟩)).lay hk1q0 ⟨[.nilSlice],0⟩;simp only[Xv]at hS3;obtain⟨H3,hH3⟩:∃H3,H3=((h.set k0q0 ⟨[.str s, .nilSlice, .nilSlice, .nilSlice, .nilSlice, .nilSlice, .nilSlice,uv,pv],0⟩).set k0q2 ⟨[.int .i64 0, .int .i64 0, .int .i64 0],0⟩).set k1q0 ⟨[.nilSlice],0⟩:=⟨_,rfl⟩
 rw[<-hH3]at hS3;refine BO (h':=H3) (by rw[hH3];exact Vk _) ?_;have eb_0q0:H3 k0q0=some _:=hS3.at_ (i:=1) rfl;have eb_0q2:H3 k0q2=some _:=hS3.at_ (i:=2) rfl;have eb_1q0:H3 k1q0=some _:=hS3.at_ (i:=3) rfl;have hs_H3:AM.Sub h H3:=hS3.in_ (i:=0) rfl;obtain⟨PS,hPS⟩:∃PS:List AHeap,PS=[h,one k0q0 ⟨[.str s, .nilSlice, .nilSlice, .nilSlice, .nilSlice, .nilSlice, .nilSlice,uv,pv],0⟩,one k0q2 ⟨[.int .i64 0, .int .i64 0, .int .i64 0],0⟩]:=⟨_,rfl⟩
 have hPd:PS.Pairwise disj:=by rw[hPS];exact(hS3.pick [0,1,2] (by decide) (by simp)).2
 have hPh:AM.Sub h (YY PS):=Xl hPd h (by rw[hPS];simp);refine awp_rseq [1,3,4,5,16,17,18] (by rfl) fun K hK=>?_;simp+decide only[ZU,Qm,↓qg,fa58_8,↓qj,qd ag56,↓Qr,↓qc,Ql eb_0q0,hpl,np];apply hK;clear hK K;refine qK ?_;refine QD [1,3,4,5,16,17,18] (fun g:PrG=>[(1, .ptr (.own k0q0) 0),(3, .ptr (.own k0q2) 0),(4, .ptr (.own k1q0) 0),(5, .func 36 [.ptr (.own k1q0) 0]),(16,pv),(17, .int .i64 ps.length),(18, .int .i64 g.i)]) (fun g:PrG=>g.H) (fun g:PrG=>PrI wz PS k1q0 ((ps.map (·.it)).take g.i) g/\g.i<=ps.length) (fun g:PrG=>ps.length-g.i) ⟨0, .nilSlice,emp,emp,[],H3⟩ (by rfl) (Vk _) ⟨⟨by rw[hPS];exact hS3.emp.emp,Dt,(fun q hq=>by cases hq),rfl,fun q hq=>by cases hq⟩,Js _⟩ ?_;rintro⟨i,ov,op,E,qs,H⟩ ⟨⟨hS,hrow,hels,hdone,hok⟩,hile⟩;simp only at hS hrow hels hdone hok hile|-
 rw[hPS]at hS;simp only[Xv]at hS;have eb_0q0:H k0q0=some _:=hS.at_ (i:=1) rfl;have eb_0q2:H k0q2=some _:=hS.at_ (i:=2) rfl;have eb_1q0:H k1q0=some _:=hS.at_ (i:=3) rfl;have hs_H:AM.Sub h H:=hS.in_ (i:=0) rfl;refine awp_rseq [1,3,4,5,16,17,18,19] (by rfl) fun K hK=>?_;simp+decide only[Zp,YT,↓qf];apply hK;clear hK K;refine qo (qz (b:=_) rfl (fun hb1=>?_) (fun hb1=>?_))
 ·try simp only[qG]at hb1
  have hi1:i<ps.length:=by omega
  obtain⟨lc,o,cc,hpe⟩:=hpv.open (fun e=>by rw[V5]at e;rw[e]at hi1;cases hi1);have hq2:=hpv.mono hs_H;rw[hpe]at hq2;obtain⟨e0,e1,e2,e3,e4⟩:=par_at hq2 hi1;obtain⟨p,hpq⟩:∃p,p=ps.getD i noP:=⟨_,rfl⟩
  have htk:(ps.map (·.it)).take (i+1)=(ps.map (·.it)).take i++[p.it]:=by rw[<-Du,qgY noP hi1,JK,<-hpq,Du];rfl
  rw[<-hpq]at e0 e1 e2 e3 e4;have hpm:p∈ps:=by rw[hpq,Ko,JD hi1];exact VY hi1
  have hpi:p.it∈YM ps us:=JX.2 (.inl (BL hpm));obtain⟨hi3,hi4,hi5⟩:=hi p.it hpi;have htv:=hpt p hpm;have htl:=htv.live;have hts:=htv.scal;have htc:=htv.cells;have hqn:qs.length<=100:=by
   have:=congrArg Ee hdone;rw[Jp,K6,Jp]at this;omega
  have hwi:IntKind.i64.wrap ((i:Int)+1)=((i+1:Nat):Int):=by rw[wrap_i64 (by omega) (by omega)];omega
  have hib:(0<=(i:Int)/\(i:Int)<(ps.length:Int))=True:=eq_true ⟨by omega,by omega⟩;refine qE ?_;change Awp _ _ _ _ _ _ _;refine qo ?_;refine qK ?_;refine awp_rseq [1,3,4,5,7,16,17,18] (by rfl) fun K hK=>?_;simp+decide only[qR,Xa,Vw,Jp,↓qI,qh Tryz.underlying56 qku,↓qj,Qa ag65 qku,hpe,e0,e1,e2,e3,e4,hib,htl];refine Qz ze65 (cs:=[.str [], .str [], .nilSlice, .int .i64 0, .int .i64 0]) (by rfl) fun k5q2 hk5q2=>?_;have hn_5q2:H k5q2=none:=by first|assumption|(simp only[Bi]at hk5q2;simp only[hk5q2])
  have hf_5q2:h k5q2=none:=Bj hs_H hn_5q2;have ne_5q2_0q0:k5q2≠k0q0:=Bl hn_5q2 eb_0q0;have ne_5q2_0q2:k5q2≠k0q2:=Bl hn_5q2 eb_0q2;have ne_5q2_1q0:k5q2≠k1q0:=Bl hn_5q2 eb_1q0;refine qN (by rfl) (by rfl) zqA qku (by rfl) (by rfl) zqD (Js _) (by first|rfl|(simp+decide only[ZJ,Qu,WU,ZM,hts])) ?_;simp only[QZ,Bn];simp+decide only[qR,Vw,Jp,Nat.reduceAdd];apply hK;clear hK K;have hS6:=hS.lay hn_5q2 ⟨[.str p.it.sec, .str p.it.name,p.tv, .int .i64 p.it.line, .int .i64 p.it.col],0⟩;simp only[Xv]at hS6;obtain⟨H6,hH6⟩:∃H6,H6=H.set k5q2 ⟨[.str p.it.sec, .str p.it.name,p.tv, .int .i64 p.it.line, .int .i64 p.it.col],0⟩:=⟨_,rfl⟩
  rw[<-hH6]at hS6;refine BO (h':=H6) (by rw[hH6];exact Vk _) ?_;have eb_0q0:H6 k0q0=some _:=hS6.at_ (i:=1) rfl;have eb_0q2:H6 k0q2=some _:=hS6.at_ (i:=2) rfl;have eb_1q0:H6 k1q0=some _:=hS6.at_ (i:=3) rfl;have eb_5q2:H6 k5q2=some _:=hS6.at_ (i:=6) rfl;have hs_H6:AM.Sub h H6:=hS6.in_ (i:=0) rfl;refine awp_rseq [1,3,4,5,8,16,17,18] (by rfl) fun K hK=>?_;simp+decide only[ZU,↓qc,↓qg,fa65_0,↓qj,qd ag9,Qa ag65 qku,Ql eb_5q2,Nat.reduceAdd,htl];refine qM (by rfl) (by rfl) (c_addP wz hm ha (YY PS) H6 k1q0 ov op E qs hqn ⟨by rw[hPS];exact BZ (ps:=[h,one k0q0 ⟨[.str s, .nilSlice, .nilSlice, .nilSlice, .nilSlice, .nilSlice, .nilSlice,uv,pv],0⟩,one k0q2 ⟨[.int .i64 0, .int .i64 0, .int .i64 0],0⟩]) (hS6.pick [0,1,2,3,4,5] (by decide) (by simp)),hrow,hels⟩ p.it.sec p.tv p.it hi3 hi4 (htv.mono hPh)) fun x6q4 h6q4 hx6q4=>?_;obtain⟨f,lv,L,ov2,op2,E2,rfl,hcase,hO2⟩:=hx6q4;have hS7:=EN hPd hO2.sep;rw[hPS]at hS7;simp only[Xv]at hS7;have eb_0q0:h6q4 k0q0=some _:=hS7.at_ (i:=1) rfl;have eb_0q2:h6q4 k0q2=some _:=hS7.at_ (i:=2) rfl;have eb_1q0:h6q4 k1q0=some _:=hS7.at_ (i:=3) rfl;have hs_h6q4:AM.Sub h h6q4:=hS7.in_ (i:=0) rfl;refine Qz qhv (cs:=[.int .i64 0, .int .i64 0, .int .i64 0]) (by rfl) fun k6q5 hk6q5=>?_;have hn_6q5:h6q4 k6q5=none:=by first|assumption|(simp only[Bi]at hk6q5;simp only[hk6q5])
  have hf_6q5:h k6q5=none:=Bj hs_h6q4 hn_6q5;have ne_6q5_0q0:k6q5≠k0q0:=Bl hn_6q5 eb_0q0;have ne_6q5_0q2:k6q5≠k0q2:=Bl hn_6q5 eb_0q2;have ne_6q5_1q0:k6q5≠k1q0:=Bl hn_6q5 eb_1q0;refine qN (by rfl) (by rfl) zqA UF (by rfl) (by rfl) zqD (Js _) (by first|rfl|(simp+decide only[ZJ,Qu,WU,ZM,qbM])) ?_;simp only[QZ,Bn];simp+decide only[qR,Nat.reduceAdd,faultV];apply hK;clear hK K;have hS8:=hS7.lay hn_6q5 ⟨[.int .i64 f.e, .int .i64 f.line, .int .i64 f.col],0⟩;simp only[Xv]at hS8;obtain⟨H7,hH7⟩:∃H7,H7=h6q4.set k6q5 ⟨[.int .i64 f.e, .int .i64 f.line, .int .i64 f.col],0⟩:=⟨_,rfl⟩
  have hs7:AM.Sub h6q4 H7:=by rw[hH7];exact Vl hn_6q5
  rw[<-hH7]at hS8;refine BO (h':=H7) (by rw[hH7];exact Vk _) ?_;have eb_0q0:H7 k0q0=some _:=hS8.at_ (i:=1) rfl;have eb_0q2:H7 k0q2=some _:=hS8.at_ (i:=2) rfl;have eb_1q0:H7 k1q0=some _:=hS8.at_ (i:=3) rfl;have eb_6q5:H7 k6q5=some _:=hS8.at_ (i:=6) rfl;have hs_H7:AM.Sub h H7:=hS8.in_ (i:=0) rfl;refine awp_rseq [1,3,4,5,8,16,17,18,29] (by rfl) fun K hK=>?_;simp+decide only[Zp,XD,qO,UR,↓qg,qoT,↓qj,qd ag46,↓qf,Ql eb_6q5];apply hK;clear hK K;refine qz (b:=_) rfl (fun hb2=>?_) (fun hb2=>?_)
  ·try simp only[qG]at hb2
   have hbad:ParseR wordsO p.it.toks Qo (.bad f):=by
    rcases hcase with z|⟨z,_⟩
    ·exact z
    ·rw[z]at hb2;exact absurd rfl hb2
   refine qdH 2 [2,3] mixed (by kernel_rfl) (by rfl) (by rfl) fun K hK=>?_;simp+decide only[qJ,Xa,↓qj,Qa qeR UF,↓qa,Ql eb_6q5,Nat.reduceAdd];refine qN (by rfl) (by rfl) zqA UF (by rfl) (by rfl) zqD (Js _) (by first|rfl|(simp+decide only[ZJ,Qu,WU,ZM,qbM])) ?_;simp only[QZ];simp+decide only[qR,Nat.reduceAdd];apply hK;clear hK K;refine qV ?_;try simp only[Xz]
   refine Qk (?_) ?_
   ·simp+decide only[qeJ,ev,J8,and_true,true_and,ne_eq,not_false_eq_true,Qt,cellsAt,qeK,Vz,ZV,qaC,Wp,qaY,qaY,Qa qeR UF,Nat.reduceAdd,Nat.reduceAdd]
   simp+decide only[Zg,ZV,qaC,qcL,qaY,Qa qeR UF,Nat.reduceAdd,Nat.reduceAdd];have hS9:=hS8.put (i:=2) rfl ⟨[.int .i64 f.e, .int .i64 f.line, .int .i64 f.col],0⟩;exact⟨_,Vk _,hS9.in_ (i:=0) rfl, .inl ⟨p.it,hpi,f,hbad,rfl⟩⟩
  ·try simp only[qG]at hb2
   obtain⟨j1,hj1⟩:∃j,ParseR wordsO p.it.toks Qo (.ok L j):=by
    rcases hcase with z|⟨_,z⟩
    ·exact absurd (by omega) (hi5 f z)
    ·exact z
   refine qE ?_;change Awp _ _ _ _ _ _ _;refine QK [1,3,4,5,16,17,18] (by rfl) ?_;simp+decide only[QH,ZE,↓qf,↓qc,hwi];try simp only[QT]
   refine⟨⟨i+1,ov2,op2,E2,qs++[⟨p.it,lv,L⟩],H7⟩,by simp only[Jp,hpe];rfl,Vk _,⟨?_,by simp only;omega⟩,by simp only;omega⟩;rw[htk];exact PrI.more hPd hO2 hdone hok hj1 hs7 (i+1)
 ·try simp only[qG]at hb1
  have hdone2:qs.map (·.it)=ps.map (·.it):=by rw[hdone,J3 (by rw[Jp];omega)]
  refine QC ?_;change Awp _ _ _ _ _ _ _;refine qo ?_;refine awp_rseq [3,4,5,33,34,35] (by rfl) fun K hK=>?_;simp+decide only[ZU,Qm,↓qg,fa58_7,↓qj,qd ag55,↓Qr,↓qc,Ql eb_0q0,hul2,nu];apply hK;clear hK K;refine qK ?_;refine QD [3,4,5,33,34,35] (fun g:PrG=>[(3, .ptr (.own k0q2) 0),(4, .ptr (.own k1q0) 0),(5, .func 36 [.ptr (.own k1q0) 0]),(33,uv),(34, .int .i64 us.length),(35, .int .i64 g.i)]) (fun g:PrG=>g.H) (fun g:PrG=>PrI wz PS k1q0 (ps.map (·.it)++((us.take g.i).map UseI.items).flatten) g/\g.i<=us.length) (fun g:PrG=>us.length-g.i) ⟨0,ov,op,E,qs,H⟩ (by rfl) (Vk _) ⟨⟨by rw[hPS];exact hS,hrow,hels,by rw[hdone2];simp,hok⟩,Js _⟩ ?_;rintro⟨j,ov,op,E,qs,H⟩ ⟨⟨hS,hrow,hels,hdone,hok⟩,hjle⟩;simp only at hS hrow hels hdone hok hjle|-
  rw[hPS]at hS;simp only[Xv]at hS;have eb_0q0:H k0q0=some _:=hS.at_ (i:=1) rfl;have eb_0q2:H k0q2=some _:=hS.at_ (i:=2) rfl;have eb_1q0:H k1q0=some _:=hS.at_ (i:=3) rfl;have hs_H:AM.Sub h H:=hS.in_ (i:=0) rfl;refine awp_rseq [3,4,5,33,34,35,36] (by rfl) fun K hK=>?_;simp+decide only[Zp,YT,↓qf];apply hK;clear hK K;refine qo (qz (b:=_) rfl (fun hb3=>?_) (fun hb3=>?_))
  ·try simp only[qG]at hb3
   have hj1:j<us.length:=by omega
   obtain⟨lc,o,cc,hpe⟩:=huv.open (fun e=>by rw[V5]at e;rw[e]at hj1;cases hj1);have hq2:=huv.mono hs_H;rw[hpe]at hq2;obtain⟨e0,e1,e2⟩:=use_at hq2 hj1;obtain⟨u,huq⟩:∃u,u=us.getD j noU:=⟨_,rfl⟩
   have htk2:((us.take (j+1)).map UseI.items).flatten=((us.take j).map UseI.items).flatten++u.items:=by rw[qgY noU hj1,JK,Vv,<-huq];simp
   rw[<-huq]at e0 e1 e2;have hum:u∈us:=by rw[huq,Ko,JD hj1];exact VY hj1
   obtain⟨⟨hwl,hws,hwc⟩,hup,hut2⟩:=hut u hum;have hpl2:=hup.live;have hps2:=hup.scal;have hpc2:=hup.cells;have np2:∀H:AHeap,Ze Tryz.prog H 56 u.pv=⟨True, .int .i64 u.ps.length⟩:=fun H=>by have:=hup.len Tryz.underlying56 H;rwa [Jp]at this
   have hui:∀it∈u.items,it∈YM ps us:=fun it hit=>JX.2 (.inr (List.mem_flatten.2 ⟨u.items,BL hum,hit⟩));have hu50:(ps.map (·.it)++((us.take j).map UseI.items).flatten).length+u.ps.length<=50:=by
    have h1:YM ps us=(ps.map (·.it)++(((us.take j).map UseI.items).flatten++u.items))++((us.drop (j+1)).map UseI.items).flatten:=by
     rw[<-htk2,Jb,<-Vv,<-JK,List.take_append_drop];rfl
    rw[h1]at hn;simp only[Jd]at hn|-
    have:u.items.length=u.ps.length:=by unfold UseI.items;rw[Jp]
    omega
   have huil:u.items.length=u.ps.length:=by unfold UseI.items;rw[Jp]
   have hwj:IntKind.i64.wrap ((j:Int)+1)=((j+1:Nat):Int):=by rw[wrap_i64 (by omega) (by omega)];omega
   have hjb:(0<=(j:Int)/\(j:Int)<(us.length:Int))=True:=eq_true ⟨by omega,by omega⟩;refine qE ?_;change Awp _ _ _ _ _ _ _;refine qo ?_;refine qK ?_;refine awp_rseq [3,4,5,10,33,34,35] (by rfl) fun K hK=>?_;simp+decide only[qR,Xa,Vw,Jp,↓qI,qh Tryz.underlying55 sz67,↓qj,Qa ag67 sz67,hpe,e0,e1,e2,hjb,hwl,hpl2];refine Qz ze67 (cs:=[.str [], .nilSlice, .nilSlice]) (by rfl) fun k12q2 hk12q2=>?_;have hn_12q2:H k12q2=none:=by first|assumption|(simp only[Bi]at hk12q2;simp only[hk12q2])
   have hf_12q2:h k12q2=none:=Bj hs_H hn_12q2;have ne_12q2_0q0:k12q2≠k0q0:=Bl hn_12q2 eb_0q0;have ne_12q2_0q2:k12q2≠k0q2:=Bl hn_12q2 eb_0q2;have ne_12q2_1q0:k12q2≠k1q0:=Bl hn_12q2 eb_1q0;refine qN (by rfl) (by rfl) zqA sz67 (by rfl) (by rfl) zqD (Js _) (by first|rfl|(simp+decide only[ZJ,Qu,ZM,hws,hps2])) ?_;simp only[QZ,Bn];simp+decide only[qR,Vw,Jp,Nat.reduceAdd];apply hK;clear hK K;have hS13:=hS.lay hn_12q2 ⟨[.str u.sec,u.uv,u.pv],0⟩;simp only[Xv]at hS13;obtain⟨H13,hH13⟩:∃H13,H13=H.set k12q2 ⟨[.str u.sec,u.uv,u.pv],0⟩:=⟨_,rfl⟩
   rw[<-hH13]at hS13;refine BO (h':=H13) (by rw[hH13];exact Vk _) ?_;have eb_0q0:H13 k0q0=some _:=hS13.at_ (i:=1) rfl;have eb_0q2:H13 k0q2=some _:=hS13.at_ (i:=2) rfl;have eb_1q0:H13 k1q0=some _:=hS13.at_ (i:=3) rfl;have eb_12q2:H13 k12q2=some _:=hS13.at_ (i:=6) rfl;have hs_H13:AM.Sub h H13:=hS13.in_ (i:=0) rfl;obtain⟨QS,hQS⟩:∃QS:List AHeap,QS=[h,one k0q0 ⟨[.str s, .nilSlice, .nilSlice, .nilSlice, .nilSlice, .nilSlice, .nilSlice,uv,pv],0⟩,one k0q2 ⟨[.int .i64 0, .int .i64 0, .int .i64 0],0⟩,one k12q2 ⟨[.str u.sec,u.uv,u.pv],0⟩]:=⟨_,rfl⟩
   have hQd:QS.Pairwise disj:=by rw[hQS];exact(hS13.pick [0,1,2,6] (by decide) (by simp)).2
   have hQh:AM.Sub h (YY QS):=Xl hQd h (by rw[hQS];simp);refine awp_rseq [3,4,5,10,33,34,35,40,41,42] (by rfl) fun K hK=>?_;simp+decide only[ZU,Qm,↓qg,fa67_2,↓qj,qd ag56,↓Qr,↓qc,Ql eb_12q2,np2,hpl2];apply hK;clear hK K;refine qK ?_;refine QD [3,4,5,10,33,34,35,40,41,42] (fun g:PrG=>[(3, .ptr (.own k0q2) 0),(4, .ptr (.own k1q0) 0),(5, .func 36 [.ptr (.own k1q0) 0]),(10, .ptr (.own k12q2) 0),(33,uv),(34, .int .i64 us.length),(35, .int .i64 j),(40,u.pv),(41, .int .i64 u.ps.length),(42, .int .i64 g.i)]) (fun g:PrG=>g.H) (fun g:PrG=>PrI wz QS k1q0 ((ps.map (·.it)++((us.take j).map UseI.items).flatten)++u.items.take g.i) g/\g.i<=u.ps.length) (fun g:PrG=>u.ps.length-g.i) ⟨0,ov,op,E,qs,H13⟩ (by simp only[Jp,hpe];rfl) (Vk _) ⟨⟨by rw[hQS];exact hS13.pick [0,1,2,6,3,4,5] (by decide) (by simp),hrow,hels,by rw[hdone];simp,hok⟩,Js _⟩ ?_;rintro⟨i,ov,op,E,qs,H⟩ ⟨⟨hS,hrow,hels,hdone,hok⟩,hile⟩;simp only at hS hrow hels hdone hok hile|-
   rw[hQS]at hS;simp only[Xv]at hS;have eb_0q0:H k0q0=some _:=hS.at_ (i:=1) rfl;have eb_0q2:H k0q2=some _:=hS.at_ (i:=2) rfl;have eb_12q2:H k12q2=some _:=hS.at_ (i:=3) rfl;have eb_1q0:H k1q0=some _:=hS.at_ (i:=4) rfl;have hs_H:AM.Sub h H:=hS.in_ (i:=0) rfl;refine awp_rseq [3,4,5,10,33,34,35,40,41,42,43] (by rfl) fun K hK=>?_;simp+decide only[Zp,YT,↓qf];apply hK;clear hK K;refine qo (qz (b:=_) rfl (fun hb4=>?_) (fun hb4=>?_))
   ·try simp only[qG]at hb4
    have hi1:i<u.ps.length:=by omega
    obtain⟨lc3,o3,cc3,hpe3⟩:=hup.open (fun e=>by rw[V5]at e;rw[e]at hi1;cases hi1);have hq3:=hup.mono hs_H;rw[hpe3]at hq3;obtain⟨d0,d1,d2,d3,d4⟩:=par_at hq3 hi1;obtain⟨p,hpq⟩:∃p,p=u.ps.getD i noP:=⟨_,rfl⟩
    have htk:u.items.take (i+1)=u.items.take i++[p.it.under u.sec]:=by unfold UseI.items;rw[<-Du,qgY noP hi1,JK,<-hpq,Du];rfl
    rw[<-hpq]at d0 d1 d2 d3 d4;have hpm:p∈u.ps:=by rw[hpq,Ko,JD hi1];exact VY hi1
    have hpi:p.it.under u.sec∈YM ps us:=hui _ (BL hpm);obtain⟨hi3,hi4,hi5⟩:=hi (p.it.under u.sec) hpi;have htv:=hut2 p hpm;have htl:=htv.live;have hts:=htv.scal;have htc:=htv.cells;have hqn:qs.length<=100:=by
     have:=congrArg Ee hdone;rw[Jp,Jd,K6]at this;omega
    have hwi:IntKind.i64.wrap ((i:Int)+1)=((i+1:Nat):Int):=by rw[wrap_i64 (by omega) (by omega)];omega
    have hib:(0<=(i:Int)/\(i:Int)<(u.ps.length:Int))=True:=eq_true ⟨by omega,by omega⟩;refine qE ?_;change Awp _ _ _ _ _ _ _;refine qo ?_;refine qK ?_;refine awp_rseq [3,4,5,10,12,33,34,35,40,41,42] (by rfl) fun K hK=>?_;simp+decide only[qR,Xa,Vw,Jp,↓qI,qh Tryz.underlying56 qku,↓qj,Qa ag65 qku,hpe3,d0,d1,d2,d3,d4,hib,htl];refine Qz ze65 (cs:=[.str [], .str [], .nilSlice, .int .i64 0, .int .i64 0]) (by rfl) fun k15q2 hk15q2=>?_;have hn_15q2:H k15q2=none:=by first|assumption|(simp only[Bi]at hk15q2;simp only[hk15q2])
    have hf_15q2:h k15q2=none:=Bj hs_H hn_15q2;have ne_15q2_0q0:k15q2≠k0q0:=Bl hn_15q2 eb_0q0;have ne_15q2_0q2:k15q2≠k0q2:=Bl hn_15q2 eb_0q2;have ne_15q2_1q0:k15q2≠k1q0:=Bl hn_15q2 eb_1q0;have ne_15q2_12q2:k15q2≠k12q2:=Bl hn_15q2 eb_12q2;refine qN (by rfl) (by rfl) zqA qku (by rfl) (by rfl) zqD (Js _) (by first|rfl|(simp+decide only[ZJ,Qu,WU,ZM,hts])) ?_;simp only[QZ,Bn];simp+decide only[qR,Vw,Jp,Nat.reduceAdd];apply hK;clear hK K;have hS6:=hS.lay hn_15q2 ⟨[.str p.it.sec, .str p.it.name,p.tv, .int .i64 p.it.line, .int .i64 p.it.col],0⟩;simp only[Xv]at hS6;obtain⟨H6,hH6⟩:∃H6,H6=H.set k15q2 ⟨[.str p.it.sec, .str p.it.name,p.tv, .int .i64 p.it.line, .int .i64 p.it.col],0⟩:=⟨_,rfl⟩
    rw[<-hH6]at hS6;refine BO (h':=H6) (by rw[hH6];exact Vk _) ?_;have eb_0q0:H6 k0q0=some _:=hS6.at_ (i:=1) rfl;have eb_0q2:H6 k0q2=some _:=hS6.at_ (i:=2) rfl;have eb_12q2:H6 k12q2=some _:=hS6.at_ (i:=3) rfl;have eb_1q0:H6 k1q0=some _:=hS6.at_ (i:=4) rfl;have eb_15q2:H6 k15q2=some _:=hS6.at_ (i:=7) rfl;have hs_H6:AM.Sub h H6:=hS6.in_ (i:=0) rfl;refine awp_rseq [3,4,5,10,13,33,34,35,40,41,42] (by rfl) fun K hK=>?_;simp+decide only[ZU,↓qc,↓qg,fa67_0,↓qj,qd ag9,Qa ag65 qku,Ql eb_12q2,Ql eb_15q2,Nat.reduceAdd,htl];refine qM (by rfl) (by rfl) (c_addP wz hm ha (YY QS) H6 k1q0 ov op E qs hqn ⟨by rw[hQS];exact BZ (ps:=[h,one k0q0 ⟨[.str s, .nilSlice, .nilSlice, .nilSlice, .nilSlice, .nilSlice, .nilSlice,uv,pv],0⟩,one k0q2 ⟨[.int .i64 0, .int .i64 0, .int .i64 0],0⟩,one k12q2 ⟨[.str u.sec,u.uv,u.pv],0⟩]) (hS6.pick [0,1,2,3,4,5,6] (by decide) (by simp)),hrow,hels⟩ p.it.sec p.tv (p.it.under u.sec) hi3 hi4 (htv.mono hQh)) fun x16q4 h16q4 hx16q4=>?_;obtain⟨f,lv,L,ov2,op2,E2,rfl,hcase,hO2⟩:=hx16q4;have hS7:=EN hQd hO2.sep;rw[hQS]at hS7;simp only[Xv]at hS7;have eb_0q0:h16q4 k0q0=some _:=hS7.at_ (i:=1) rfl;have eb_0q2:h16q4 k0q2=some _:=hS7.at_ (i:=2) rfl;have eb_12q2:h16q4 k12q2=some _:=hS7.at_ (i:=3) rfl;have eb_1q0:h16q4 k1q0=some _:=hS7.at_ (i:=4) rfl;have hs_h16q4:AM.Sub h h16q4:=hS7.in_ (i:=0) rfl;refine Qz qhv (cs:=[.int .i64 0, .int .i64 0, .int .i64 0]) (by rfl) fun k16q5 hk16q5=>?_;have hn_16q5:h16q4 k16q5=none:=by first|assumption|(simp only[Bi]at hk16q5;simp only[hk16q5])
    have hf_16q5:h k16q5=none:=Bj hs_h16q4 hn_16q5;have ne_16q5_0q0:k16q5≠k0q0:=Bl hn_16q5 eb_0q0;have ne_16q5_0q2:k16q5≠k0q2:=Bl hn_16q5 eb_0q2;have ne_16q5_1q0:k16q5≠k1q0:=Bl hn_16q5 eb_1q0;have ne_16q5_12q2:k16q5≠k12q2:=Bl hn_16q5 eb_12q2;refine qN (by rfl) (by rfl) zqA UF (by rfl) (by rfl) zqD (Js _) (by first|rfl|(simp+decide only[ZJ,Qu,WU,ZM,qbM])) ?_;simp only[QZ,Bn];simp+decide only[qR,Nat.reduceAdd,faultV];apply hK;clear hK K;have hS8:=hS7.lay hn_16q5 ⟨[.int .i64 f.e, .int .i64 f.line, .int .i64 f.col],0⟩;simp only[Xv]at hS8;obtain⟨H7,hH7⟩:∃H7,H7=h16q4.set k16q5 ⟨[.int .i64 f.e, .int .i64 f.line, .int .i64 f.col],0⟩:=⟨_,rfl⟩
    have hs7:AM.Sub h16q4 H7:=by rw[hH7];exact Vl hn_16q5
    rw[<-hH7]at hS8;refine BO (h':=H7) (by rw[hH7];exact Vk _) ?_;have eb_0q0:H7 k0q0=some _:=hS8.at_ (i:=1) rfl;have eb_0q2:H7 k0q2=some _:=hS8.at_ (i:=2) rfl;have eb_12q2:H7 k12q2=some _:=hS8.at_ (i:=3) rfl;have eb_1q0:H7 k1q0=some _:=hS8.at_ (i:=4) rfl;have eb_16q5:H7 k16q5=some _:=hS8.at_ (i:=7) rfl;have hs_H7:AM.Sub h H7:=hS8.in_ (i:=0) rfl;refine awp_rseq [3,4,5,10,13,33,34,35,40,41,42,53] (by rfl) fun K hK=>?_;simp+decide only[Zp,XD,qO,UR,↓qg,qoT,↓qj,qd ag46,↓qf,Ql eb_16q5];apply hK;clear hK K;refine qz (b:=_) rfl (fun hb5=>?_) (fun hb5=>?_)
    ·try simp only[qG]at hb5
     have hbad:ParseR wordsO p.it.toks Qo (.bad f):=by
      rcases hcase with z|⟨z,_⟩
      ·exact z
      ·rw[z]at hb5;exact absurd rfl hb5
     refine qdH 2 [2,3] mixed (by kernel_rfl) (by rfl) (by rfl) fun K hK=>?_;simp+decide only[qJ,Xa,↓qj,Qa qeR UF,↓qa,Ql eb_16q5,Nat.reduceAdd];refine qN (by rfl) (by rfl) zqA UF (by rfl) (by rfl) zqD (Js _) (by first|rfl|(simp+decide only[ZJ,Qu,WU,ZM,qbM])) ?_;simp only[QZ];simp+decide only[qR,Nat.reduceAdd];apply hK;clear hK K;refine qV ?_;try simp only[Xz]
     refine Qk (?_) ?_
     ·simp+decide only[qeJ,ev,J8,and_true,true_and,ne_eq,not_false_eq_true,Qt,cellsAt,qeK,Vz,ZV,qaC,Wp,qaY,qaY,Qa qeR UF,Nat.reduceAdd,Nat.reduceAdd]
     simp+decide only[Zg,ZV,qaC,qcL,qaY,Qa qeR UF,Nat.reduceAdd,Nat.reduceAdd];have hS9:=hS8.put (i:=2) rfl ⟨[.int .i64 f.e, .int .i64 f.line, .int .i64 f.col],0⟩;exact⟨_,Vk _,hS9.in_ (i:=0) rfl, .inl ⟨_,hpi,f,hbad,rfl⟩⟩
    ·try simp only[qG]at hb5
     obtain⟨j1,hj1⟩:∃j,ParseR wordsO p.it.toks Qo (.ok L j):=by
      rcases hcase with z|⟨_,z⟩
      ·exact absurd (by omega) (hi5 f z)
      ·exact z
     refine qE ?_;change Awp _ _ _ _ _ _ _;refine QK [3,4,5,10,33,34,35,40,41,42] (by rfl) ?_;simp+decide only[QH,ZE,↓qf,↓qc,hwi];try simp only[QT]
     refine⟨⟨i+1,ov2,op2,E2,qs++[⟨p.it.under u.sec,lv,L⟩],H7⟩,by simp only[Jp,hpe3];rfl,Vk _,⟨?_,by simp only;omega⟩,by simp only;omega⟩;rw[htk,<-Jb];exact PrI.more hQd hO2 hdone hok hj1 hs7 (i+1)
   ·try simp only[qG]at hb4
    have hdone3:qs.map (·.it)=ps.map (·.it)++((us.take (j+1)).map UseI.items).flatten:=by
     rw[hdone,J3 (l:=u.items) (by rw[huil];omega),htk2,Jb]
    refine QC ?_;change Awp _ _ _ _ _ _ _;refine QK [3,4,5,33,34,35] (by rfl) ?_;simp+decide only[QH,ZE,↓qf,↓qc,hwj];try simp only[QT]
    refine⟨⟨j+1,ov,op,E,qs,H⟩,by simp only[Jp,hpe];rfl,Vk _,⟨⟨by rw[hPS];exact hS.pick [0,1,2,4,5,6] (by decide) (by simp),hrow,hels,hdone3,hok⟩,by simp only;omega⟩,by simp only;omega⟩
  ·try simp only[qG]at hb3
   have hdone4:qs.map (·.it)=YM ps us:=by rw[hdone,J3 (by omega)];rfl
   have hrow3:=hrow.isL (wz:=wz) (hS.in_ (i:=4) rfl);have hck:=hrow3.clip;have hckl:=hck.live;have hrl:=hrow.live;refine QC ?_;change Awp _ _ _ _ _ _ _;refine awp_rseq [2,3] (by rfl) fun K hK=>?_;simp+decide only[qR,Xa,↓qj,qd ag68,Ql eb_1q0,hrl];refine QM (V:=ZA ov) (by rfl) (by rfl) (c_clipPg wz _ ov _ (hrow3.mono zqB)) ?_;simp+decide only[qJ,XN,Yo,XO,Za,XZ,Xt,WO,Zw,evP,↓YJ,↓XL,bld48_,↓qa];refine qN (by rfl) (by rfl) zqA UF (by rfl) (by rfl) zqD (Js _) (by first|rfl|(simp+decide only[ZJ,Qu,WU,ZM,qbM])) ?_;simp only[QZ];simp+decide only[qR,Nat.reduceAdd];apply hK;clear hK K;refine qV ?_;refine Qk (?_) ?_
   ·simp+decide only[qeJ,ev,J8,and_true,true_and,ne_eq,not_false_eq_true,Qt,cellsAt,qeK,Vz,ZV,qaC,Wp,qaY,qaY,Qa qeR UF,Nat.reduceAdd,Nat.reduceAdd]
   simp+decide only[Zg,ZV,qaC,qcL,qaY,Qa qeR UF,Nat.reduceAdd,Nat.reduceAdd];have hS9:=hS.put (i:=2) rfl ⟨[.int .i64 0, .int .i64 0, .int .i64 0],0⟩;exact⟨_,Vk _,hS9.in_ (i:=0) rfl, .inr ⟨qs,ZA ov,hdone4,hok,rfl,(hrow.isL (wz:=wz) (hS9.in_ (i:=4) rfl)).clip,fun q hq=>(hels q hq).mono (hS9.in_ (i:=5) rfl)⟩⟩
def qap(j:Nat):Str:=[KD (48+j)]
def WW(l:List (List XC))(F bd j:Nat):Item:=⟨if j<F then[83]else 85::qap j,80::qap j,qat (l.getD j []) (decide (j=bd)),100+(j:Int),8⟩
def noR:ParR:=⟨noIt, .nilSlice,[]⟩
section
variable {l:List (List XC)} {F bd n:Nat} {its:List Item}
theorem items_ok(hits:its=(KP n).map (WW l F bd))(hbig:∀j<n,qcV (l.getD j []) 15=false):∀it∈its,it.toks.length<=1000000/\Short it.toks/\∀f,ParseR wordsO it.toks Qo (.bad f)->f.e≠0:=fun it hit=>by
 rw[hits]at hit;obtain⟨j,hj,rfl⟩:=JM.1 hit;have hb:=hbig j (JC.1 hj);obtain⟨h1,h2⟩:=toks_ok hb (decide (j=bd));refine⟨h1,h2,fun f hf=>?_⟩;have hf':ParseR wordsO (qat (l.getD j []) (decide (j=bd))) Qo (.bad f):=hf;cases hd:decide (j=bd)with
 |false=>rw[hd]at hf';exact absurd hf' (qnd hb)
 |true=>
  rw[hd]at hf';obtain⟨f',e1,e2⟩:=qkZ hb hf';cases e1;rw[e2];decide
theorem prog_case(hits:its=(KP n).map (WW l F bd))(hbig:∀j<n,qcV (l.getD j []) 15=false){wz:World}{h:AHeap}{r:AVal}{h':AHeap}(hP:ProgOut wz its h r h'):
 AM.Sub h h'/\∃gv f,r= .tuple [gv,faultV f]/\((bd<n/\f.e=4/\gv= .nilSlice)\/(n<=bd/\f=okF/\∃gs:List ParR,gs.map (·.it)=its/\gs.length=n/\IsL wz h' 5 gv (gs.map qrm)/\
  ∀j<n,(gs.getD j noR).it=WW l F bd j/\StsV wz 32 h' (gs.getD j noR).lv (gs.getD j noR).L/\qnZ 32 (gs.getD j noR).L (Qi 6 (l.getD j []) 1 true).2=true/\SmallS 32 (gs.getD j noR).L)):=by
 obtain⟨hs,hP⟩:=hP;refine⟨hs,?_⟩;rcases hP with⟨it,hit,f,hf,rfl⟩|⟨qs,rv,hq1,hq2,rfl,hq3,hq4⟩
 ·rw[hits]at hit
  obtain⟨j,hj,rfl⟩:=JM.1 hit;have hj:=JC.1 hj;have hb:=hbig j hj;have hf':ParseR wordsO (qat (l.getD j []) (decide (j=bd))) Qo (.bad f):=hf;refine⟨_,f,rfl, .inl ?_⟩;cases hd:decide (j=bd)with
  |false=>rw[hd]at hf';exact absurd hf' (qnd hb)
  |true=>
   have hjb:j=bd:=of_decide_eq_true hd;rw[hd]at hf';obtain⟨f',e1,e2⟩:=qkZ hb hf';cases e1;exact⟨by omega,e2,rfl⟩
 ·refine⟨rv,okF,rfl, .inr ?_⟩
  have hlen:qs.length=n:=by
   have:=congrArg Ee hq1;rw[Jp,hits,Jp,ES]at this;exact this
  have hat:∀j<n,(qs.getD j noR).it=WW l F bd j/\qs.getD j noR∈qs:=fun j hj=>by
   have hjq:j<qs.length:=by omega
   have hm:qs.getD j noR∈qs:=by rw[Ko,JD hjq];exact VY hjq
   refine⟨?_,hm⟩;have:=congrArg (fun L=>L[j]?) hq1;simp only[hits,V6,List.getElem?_range hj,KI,JD hjq]at this;rw[Ko,JD hjq];exact Option.some.inj this
  have hnb:n<=bd:=by
   by_cases hb:bd<n
   ·exfalso
    obtain⟨h1,h2⟩:=hat bd hb;obtain⟨j,hj⟩:=hq2 _ h2;rw[h1]at hj;have hj':ParseR wordsO (qat (l.getD bd []) (decide (bd=bd))) Qo (.ok (qs.getD bd noR).L j):=hj;rw[decide_eq_true rfl]at hj';obtain⟨f,e,_⟩:=qkZ (hbig bd hb) hj';cases e
   ·omega
  refine⟨hnb,rfl,qs,hq1,hlen,hq3,fun j hj=>?_⟩;obtain⟨h1,h2⟩:=hat j hj;obtain⟨j',hj'⟩:=hq2 _ h2;rw[h1]at hj';have hj2:ParseR wordsO (qat (l.getD j []) (decide (j=bd))) Qo (.ok (qs.getD j noR).L j'):=hj';rw[decide_eq_false (by omega)]at hj2;obtain⟨g1,g2⟩:=toks_good (hbig j hj) hj2;exact⟨h1,hq4 _ h2,g1,g2⟩
end
def XssV(wz:World)(d:Nat)(h:AHeap)(v:AVal)(c:List (List XC)):Prop:=∃qs:List (List XC×AVal),c=qs.map (·.1)/\IsL wz h 1 v (qs.map fun q=>[q.2])/\∀q∈qs,XsV wz d h q.2 q.1
def noXs:List XC×AVal:=([], .nilSlice)
theorem xss_at{wz:World}{h:AHeap}{lc:AM.Loc}{o n:Nat}{c:Cap}{qs:List (List XC×AVal)}(ht:IsL wz h 1 (.slice lc o n c) (qs.map fun q=>[q.2])){i:Nat}(hi:i<qs.length):rd wz h lc (o+i)=(qs.getD i noXs).2:=by
 have he:=ht.elem (i:=i) (by rw[Jp];exact hi);rw[getD_map noXs hi,Bo]at he;simp only[and_true,cellsAt,List.cons.injEq]at he;exact he
def pgB(uv pv:AVal):Blk:=⟨[.str [], .nilSlice, .nilSlice, .nilSlice, .nilSlice, .nilSlice, .nilSlice,uv,pv],0⟩
structure LpG where
 i:Nat
 wv:AVal
 wp:AHeap
 uv:AVal
 up:AHeap
 pv:AVal
 pp:AHeap
 E:AHeap
 ws:List AVal
 ps:List ParI
 us:List UseI
 H:AHeap
structure LpI(wz:World)(h:AHeap)(k:Nat)(l:List (List XC))(F bd:Nat)(g:LpG):Prop where
 sep:AM.Sep [h,one k (pgB g.uv g.pv),g.wp,g.up,g.pp,g.E] g.H
 row:GrowV 1 g.wv g.wp (g.ws.map fun w=>[w])
 wln:g.ws.length=g.i
 wst:∀j<g.i,StsV wz 6 g.E (g.ws.getD j .nilSlice) (Qi 6 (l.getD j []) 1 true).2
 prow:GrowV 5 g.pv g.pp (g.ps.map qeZ)
 urow:GrowV 3 g.uv g.up (g.us.map qna)
 ptk:∀p∈g.ps,IsL wz g.E 5 p.tv (p.it.toks.map Zb)
 utk:∀u∈g.us,u.uv= .nilSlice/\IsL wz g.E 5 u.pv (u.ps.map qeZ)/\∀p∈u.ps,IsL wz g.E 5 p.tv (p.it.toks.map Zb)
 uln:g.us.length<=g.i
 its:YM g.ps g.us=(KP g.i).map (WW l F bd)
 nu:g.i<=F->g.us=[]
 big:∀j<g.i,qcV (l.getD j []) 15=false
section
variable {wz:World} {h:AHeap} {k:Nat} {l:List (List XC)} {F bd:Nat}
theorem qnJ{α:Type}{d x:α}{l:List α}{j:Nat}(hj:j<=l.length):(l++[x]).getD j d=if j=l.length then x else l.getD j d:=by
 split
 ·rename_i h
  rw[h,Ko,List.getElem?_append_right (KL _),Nat.sub_self];rfl
 ·rename_i h
  rw[Ko,List.getElem?_append_left (by omega),Ko]
theorem items_p{ps:List ParI}{p:ParI}:YM (ps++[p]) []=YM ps []++[p.it]:=by
 unfold YM;simp
theorem items_u{ps:List ParI}{us:List UseI}{u:UseI}:YM ps (us++[u])=YM ps us++u.items:=by
 unfold YM;rw[JK,Vv,<-Jb];simp
theorem LpI.par{g:LpG}(hI:LpI wz h k l F bd g)(hF:g.i<F)(hb:qcV (l.getD g.i []) 15=false){wv2:AVal}{wp2:AHeap}{sv:AVal}(hw:GrowV 1 wv2 wp2 ((g.ws++[sv]).map fun w=>[w])){pv2:AVal}{pp2:AHeap}{tv:AVal}(hp:GrowV 5 pv2 pp2 ((g.ps++[(⟨WW l F bd g.i,tv⟩:ParI)]).map qeZ)){E2 H2:AHeap}(hE:AM.Sub g.E E2)
 (hst:StsV wz 6 E2 sv (Qi 6 (l.getD g.i []) 1 true).2) (htk:IsL wz E2 5 tv ((qat (l.getD g.i []) (decide (g.i=bd))).map Zb)) (hS:AM.Sep [h,one k (pgB g.uv pv2),wp2,g.up,pp2,E2] H2):
 LpI wz h k l F bd ⟨g.i+1,wv2,wp2,g.uv,g.up,pv2,pp2,E2,g.ws++[sv],g.ps++[⟨WW l F bd g.i,tv⟩],g.us,H2⟩ where
 sep:=hS
 row:=hw
 wln:=by rw[Jd,JH,hI.wln]
 wst:=fun j hj=>by
  rw[qnJ (by rw[hI.wln];exact Dv.1 hj),hI.wln];split
  ·rename_i e;rw[e];exact hst
  ·exact(hI.wst j (by simp only at hj;omega)).mono hE
 prow:=hp
 urow:=hI.urow
 ptk:=fun p hp=>by
  rcases JX.1 hp with hp|hp
  ·exact(hI.ptk p hp).mono hE
  ·rw[V9.1 hp];exact htk
 utk:=fun u hu=>⟨(hI.utk u hu).1,(hI.utk u hu).2.1.mono hE,fun p hp=>((hI.utk u hu).2.2 p hp).mono hE⟩
 uln:=Nat.le_succ_of_le hI.uln
 its:=by
  have h0:=hI.nu (BS hF);have h1:=hI.its;simp only;rw[h0]at h1|-
  rw[items_p,h1,Dw,JK];rfl
 nu:=fun _=>hI.nu (BS hF)
 big:=fun j hj=>by
  by_cases e:j=g.i
  ·rw[e];exact hb
  ·exact hI.big j (by simp only at hj;omega)
theorem LpI.use{g:LpG}(hI:LpI wz h k l F bd g)(hF:¬g.i<F)(hb:qcV (l.getD g.i []) 15=false){wv2:AVal}{wp2:AHeap}{sv:AVal}(hw:GrowV 1 wv2 wp2 ((g.ws++[sv]).map fun w=>[w])){uv2 qv:AVal}{up2:AHeap}{tv:AVal}(hu:GrowV 3 uv2 up2 ((g.us++[(⟨85::qap g.i, .nilSlice,qv,[⟨{WW l F bd g.i with sec:=[83]},tv⟩]⟩:UseI)]).map qna)){E2 H2:AHeap}(hE:AM.Sub g.E E2)
 (hst:StsV wz 6 E2 sv (Qi 6 (l.getD g.i []) 1 true).2) (htk:IsL wz E2 5 tv ((qat (l.getD g.i []) (decide (g.i=bd))).map Zb)) (hqv:IsL wz E2 5 qv [qeZ ⟨{WW l F bd g.i with sec:=[83]},tv⟩]) (hS:AM.Sep [h,one k (pgB uv2 g.pv),wp2,up2,g.pp,E2] H2):
 LpI wz h k l F bd ⟨g.i+1,wv2,wp2,uv2,up2,g.pv,g.pp,E2,g.ws++[sv],g.ps,g.us++[⟨85::qap g.i, .nilSlice,qv,[⟨{WW l F bd g.i with sec:=[83]},tv⟩]⟩],H2⟩ where
 sep:=hS
 row:=hw
 wln:=by rw[Jd,JH,hI.wln]
 wst:=fun j hj=>by
  rw[qnJ (by rw[hI.wln];exact Dv.1 hj),hI.wln];split
  ·rename_i e;rw[e];exact hst
  ·exact(hI.wst j (by simp only at hj;omega)).mono hE
 prow:=hI.prow
 urow:=hu
 ptk:=fun p hp=>(hI.ptk p hp).mono hE
 utk:=fun u hu=>by
  rcases JX.1 hu with hu|hu
  ·exact⟨(hI.utk u hu).1,(hI.utk u hu).2.1.mono hE,fun p hp=>((hI.utk u hu).2.2 p hp).mono hE⟩
  ·rw[V9.1 hu]
   exact⟨rfl,hqv,fun p hp=>by rw[V9.1 hp];exact htk⟩
 uln:=by
  have:=hI.uln;rw[Jd,JH];exact Nat.succ_le_succ this
 its:=by
  simp only;rw[items_u,hI.its,Dw,JK];have:WW l F bd g.i={WW l F bd g.i with sec:=85::qap g.i}:=by
   unfold WW;rw[if_neg hF]
  rw[Es,this];rfl
 nu:=fun h=>absurd (Nat.lt_of_succ_le h) hF
 big:=fun j hj=>by
  by_cases e:j=g.i
  ·rw[e];exact hb
  ·exact hI.big j (by simp only at hj;omega)
end
theorem qsb:∀i:Fin 6,(([48,49,50,51,52,53]:Str).drop i.val).take (i.val+1-i.val)=[KD (48+i.val)]:=by decide
theorem tok_slice{wz:World}{h:AHeap}{v:AVal}{l:List TokC}(ht:IsL wz h 5 v (l.map Zb)){k:IntKind}{n:Nat}(hn:n<=l.length):Ws Tryz.prog 39 v none (some (.int k n)) none=⟨True,qhD 5 v 0 n⟩:=by
 have:=IsL.slice ht Tryz.underlying39 UA none (some (.int k n)) (l:=0) (r:=n) rfl (by rw[qay]) (by omega) (by omega) (by rw[Jp];omega);exact this
theorem tok_pre{wz:World}{h:AHeap}{v:AVal}{l:List TokC}(ht:IsL wz h 5 v (l.map Zb)){n:Nat}(hn:n<=l.length):IsL wz h 5 (qhD 5 v 0 n) ((l.take n).map Zb):=by
 have:=IsL.sub ht (i:=0) (j:=n) (Js _) (by rw[Jp];exact hn);rw[Vp,Nat.sub_zero,<-Du]at this;exact this
theorem sts_lit{wz:World}{d:Nat}{h:AHeap}{v:AVal}{L:List StC}(hv:StsV wz d h v L):v= .nilSlice\/∃l o n c,v= .slice l o n c:=by
 have key:∀{xs:List (List AVal)},IsL wz h 5 v xs->v= .nilSlice\/∃l o n c,v= .slice l o n c:=fun hx=>by
  rcases hx.open' with⟨e,_⟩|⟨l,o,c,e⟩
  ·exact .inl e
  ·exact .inr ⟨l,o,_,c,e⟩
 cases d with
 |zero=>exact key hv.2
 |succ d=>
  obtain⟨qs,_,a,_⟩:=hv;exact key a
theorem parR_at{wz:World}{h:AHeap}{lc:AM.Loc}{o n:Nat}{c:Cap}{qs:List ParR}(ht:IsL wz h 5 (.slice lc o n c) (qs.map qrm)){i:Nat}(hi:i<qs.length):
 rd wz h lc (o+i*5)= .str (qs.getD i noR).it.sec/\rd wz h lc (o+i*5+1)= .str (qs.getD i noR).it.name/\rd wz h lc (o+i*5+2)= .int .i64 (qs.getD i noR).it.line/\rd wz h lc (o+i*5+3)= .int .i64 (qs.getD i noR).it.col/\rd wz h lc (o+i*5+4)=(qs.getD i noR).lv:=by
 have he:=ht.elem (i:=i) (by rw[Jp];exact hi);rw[getD_map noR hi]at he;simp only[and_true,cellsAt,List.cons.injEq,qrm]at he;exact he
theorem one_at1{wz:World}{h:AHeap}{lc:AM.Loc}{o n:Nat}{c:Cap}{ws:List AVal}(ht:IsL wz h 1 (.slice lc o n c) (ws.map fun w=>[w])){i:Nat}(hi:i<ws.length):rd wz h lc (o+i)=ws.getD i .nilSlice:=by
 have he:=ht.elem (i:=i) (by rw[Jp];exact hi);rw[getD_map .nilSlice hi,Bo]at he;simp only[and_true,cellsAt,List.cons.injEq]at he;exact he
structure L2G where
 i:Nat
 H:AHeap
set_option maxHeartbeats 32000000 in
theorem qft(wz:World)(hm:MaxL wz)(ha:Asp wz)(h:AHeap)(vl:AVal)(l:List (List XC))(d1:Nat)(hX:XssV wz d1 h vl l)(hL:∀x∈l,LenX 140737488355328 8 x)(uses spoiled:UInt8):
 ACall Tryz.prog wz 4 [vl, .int .u8 uses.toNat, .int .u8 spoiled.toNat] h (fun r h'=>r= .bool true/\AM.Sub h h'):=by
 obtain⟨qs,hqe,hqL,hqX⟩:=hX;have hvl:=hqL.live;have nl:∀H:AHeap,Ze Tryz.prog H 52 vl=⟨True, .int .i64 qs.length⟩:=fun H=>by have:=hqL.len Tryz.underlying52 H;rwa [Jp]at this
 have hlq:l.length=qs.length:=by rw[hqe,Jp]
 have hu8:uses.toNat<256:=uses.toNat_lt;have hs8:spoiled.toNat<256:=spoiled.toNat_lt;obtain⟨bd,hbd⟩:∃bd,bd=spoiled.toNat%9:=⟨_,rfl⟩
 have hbd9:bd<9:=by rw[hbd];omega
 obtain⟨F,hFe⟩:∃F,F=qs.length-uses.toNat%(qs.length+1):=⟨_,rfl⟩
 have hFn:F<=qs.length:=by rw[hFe];omega
 refine qP (n:=192) (rs:=[.tmp 6]) Tryz.func4 rfl rfl rfl rfl (V7 rfl) ?_;simp only[qU];refine awp_rseq [0,1,2] (by rfl) fun K hK=>?_;simp+decide only[qJ,↓qa,Nat.reduceAdd];apply hK;clear hK K;refine qo ?_;refine awp_rseq [0,1,2,22] (by rfl) fun K hK=>?_;simp+decide only[QH,qO,Qm,WL,↓qc,↓Qr,↓qf,nl];apply hK;clear hK K;refine qz (b:=_) rfl (fun hb1=>?_) (fun hb1=>?_)
 ·try simp only[qG]at hb1
  refine awp_rseq [6] (by rfl) fun K hK=>?_;refine qM (by rfl) (by rfl) (qgo wz hm ha _) fun x2q0 h2q0 hx2q0=>?_;obtain⟨rfl,hs2⟩:=hx2q0;have hs_h2q0:Sub h h2q0:=Bt zqC hs2;have hr_h2q0:=hs_h2q0;simp+decide only[qJ,↓qa];apply hK;clear hK K;refine qV ?_;try simp only[Xz]
  refine QL h zqC (qA (qC)) ?_;simp+decide only[Xn];exact Vk _
 ·try simp only[qG]at hb1
  have hn6:qs.length<=6:=by omega
  have hw1:IntKind.i64.wrap ((qs.length:Int)+1)=((qs.length+1:Nat):Int):=by rw[wrap_i64 (by omega) (by omega)];omega
  obtain⟨mm,hmm⟩:∃mm,mm=uses.toNat%(qs.length+1):=⟨_,rfl⟩
  have hmm6:mm<=qs.length:=by have:=Nat.mod_lt uses.toNat (show 0<qs.length+1 by omega);omega
  have hmc:((uses.toNat:Int)%((qs.length+1:Nat):Int))=(mm:Int):=by rw[hmm];exact(Int.natCast_emod _ _).symm
  have hmod:IntKind.i64.wrap ((uses.toNat:Int)%((qs.length+1:Nat):Int))=(mm:Int):=by rw[hmc,wrap_i64 (by omega) (by omega)]
  have hwF:IntKind.i64.wrap ((qs.length:Int)-(mm:Int))=(F:Int):=by rw[wrap_i64 (by omega) (by omega)];omega
  have hFs:(qs.length:Int)-(mm:Int)=(F:Int):=by omega
  have hbd2:(spoiled.toNat:Int)%9=(bd:Int):=by omega
  have e8:(qs.length:Int)-(uses.toNat:Int)%((qs.length+1:Nat):Int)=(F:Int):=by rw[hmc];omega
  have e9:(spoiled.toNat:Int)%9=(bd:Int):=by omega
  refine qE ?_;change Awp _ _ _ _ _ _ _;refine awp_rseq [0,1,2,7] (by rfl) fun K hK=>?_;refine Qz ze58 (cs:=[.str [], .nilSlice, .nilSlice, .nilSlice, .nilSlice, .nilSlice, .nilSlice, .nilSlice, .nilSlice]) (by rfl) fun k3q0 hk3q0=>?_;try have hf_3q0:h k3q0=none:=by first|assumption|(simp only[Bi]at hk3q0;simp only[hk3q0])
  simp+decide only[qR];apply hK;clear hK K;refine awp_rseq [0,2,7,8] (by rfl) fun K hK=>?_;simp+decide only[ZY,qO,qF,Qm,ZI,UC,qfn,↓qc,↓Qr,↓qbG _ _ _ (qjy Tryz.underlying5 Tryz.underlying3),UO,qcz Tryz.underlying5 Tryz.underlying3,↓qf,↓qa,nl,hw1];try simp(disch:=omega)only[wrap_i64,wrap_u8,ED]
  repeat (with_reducible refine zqP ?_)
  apply hK;clear hK K;refine awp_rseq [0,7,8,9] (by rfl) fun K hK=>?_;simp+decide only[ZY,qO,qfn,↓qc,↓qf,↓qbG _ _ _ (qjy Tryz.underlying5 Tryz.underlying3),UO,qcz Tryz.underlying5 Tryz.underlying3,↓qa];try simp(disch:=omega)only[wrap_i64,wrap_u8,ED]
  apply hK;clear hK K;refine awp_rseq [0,7,8,9,10] (by rfl) fun K hK=>?_;simp+decide only[qJ,↓qa];apply hK;clear hK K;refine qo ?_;have hS8:=Ec (ps:=[h]) ⟨fun p hp=>by rw[V9.1 hp];exact Vk _,by simp⟩ hk3q0 (pgB .nilSlice .nilSlice);simp only[Xv]at hS8;obtain⟨H8,hH8⟩:∃H8,H8=h.set k3q0 (pgB .nilSlice .nilSlice):=⟨_,rfl⟩
  rw[<-hH8]at hS8;refine BO (h':=H8) (by rw[hH8];exact Vk _) ?_;have eb_3q0:H8 k3q0=some _:=hS8.at_ (i:=1) rfl;have hs_H8:AM.Sub h H8:=hS8.in_ (i:=0) rfl;refine awp_rseq [0,7,8,9,10,11] (by rfl) fun K hK=>?_;simp+decide only[qJ,↓qa];apply hK;clear hK K;refine qK ?_;refine QD [0,7,8,9,10,11] (fun g:LpG=>[(0,vl),(7, .ptr (.own k3q0) 0),(8, .int .i64 F),(9, .int .i64 bd),(10,g.wv),(11, .int .i64 g.i)]) (fun g:LpG=>g.H) (fun g:LpG=>LpI wz h k3q0 l F bd g/\g.i<=qs.length) (fun g:LpG=>qs.length-g.i) ⟨0, .nilSlice,emp, .nilSlice,emp, .nilSlice,emp,emp,[],[],[],H8⟩ (by rw[e8,e9];rfl) (Vk _) ⟨⟨hS8.emp.emp.emp.emp,Dt,rfl,(fun j hj=>absurd hj (Dx _)),Dt,Dt,(fun p hp=>by cases hp),(fun p hp=>by cases hp),KL _,rfl,(fun _=>rfl),fun j hj=>absurd hj (Dx _)⟩,Js _⟩ ?_;rintro⟨i,wv,wp,uv,up,pv,pp,E,ws,ps,us,H⟩ ⟨hI,hile⟩;have hS:=hI.sep;simp only at hS hile|-
  have eb_3q0:H k3q0=some _:=hS.at_ (i:=1) rfl;have hs_H:AM.Sub h H:=hS.in_ (i:=0) rfl;have hwvl:=hI.row.live;refine qo ?_;refine awp_rseq [0,7,8,9,10,11,39] (by rfl) fun K hK=>?_;simp+decide only[QH,qF,Qm,Zz,↓qc,↓Qr,↓qf,nl];apply hK;clear hK K;refine qz (b:=_) rfl (fun hb2=>?_) (fun hb2=>?_)
  ·try simp only[qG]at hb2
   have hi:i<qs.length:=by omega
   obtain⟨lc,o,cc,hpe⟩:=hqL.open (fun e=>by rw[V5]at e;rw[e]at hi;cases hi);have hq2:=hqL.mono hs_H;rw[hpe]at hq2;have e0:=xss_at hq2 hi;obtain⟨q,hqq⟩:∃q,q=qs.getD i noXs:=⟨_,rfl⟩
   rw[<-hqq]at e0;have hqm:q∈qs:=by rw[hqq,Ko,JD hi];exact VY hi
   have hqx:=hqX q hqm;obtain⟨hql,hqs,hqc⟩:=hqx.shape;have hli:l.getD i []=q.1:=by rw[hqe,hqq,Ko,Ko,V6,JD hi];rfl
   have hib:(0<=(i:Int)/\(i:Int)<(qs.length:Int))=True:=eq_true ⟨by omega,by omega⟩;have hLq:=hL q.1 (by rw[hqe];exact BL hqm);have hwi:IntKind.i64.wrap ((i:Int)+1)=(i:Int)+1:=by rw[wrap_i64 (by omega) (by omega)]
   have hwi2:(i:Int)+1=((i+1:Nat):Int):=by omega
   have hwh:IntKind.i64.wrap (100+(i:Int))=100+(i:Int):=by rw[wrap_i64 (by omega) (by omega)]
   have hcut:=qsb ⟨i,by omega⟩;simp only at hcut;have hcut1:List.take ((((i:Nat):Int)+1).toNat-i) (List.drop i ([48,49,50,51,52,53]:Str))=qap i:=by
    rw[show((i:Int)+1).toNat=i+1 by omega];exact hcut
   refine qE ?_;change Awp _ _ _ _ _ _ _;refine qo ?_;refine qK ?_;refine qo ?_;refine awp_rseq [0,7,8,9,10,11,46] (by rfl) fun K hK=>?_;simp+decide only[Qw,Xa,Vw,Jp,Bo,↓qc,↓qI,qh Tryz.underlying52 sz35,↓qj,qd ag35,hpe,e0,hib,hql];refine QM (V:= .bool (qcV q.1 15)) (by rfl) (by rfl) (c_big wz d1 _ q.2 q.1 15 (hqx.mono (by repeat (first|exact Vk _|assumption|refine Bt ?_ (Vl (by assumption))|refine Bt ?_ (by assumption)))) hLq (by decide) (by decide)) ?_;simp+decide only[qR,Vw,Jp];apply hK;clear hK K;refine qz (b:=_) rfl (fun hb3=>?_) (fun hb3=>?_)
   ·skip
    refine awp_rseq [6] (by rfl) fun K hK=>?_;refine qM (by rfl) (by rfl) (qgo wz hm ha _) fun x11q0 h11q0 hx11q0=>?_;obtain⟨rfl,hs11⟩:=hx11q0;have hs_h11q0:Sub h h11q0:=Bt zqC hs11;have hr_h11q0:Sub H h11q0:=Bt zqC hs11;have eb_3q0:=hs11 k3q0 _ zqA;simp+decide only[qJ,↓qa];apply hK;clear hK K;refine qV ?_;try simp only[Xz]
    refine QL h zqC (qA (qC)) ?_;simp+decide only[Xn];exact Vk _
   ·skip
    have hbg:qcV q.1 15=false:=hb3;have hbl:qcV (l.getD i []) 15=false:=by rw[hli];exact hbg
    obtain⟨hA,hsl⟩:=qdZ hbg (by decide) (by decide) true;have htx:=text_tx hbg;obtain⟨A,hAe⟩:∃A,A=Qi 6 q.1 1 true:=⟨_,rfl⟩
    rw[<-hAe]at hA htx;have hAl:A.1.length<=151000:=by have:=htx.1;rw[Jd]at this;simp only[Xo]at this;omega
    have hAi:(Qi 6 (l.getD i []) 1 true)=A:=by rw[hli,hAe]
    have htk0:qat (l.getD i []) false=Qh (A.1++[32,46]):=by unfold qat qdL;rw[hAi];rfl
    have htk1:qat (l.getD i []) true=(Qh (A.1++[32,46])).take ((Qh (A.1++[32,46])).length-1):=by unfold qat qdL;rw[hAi];rfl
    obtain⟨htn,htn1,_⟩:=qiT hbl;have htp:qdL (l.getD i [])=A.1++[32,46]:=by unfold qdL;rw[hAi]
    rw[htp]at htn htn1;refine qE ?_;change Awp _ _ _ _ _ _ _;refine awp_rseq [0,7,8,9,10,11,12,13] (by rfl) fun K hK=>?_;simp+decide only[Qw,Xa,Vw,Jp,Bo,↓qc,↓qI,qh Tryz.underlying52 sz35,↓qj,qd ag35,e0,hib,hql];refine qM (by rfl) (by rfl) (c_build wz hm ha 6 d1 1 (by decide) (by decide) _ q.2 q.1 true (hqx.mono (by repeat (first|exact Vk _|assumption|refine Bt ?_ (Vl (by assumption))|refine Bt ?_ (by assumption)))) hsl (by rw[<-hAe];exact hA.len)) fun x12q4 h12q4 hx12q4=>?_;rw[<-hAe]at hx12q4;obtain⟨sv,p2,rfl,hsv,hS12a⟩:=hx12q4;have hs12:AM.Sub H h12q4:=hS12a.in_ (i:=0) rfl;have hS12:=Sep.nest hS hS12a;simp only[Xv]at hS12;obtain⟨hsvl,hsvs,hsvc⟩:=hsv.shape;have hsvo:=sts_lit hsv;have hs_h12q4:Sub h h12q4:=Bt zqC hs12;have hr_h12q4:Sub H h12q4:=Bt zqC hs12;have eb_3q0:=hs12 k3q0 _ zqA;simp+decide only[Xh,Vw,Xo,Jp,Xi,Xy,↓qc,↓Xr,↓qa,Nat.reduceAdd];apply hK;clear hK K;refine awp_rseq [0,7,8,9,10,11,12] (by rfl) fun K hK=>?_;simp+decide only[Qw,↓qc];refine Qd (cs:=[sv]) (by(rcases hsvo with hz|⟨a1,a2,a3,a4,hz⟩<;>rw[hz]<;>kernel_rfl)) fun k13q2 hk13q2=>?_;have hn_13q2:h12q4 k13q2=none:=by first|assumption|(simp only[Bi]at hk13q2;simp only[hk13q2])
    have hf_13q2:h k13q2=none:=Bj hs_h12q4 hn_13q2;have ne_13q2_3q0:k13q2≠k3q0:=Bl hn_13q2 eb_3q0;refine Yi (es:=1) (v:=wv) (p:=wp) (xs:=ws.map fun w=>[w]) (ys:=[[sv]]) (i:=2) (by rfl) (by rfl) Tryz.underlying59 Tryz.underlying59 (fun k e=>by cases e) qsV by45 ze45 (by rfl) (by decide) (by rfl) hI.row rfl (hS12.forget (Vl hn_13q2)) (by rfl) (BA (Vj _ _ _) (fun x hx=>by rw[V9.1 hx];rfl) (by rfl) (by show(sv.live && true)=true;rw[hsvl];rfl) (.exact 1) (KL _)) (by show(sv.scal && true)=true;rw[hsvs];rfl) (by simp) (by have:=hI.wln;simp only[Yb]at this|-;omega) (by have:=hI.wln;simp only[Yb]at this|-;omega) fun wv2 wp2 h13 hg13 _ hS13=>?_;simp only[XE]at hS13;have hwv2l:=hg13.live;simp+decide only[qJ,↓qa];apply hK;clear hK K;have eb_3q0:h13 k3q0=some _:=hS13.at_ (i:=1) rfl;have hs_h13:AM.Sub h h13:=hS13.in_ (i:=0) rfl;refine awp_rseq [0,7,8,9,10,11,14] (by rfl) fun K hK=>?_;simp+decide only[XI,Zd,Qb,XM,YL,↓qc,↓qf,Nat.reduceAdd];repeat (with_reducible refine zqP ?_)
    refine qM (by rfl) (by rfl) (qdY wz hm ha _ (A.1++[32,46]) (by have:=htx.1;omega) htx.2) fun x14q2 h14q2 hx14q2=>?_;obtain⟨p3,hg14,hG14,hS14a⟩:=hx14q2;have hs14:AM.Sub h13 h14q2:=hS14a.in_ (i:=0) rfl;have hS14:=Sep.nest hS13 hS14a;simp only[Xv]at hS14;have htl:=hg14.live;have hLt:IsL wz p3 5 x14q2 ((Qh (A.1++[32,46])).map Zb):=hg14.isL (Vk _);have nt:∀H:AHeap,Ze Tryz.prog H 39 x14q2=⟨True, .int .i64 (Qh (A.1++[32,46])).length⟩:=fun H=>by have:=hLt.len Tryz.underlying39 H;rwa [Jp]at this
    have hsl1:∀k:IntKind,Ws Tryz.prog 39 x14q2 none (some (.int k ((Qh (A.1++[32,46])).length-1:Nat))) none=⟨True,qhD 5 x14q2 0 ((Qh (A.1++[32,46])).length-1)⟩:=fun k=>tok_slice hLt (by omega);have hwt:IntKind.i64.wrap (((Qh (A.1++[32,46])).length:Int)-1)=(((Qh (A.1++[32,46])).length-1:Nat):Int):=by rw[wrap_i64 (by omega) (by omega)];omega
    have hs_h14q2:Sub h h14q2:=Bt zqC hs14;have hr_h14q2:Sub h13 h14q2:=Bt zqC hs14;have eb_3q0:=hs14 k3q0 _ zqA;simp+decide only[qJ,Zd,↓qa];apply hK;clear hK K;refine qo ?_;refine awp_rseq [0,7,8,9,10,11,14,65] (by rfl) fun K hK=>?_;simp+decide only[QH,qF,Zm,↓qc,↓qf];apply hK;clear hK K;refine YE [0,7,8,9,10,11,14] (fun g:AVal=>[(0,vl),(7, .ptr (.own k3q0) 0),(8, .int .i64 F),(9, .int .i64 bd),(10,wv2),(11, .int .i64 i),(14,g)]) (fun g:AVal=>h14q2) (fun g:AVal=>IsL wz p3 5 g ((qat (l.getD i []) (decide (i=bd))).map Zb)) ?_ ?_
    ·refine qz (b:=_) rfl (fun hb4=>?_) (fun hb4=>?_)
     ·try simp only[qG]at hb4
      refine QK [0,7,8,9,10,11,14] (by rfl) ?_;simp+decide only[QH,qO,Qm,UC,↓qc,↓Qr,↓qf,nt,hwt];try simp+decide only[qJ,Wz,↓qaz,evO,↓qa,hsl1]
      try simp only[QT]
      first
      |exact⟨qhD 5 x14q2 0 ((Qh (A.1++[32,46])).length-1),by simp only[Jp,hpe];rfl,Vk _,by rw[decide_eq_true (show i=bd by omega),htk1];exact tok_pre hLt (by omega)⟩
      |exact⟨x14q2,by simp only[Jp,hpe];rfl,Vk _,by rw[decide_eq_false (show ¬i=bd by omega),htk0];exact hLt⟩
     ·try simp only[qG]at hb4
      refine qE ?_;try simp only[QT]
      first
      |exact⟨qhD 5 x14q2 0 ((Qh (A.1++[32,46])).length-1),by simp only[Jp,hpe];rfl,Vk _,by rw[decide_eq_true (show i=bd by omega),htk1];exact tok_pre hLt (by omega)⟩
      |exact⟨x14q2,by simp only[Jp,hpe];rfl,Vk _,by rw[decide_eq_false (show ¬i=bd by omega),htk0];exact hLt⟩
    ·rintro tv hktv
     have hdl:(qap i).length=1:=rfl;have htvl:=hktv.live;have htvs:=hktv.scal;have htvc:=hktv.cells;refine awp_rseq [0,7,8,9,10,11,15] (by rfl) fun K hK=>?_;simp+decide only[QH,Vw,qO,Zd,ZI,↓qc,↓qf,hwi];try simp+decide only[QH,Vw,qF,Zd,ZI,Qb,XN,YL,Yo,XO,Za,XZ,Xt,WO,Zw,evP,Wz,qay,↓qaz,evO,qeA Tryz.underlying9,qgc,↓qf,↓qc,↓YJ,↓XL,qgr,qmO,Nat.reduceAdd,hwh,hcut1,hdl,qoj hktv]
     repeat (with_reducible refine zqP ?_)
     refine Qz ze65 (cs:=[.str [], .str [], .nilSlice, .int .i64 0, .int .i64 0]) (by rfl) fun k17q10 hk17q10=>?_;have hn_17q10:h14q2 k17q10=none:=by first|assumption|(simp only[Bi]at hk17q10;simp only[hk17q10])
     have hf_17q10:h k17q10=none:=Bj hs_h14q2 hn_17q10;have ne_17q10_3q0:k17q10≠k3q0:=Bl hn_17q10 eb_3q0;refine qN (by rfl) (by rfl) zqA qku (by rfl) (by rfl) zqD (Js _) (by first|rfl|(simp+decide only[ZJ,Qu,WU,ZM,htvs])) ?_;simp only[QZ,Bn];simp+decide only[qR,Vw,Zd,Nat.reduceAdd];apply hK;clear hK K;have hS18:=hS14.lay hn_17q10 ⟨[.str [83], .str (List.cons 80 (qap i)),tv, .int .i64 (100+(i:Int)), .int .i64 8],0⟩;simp only[Xv]at hS18;obtain⟨H18,hH18⟩:∃H18,H18=h14q2.set k17q10 ⟨[.str [83], .str (List.cons 80 (qap i)),tv, .int .i64 (100+(i:Int)), .int .i64 8],0⟩:=⟨_,rfl⟩
     rw[<-hH18]at hS18;refine BO (h':=H18) (by rw[hH18];exact Vk _) ?_;have eb_3q0:H18 k3q0=some _:=hS18.at_ (i:=1) rfl;have eb_17q10:H18 k17q10=some _:=hS18.at_ (i:=8) rfl;have hs_H18:AM.Sub h H18:=hS18.in_ (i:=0) rfl;have hpvl:=hI.prow.live;have huvl:=hI.urow.live;refine awp_rseq [0,7,8,9,10,11,15,83] (by rfl) fun K hK=>?_;simp+decide only[QH,YT,↓qc,↓qf];apply hK;clear hK K;refine qz (b:=_) rfl (fun hb5=>?_) (fun hb5=>?_)
     ·try simp only[qG]at hb5
      have hF5:i<F:=by omega
      have hpsn:ps.length<=i:=by
       have:=congrArg Ee hI.its;unfold YM at this;rw[Jd,Jp,Jp,ES]at this;simp only at this;omega
      have hpc:qeZ ⟨WW l F bd i,tv⟩=[.str [83], .str (List.cons 80 (qap i)),tv, .int .i64 (100+(i:Int)), .int .i64 8]:=by unfold qeZ WW;rw[if_pos hF5]
      refine QK [0,7,8,9,10,11] (by rfl) ?_;simp+decide only[qR,XD,↓qg,fa58_8,↓qj,qd ag56,Qa ag65 qku,Ql eb_3q0,Ql eb_17q10,Nat.reduceAdd,pgB,hpvl,htvl];refine Qd (cs:=[.str [83], .str (List.cons 80 (qap i)),tv, .int .i64 (100+(i:Int)), .int .i64 8]) (by kernel_rfl) fun k19q3 hk19q3=>?_;have hn_19q3:H18 k19q3=none:=by first|assumption|(simp only[Bi]at hk19q3;simp only[hk19q3])
      have hf_19q3:h k19q3=none:=Bj hs_H18 hn_19q3;have ne_19q3_3q0:k19q3≠k3q0:=Bl hn_19q3 eb_3q0;have ne_19q3_17q10:k19q3≠k17q10:=Bl hn_19q3 eb_17q10;refine Yi (es:=5) (v:=pv) (p:=pp) (xs:=ps.map qeZ) (ys:=[[.str [83], .str (List.cons 80 (qap i)),tv, .int .i64 (100+(i:Int)), .int .i64 8]]) (i:=4) (by rfl) (by rfl) Tryz.underlying56 Tryz.underlying56 (fun k e=>by cases e) qku by65 ze65 (by rfl) (by decide) (by rfl) hI.prow rfl (hS18.forget (Vl hn_19q3)) (by rfl) (BA (Vj _ _ _) (fun x hx=>by rw[V9.1 hx];rfl) (by rfl) (by show(true && (true && (tv.live && (true && (true && true)))))=true;rw[htvl];rfl) (.exact 1) (KL _)) (by show(true && (true && (tv.scal && (true && (true && true)))))=true;rw[htvs];rfl) (by simp) (by simp only[Yb];omega) (by simp only[Yb];omega) fun pv2 pp2 h19 hg19 _ hS19=>?_;simp only[XE]at hS19;simp+decide only[YI,↓qg,fa58_8];refine qN (v:=pv2) (by rfl) (by rfl) (hS19.at_ (i:=1) rfl) sz56 hg19.live (by rw[hg19.cells];rfl) (by simp only[Xo,pgB];omega) (Js _) (by rw[hg19.cells];simp[Qu,hg19.scal]) ?_;simp only[XE,WN,hg19.cells,pgB];have hS20:=hS19.put (i:=1) rfl (pgB uv pv2);simp only[XE]at hS20;have hsu:=Xl (ps:=[E,p2,p3]) (hS20.pick [5,6,7] (by decide) (by simp)).2;have hLp:=hI.par (wv2:=wv2) (wp2:=wp2) (sv:=sv) (pv2:=pv2) (pp2:=pp2) (tv:=tv) (E2:=YY [E,p2,p3]) (H2:=h19.set k3q0 (pgB uv pv2)) hF5 hbl (by rw[JK];exact hg13) (by rw[JK,Es,hpc];exact hg19) (hsu E (by simp)) (by rw[hAi];exact hsv.mono (hsu p2 (by simp))) (hktv.mono (hsu p3 (by simp))) ((BZ (ps:=[E,p2,p3]) (hS20.pick [5,6,7,0,1,2,3,4] (by decide) (by simp))).pick [1,2,3,4,5,0] (by decide) (by simp));simp only at hLp;simp+decide only[qR];change Awp _ _ _ _ _ _ _;refine QK [0,7,8,9,10,11] (by rfl) ?_;simp+decide only[YH,↓qc,↓qf,↓qa,hwi2];try simp(disch:=omega)only[wrap_i64,wrap_u8]
      try simp only[QT]
      first
      |exact⟨⟨i+1,wv2,wp2,uv,up,pv2,pp2,YY [E,p2,p3],ws++[sv],ps++[⟨WW l F bd i,tv⟩],us,h19.set k3q0 (pgB uv pv2)⟩,by simp only[Jp,hpe];rfl,Vk _,⟨hLp,by simp only;omega⟩,by simp only;omega⟩
      |exact⟨⟨i+1,wv2,wp2,uv2,up2,pv,pp,YY [E,p2,p3,one k20q8 ⟨[.str [83], .str (List.cons 80 (qap i)),tv, .int .i64 (100+(i:Int)), .int .i64 8],0⟩],ws++[sv],ps,us++[⟨List.cons 85 (qap i), .nilSlice, .slice (.own k20q8) 0 1 (.exact 1),[⟨{WW l F bd i with sec:=[83]},tv⟩]⟩],h20.set k3q0 (pgB uv2 pv)⟩,by simp only[Jp,hpe];rfl,Vk _,⟨hLp,by simp only;omega⟩,by simp only;omega⟩
     ·try simp only[qG]at hb5
      have hF5:¬i<F:=by omega
      have husn:us.length<=i:=hI.uln;have hpc:qeZ ⟨{WW l F bd i with sec:=[83]},tv⟩=[.str [83], .str (List.cons 80 (qap i)),tv, .int .i64 (100+(i:Int)), .int .i64 8]:=rfl;refine qeO 11 [] mixed (by kernel_rfl) (by rfl) ?_;simp only[Zu,VU,Vp];simp+decide only[QH,Xm,Vw,qO,qF,Zd,ZI,Qb,YL,ZN,Wz,qay,↓YP,fa58_7,↓qbh,qd ag55,↓qbg,↓qfw,↓fp_slice,evO,qeA Tryz.underlying9,qgc,Qa ag65 qku,Ql eb_3q0,Ql eb_17q10,Nat.reduceAdd,pgB,huvl,htvl,hwi,hcut1,hdl];repeat (with_reducible refine zqP ?_)
      refine UY (by rfl) ?_;refine Qd (cs:=[.str [83], .str (List.cons 80 (qap i)),tv, .int .i64 (100+(i:Int)), .int .i64 8]) (by kernel_rfl) fun k20q8 hk20q8=>?_;have hn_20q8:H18 k20q8=none:=by first|assumption|(simp only[Bi]at hk20q8;simp only[hk20q8])
      have hf_20q8:h k20q8=none:=Bj hs_H18 hn_20q8;have ne_20q8_3q0:k20q8≠k3q0:=Bl hn_20q8 eb_3q0;have ne_20q8_17q10:k20q8≠k17q10:=Bl hn_20q8 eb_17q10;rw[Qt];simp+decide only[qR,Vw,Zd,XN,Yo,XO,Za,XZ,Xt,WO,Zw,evP,↓qij,↓XL,bld67_0_2];refine UY (by rfl) ?_;refine Qd (cs:=[.str (List.cons 85 (qap i)), .nilSlice, .slice (.own k20q8) 0 1 (.exact 1)]) (by kernel_rfl) fun k20q10 hk20q10=>?_;have ne_20q10_20q8:k20q10≠k20q8:=by simp only[Bi]at hk20q10;simp only[Ua,hk20q10]
      have hn_20q10:H18 k20q10=none:=by first|assumption|(simp only[Bi]at hk20q10;simp only[hk20q10])
      have hf_20q10:h k20q10=none:=Bj hs_H18 hn_20q10;have ne_20q10_3q0:k20q10≠k3q0:=Bl hn_20q10 eb_3q0;have ne_20q10_17q10:k20q10≠k17q10:=Bl hn_20q10 eb_17q10;rw[Qt];try simp only[qbi,qaS]
      have hS20:=hS18.lay hn_20q8 ⟨[.str [83], .str (List.cons 80 (qap i)),tv, .int .i64 (100+(i:Int)), .int .i64 8],0⟩;simp only[Xv]at hS20;refine Yi (es:=3) (v:=uv) (p:=up) (xs:=us.map qna) (ys:=[[.str (List.cons 85 (qap i)), .nilSlice, .slice (.own k20q8) 0 1 (.exact 1)]]) (i:=3) (by rfl) (by rfl) Tryz.underlying55 Tryz.underlying55 (fun k e=>by cases e) sz67 by67 ze67 (by rfl) (by decide) (by rfl) hI.urow rfl (hS20.forget (Vl hk20q10)) (by rfl) (BA (Vj _ _ _) (fun x hx=>by rw[V9.1 hx];rfl) (by rfl) (by rfl) (.exact 1) (KL _)) (by rfl) (by simp) (by simp only[Yb];omega) (by simp only[Yb];omega) fun uv2 up2 h20 hg20 _ hS21=>?_;simp only[XE]at hS21;simp+decide only[YI,Vw,Zd,↓qg,fa58_7];refine qN (v:=uv2) (by rfl) (by rfl) (hS21.at_ (i:=1) rfl) sz55 hg20.live (by rw[hg20.cells];rfl) (by simp only[Xo,pgB];omega) (Js _) (by rw[hg20.cells];simp[Qu,hg20.scal]) ?_;simp only[XE,WN,hg20.cells,pgB];have hS22:=hS21.put (i:=1) rfl (pgB uv2 pv);simp only[XE]at hS22;have hsu:=Xl (ps:=[E,p2,p3,one k20q8 ⟨[.str [83], .str (List.cons 80 (qap i)),tv, .int .i64 (100+(i:Int)), .int .i64 8],0⟩]) (hS22.pick [5,6,7,9] (by decide) (by simp)).2;have hqv:IsL wz (YY [E,p2,p3,one k20q8 ⟨[.str [83], .str (List.cons 80 (qap i)),tv, .int .i64 (100+(i:Int)), .int .i64 8],0⟩]) 5 (.slice (.own k20q8) 0 1 (.exact 1)) [[.str [83], .str (List.cons 80 (qap i)),tv, .int .i64 (100+(i:Int)), .int .i64 8]]:=BA (xs:=[[.str [83], .str (List.cons 80 (qap i)),tv, .int .i64 (100+(i:Int)), .int .i64 8]]) (hsu (one k20q8 ⟨[.str [83], .str (List.cons 80 (qap i)),tv, .int .i64 (100+(i:Int)), .int .i64 8],0⟩) (by simp) k20q8 _ (one_at _ _)) (fun x hx=>by rw[V9.1 hx];rfl) rfl (by show(true && (true && (tv.live && (true && (true && true)))))=true;rw[htvl];rfl) (.exact 1) (KL _);have hLp:=hI.use (wv2:=wv2) (wp2:=wp2) (sv:=sv) (uv2:=uv2) (up2:=up2) (qv:= .slice (.own k20q8) 0 1 (.exact 1)) (tv:=tv) (E2:=YY [E,p2,p3,one k20q8 ⟨[.str [83], .str (List.cons 80 (qap i)),tv, .int .i64 (100+(i:Int)), .int .i64 8],0⟩]) (H2:=h20.set k3q0 (pgB uv2 pv)) hF5 hbl (by rw[JK];exact hg13) (by rw[JK,Es];exact hg20) (hsu E (by simp)) (by rw[hAi];exact hsv.mono (hsu p2 (by simp))) (hktv.mono (hsu p3 (by simp))) (by rw[hpc];exact hqv) ((BZ (ps:=[E,p2,p3,one k20q8 ⟨[.str [83], .str (List.cons 80 (qap i)),tv, .int .i64 (100+(i:Int)), .int .i64 8],0⟩]) (hS22.pick [5,6,7,9,0,1,2,3,4] (by decide) (by simp))).pick [1,2,3,4,5,0] (by decide) (by simp));simp only at hLp;simp+decide only[qR,Vw,Zd];change Awp _ _ _ _ _ _ _;refine QK [0,7,8,9,10,11] (by rfl) ?_;simp+decide only[YH,↓qc,↓qf,↓qa,hwi2];try simp(disch:=omega)only[wrap_i64,wrap_u8]
      try simp only[QT]
      first
      |exact⟨⟨i+1,wv2,wp2,uv,up,pv2,pp2,YY [E,p2,p3],ws++[sv],ps++[⟨WW l F bd i,tv⟩],us,h19.set k3q0 (pgB uv pv2)⟩,by simp only[Jp,hpe];rfl,Vk _,⟨hLp,by simp only;omega⟩,by simp only;omega⟩
      |exact⟨⟨i+1,wv2,wp2,uv2,up2,pv,pp,YY [E,p2,p3,one k20q8 ⟨[.str [83], .str (List.cons 80 (qap i)),tv, .int .i64 (100+(i:Int)), .int .i64 8],0⟩],ws++[sv],ps,us++[⟨List.cons 85 (qap i), .nilSlice, .slice (.own k20q8) 0 1 (.exact 1),[⟨{WW l F bd i with sec:=[83]},tv⟩]⟩],h20.set k3q0 (pgB uv2 pv)⟩,by simp only[Jp,hpe];rfl,Vk _,⟨hLp,by simp only;omega⟩,by simp only;omega⟩
  ·try simp only[qG]at hb2
   have hin:i=qs.length:=by omega
   have hits:YM ps us=(KP qs.length).map (WW l F bd):=by have:=hI.its;simp only at this;rw[this,hin]
   have hbig:∀j<qs.length,qcV (l.getD j []) 15=false:=fun j hj=>hI.big j (by simp only;omega);have hpl2:=hI.prow.live;have hul2:=hI.urow.live;have hE_H:AM.Sub E H:=hS.in_ (i:=5) rfl;have hwi3:hile=hile:=rfl;refine QC ?_;change Awp _ _ _ _ _ _ _;refine awp_rseq [0,8,9,10,16,17] (by rfl) fun K hK=>?_;simp+decide only[qR,Xa,↓qj,Qa ag58 sz58,Ql eb_3q0,Nat.reduceAdd,pgB,hpl2,hul2];refine qM (by rfl) (by rfl) (c_Program wz hm ha H [] .nilSlice .nilSlice .nilSlice .nilSlice .nilSlice .nilSlice uv pv ps us ⟨rfl,rfl,rfl,rfl,rfl,rfl⟩ (hI.prow.isL (hS.in_ (i:=4) rfl)) (fun p hp=>(hI.ptk p hp).mono hE_H) (hI.urow.isL (hS.in_ (i:=3) rfl)) (fun u hu=>by obtain⟨a,b,c⟩:=hI.utk u hu;exact⟨by rw[a];exact⟨rfl,rfl,rfl⟩,b.mono hE_H,fun p hp=>(c p hp).mono hE_H⟩) (by rw[hits,Jp,ES];omega) (items_ok hits hbig) (by have:=hI.uln;simp only at this;omega)) fun x21q1 h21q1 hx21q1=>?_;obtain⟨hs21,rv,f,rfl,hcase⟩:=prog_case hits hbig hx21q1;have hs_h21q1:Sub h h21q1:=Bt zqC hs21;have hr_h21q1:Sub H h21q1:=Bt zqC hs21;have eb_3q0:=hs21 k3q0 _ zqA;simp+decide only[Qw,Xo,Xi,Xy,↓qc,↓Xr,Nat.reduceAdd,faultV];refine Qz qhv (cs:=[.int .i64 0, .int .i64 0, .int .i64 0]) (by rfl) fun k21q5 hk21q5=>?_;have hn_21q5:h21q1 k21q5=none:=by first|assumption|(simp only[Bi]at hk21q5;simp only[hk21q5])
   have hf_21q5:h k21q5=none:=Bj hs_h21q1 hn_21q5;have ne_21q5_3q0:k21q5≠k3q0:=Bl hn_21q5 eb_3q0;simp+decide only[qJ,↓qa];refine qN (by rfl) (by rfl) zqA UF (by rfl) (by rfl) zqD (Js _) (by first|rfl|(simp+decide only[ZJ,Qu,WU,ZM,qbM])) ?_;simp only[QZ,Bn];simp+decide only[qR,Nat.reduceAdd];apply hK;clear hK K;refine qo ?_;obtain⟨H22,hH22⟩:∃H22,H22=h21q1.set k21q5 ⟨[.int .i64 f.e, .int .i64 f.line, .int .i64 f.col],0⟩:=⟨_,rfl⟩
   have hs22:AM.Sub h21q1 H22:=by rw[hH22];exact Vl hn_21q5
   have eb_21q5:H22 k21q5=some ⟨[.int .i64 f.e, .int .i64 f.line, .int .i64 f.col],0⟩:=by rw[hH22];exact Vj _ _ _
   refine BO (h':=H22) (by rw[hH22];exact Vk _) ?_;have hs_H22:AM.Sub h H22:=hs_H.trans (hs21.trans hs22);refine awp_rseq [0,8,10,16,17,111] (by rfl) fun K hK=>?_;simp+decide only[QH,qF,Qm,Zz,↓qc,↓Qr,↓qf,nl];apply hK;clear hK K;refine qz (b:=_) rfl (fun hb6=>?_) (fun hb6=>?_)
   ·try simp only[qG]at hb6
    obtain⟨hf4,rfl⟩:f.e=4/\rv= .nilSlice:=by
     rcases hcase with⟨_,a,b⟩|⟨a,_⟩
     ·exact⟨a,b⟩
     ·omega
    refine awp_rseq [6] (by rfl) fun K hK=>?_;simp+decide only[QH,Zn,Ya,Yh,Zf,Xk,Zm,↓qg,qoT,↓qj,qd ag46,↓qf,↓qc,↓Xc,qY,qZ,qW,↓qcW,pLen_nil Tryz.underlying68,↓QI,↓QE,Ql eb_21q5,hf4];refine Ub (by rfl) ?_;refine qM (by rfl) (by rfl) (qgo wz hm ha _) fun x23q9 h23q9 hx23q9=>?_;obtain⟨rfl,hs23⟩:=hx23q9;have hs_h23q9:Sub h h23q9:=Bt zqC hs23;have hr_h23q9:Sub H22 h23q9:=Bt zqC hs23;have eb_21q5:=hs23 k21q5 _ zqA;simp+decide only[qJ,XT,qab,qar,qad,↓QE,↓qa];apply hK;clear hK K;refine qV ?_;try simp only[Xz]
    refine QL h zqC (qA (qC)) ?_;simp+decide only[Xn];exact Vk _
   ·try simp only[qG]at hb6
    obtain⟨rfl,gs,hg1,hgl,hgL,hgj⟩:f=okF/\∃gs:List ParR,gs.map (·.it)=YM ps us/\gs.length=qs.length/\IsL wz h21q1 5 rv (gs.map qrm)/\∀j<qs.length,(gs.getD j noR).it=WW l F bd j/\StsV wz 32 h21q1 (gs.getD j noR).lv (gs.getD j noR).L/\qnZ 32 (gs.getD j noR).L (Qi 6 (l.getD j []) 1 true).2=true/\SmallS 32 (gs.getD j noR).L:=by
     rcases hcase with⟨a,_⟩|⟨_,b,c⟩
     ·omega
     ·exact⟨b,c⟩
    have nr:∀H:AHeap,Ze Tryz.prog H 68 rv=⟨True, .int .i64 qs.length⟩:=fun H=>by have:=hgL.len Tryz.underlying68 H;rwa [Jp,hgl]at this
    have hrvl:=hgL.live;have hok1:okF.e=0:=rfl;have hok2:okF.line=0:=rfl;have hok3:okF.col=0:=rfl;refine qE ?_;change Awp _ _ _ _ _ _ _;refine qo ?_;refine awp_rseq [8,10,16,132] (by rfl) fun K hK=>?_;simp+decide only[QH,Vz,Xa,Qe,qF,Yh,Zf,Ke,Xk,Vm,Yo,XO,Za,XZ,Xt,WO,Zw,evP,UR,↓qj,Qa qeR UF,↓YJ,↓XL,bld48_,↓qf,qji,ne48,↓qc,↓Xc,qY,qZ,qW,↓qcW,↓QI,↓QE,Ql eb_21q5,Nat.reduceAdd,nl,nr,hok1,hok2,hok3];apply hK;clear hK K;refine qz (b:=_) rfl (fun hb7=>?_) (fun hb7=>?_)
    ·cases hb7
    ·try simp only[qG]at hb7
     refine qE ?_;change Awp _ _ _ _ _ _ _;refine qo ?_;refine awp_rseq [8,10,16,18] (by rfl) fun K hK=>?_;simp+decide only[qJ,↓qa];apply hK;clear hK K;refine qK ?_;refine QD [8,10,16,18] (fun g:L2G=>[(8, .int .i64 F),(10,wv),(16,rv),(18, .int .i64 g.i)]) (fun g:L2G=>g.H) (fun g:L2G=>AM.Sub H22 g.H/\g.i<=qs.length) (fun g:L2G=>qs.length-g.i) ⟨0,H22⟩ (by rfl) (Vk _) ⟨Vk _,Js _⟩ ?_;rintro⟨j,H⟩ ⟨hs2a,hjle⟩;simp only at hs2a hjle|-
     have hs_H:AM.Sub h H:=hs_H22.trans hs2a;refine qo ?_;refine awp_rseq [8,10,16,18,136] (by rfl) fun K hK=>?_;simp+decide only[QH,qF,Qm,Zz,↓qc,↓Qr,↓qf,nr];apply hK;clear hK K;refine qz (b:=_) rfl (fun hb8=>?_) (fun hb8=>?_)
     ·try simp only[qG]at hb8
      have hj:j<qs.length:=by omega
      obtain⟨gi,gst,gsame,gsm⟩:=hgj j hj;obtain⟨lc,o,cc,hpe⟩:=hgL.open (fun e=>by rw[V5]at e;rw[e]at hgl;simp at hgl;omega);have hq2:=hgL.mono (hs22.trans hs2a);rw[hpe]at hq2;obtain⟨e0,e1,e2,e3,e4⟩:=parR_at hq2 (i:=j) (by omega);rw[gi]at e0 e1 e2 e3;have hwn:ws.length=qs.length:=by have:=hI.wln;simp only at this;omega
      have hwL:IsL wz H 1 wv (ws.map fun w=>[w]):=hI.row.isL ((hS.in_ (i:=2) rfl).trans (hs21.trans (hs22.trans hs2a)));obtain⟨lw,ow,cw,hwe⟩:=hwL.open (fun e=>by have h0:=congrArg Ee e;rw[Jp]at h0;simp only[List.length_nil]at h0;omega);have hw2:=hwL;rw[hwe]at hw2;have f0:=one_at1 hw2 (i:=j) (by rw[hwn];exact hj);have hwst:=hI.wst j (by simp only;omega);obtain⟨hgl1,hgs1,hgc1⟩:=gst.shape;obtain⟨hwl1,hws1,hwc1⟩:=hwst.shape;have hjb:(0<=(j:Int)/\(j:Int)<(qs.length:Int))=True:=eq_true ⟨by omega,by omega⟩;have hwj:IntKind.i64.wrap ((j:Int)+1)=(j:Int)+1:=by rw[wrap_i64 (by omega) (by omega)]
      have hwj2:(j:Int)+1=((j+1:Nat):Int):=by omega
      have hwh:IntKind.i64.wrap (100+(j:Int))=100+(j:Int):=by rw[wrap_i64 (by omega) (by omega)]
      have hcut:=qsb ⟨j,by omega⟩;simp only at hcut;have hcut1:List.take ((((j:Nat):Int)+1).toNat-j) (List.drop j ([48,49,50,51,52,53]:Str))=qap j:=by
       rw[show((j:Int)+1).toNat=j+1 by omega];exact hcut
      have hdl:(qap j).length=1:=rfl;refine qE ?_;change Awp _ _ _ _ _ _ _;refine qo ?_;refine qK ?_;refine awp_rseq [8,10,16,18,19] (by rfl) fun K hK=>?_;simp+decide only[qJ,↓qa];apply hK;clear hK K;refine qo ?_;refine awp_rseq [8,10,16,18,19,141] (by rfl) fun K hK=>?_;simp+decide only[QH,qF,↓qc,↓qf,qow];apply hK;clear hK K;refine YE [8,10,16,18,19] (fun z:Str=>[(8, .int .i64 F),(10,wv),(16,rv),(18, .int .i64 j),(19, .str z)]) (fun z:Str=>H) (fun z:Str=>z=(WW l F bd j).sec) ?_ ?_
      ·refine qz (b:=_) rfl (fun hb9=>?_) (fun hb9=>?_)
       ·try simp only[qG]at hb9
        refine QK [8,10,16,18,19] (by rfl) ?_;simp+decide only[QH,Vw,qO,Zd,ZI,↓qc,↓qf,hwj];try simp+decide only[qJ,Yv,Vw,qF,Zd,Qb,YL,Wz,qay,↓qaz,evO,qeA Tryz.underlying9,qgc,↓qf,↓qa,Nat.reduceAdd,hcut1,hdl]
        repeat (with_reducible refine zqP ?_)
        try simp only[QT]
        first
        |exact⟨List.cons 85 (qap j),by simp only[Jp,hpe,hgl];rfl,Vk _,by unfold WW;rw[if_neg (by omega)]⟩
        |exact⟨[83],by simp only[Jp,hpe,hgl];rfl,Vk _,by unfold WW;rw[if_pos (by omega)]⟩
       ·try simp only[qG]at hb9
        refine qE ?_;try simp only[QT]
        first
        |exact⟨List.cons 85 (qap j),by simp only[Jp,hpe,hgl];rfl,Vk _,by unfold WW;rw[if_neg (by omega)]⟩
        |exact⟨[83],by simp only[Jp,hpe,hgl];rfl,Vk _,by unfold WW;rw[if_pos (by omega)]⟩
      ·rintro z rfl
       have e1':rd wz H lc (o+j*5+1)= .str ([80]++qap j):=e1;have e2':rd wz H lc (o+j*5+2)= .int .i64 (100+(j:Int)):=e2;have e3':rd wz H lc (o+j*5+3)= .int .i64 8:=e3;have hgm:AM.Sub h21q1 H:=hs22.trans hs2a;have hEm:AM.Sub E H:=hE_H.trans (hs21.trans hgm);obtain⟨hA2,_⟩:=qdZ (hbig j hj) (by decide) (by decide) true;refine qmm [0,1,2,3,4,5,6,7,8,9,10,11,12,13,14,15,16,17,18,19,20,21,22,23,24,25,26,27,28,29,30,31,32,33,34,35,36,37,38,39,40,41,42,43] [none,none,none,none,none,none,none,none,none,none,none,none,none,none,none,none,none,none,none,none,none,none,none,none,none,none,none,none,none,none,none,none,none,none,none,none,none,none,none,none,none,none,some 41,some 42] 44 [8,10,16,18,190] mixed (by kernel_rfl) (by rfl) fun K hK=>?_;simp only[List.getElem?_cons_zero,List.getElem?_cons_succ,List.filterMap_cons,List.filterMap_nil,YV];simp+decide only[QH,Zn,Vw,qO,Nat.add_zero,Qe,qF,Xo,XF,Jp,qab,Jd,VA,XK,XJ,ZI,qmc,implies_true,qar,Qb,Wi,Ke,Xk,Vm,Yw,YL,Bo,Yo,XO,Za,XZ,Xt,WO,Zw,evP,qan,Wz,qay,qgg,qfu,Uu,↓qc,↓qI,qh Tryz.underlying68 sz72,↓qg,fa72_0,↓qj,qd ag9,↓qf,↓Xc,qY,qZ,qW,↓Zv,↓QR,fa72_1,↓XP,↓QI,↓ag_slice,evO,qeA Tryz.underlying9,qgc,↓QE,fa72_2,Qa ag42 sz42,↓ag_build,↓XL,qgr,qji,ne42,fa72_3,qd qjH,qh Tryz.underlying59 qsV,Nat.reduceAdd,hpe,hwe,e0,e1',e2',e3',e4,f0,hjb,hgl,hwn,hwj,hwh,hcut1,hgl1,hwl1,hdl];repeat (with_reducible refine zqP ?_)
       refine Ub (by rfl) ?_;refine qM (by rfl) (by rfl) (c_Same wz 32 6 _ (gs.getD j noR).lv (ws.getD j .nilSlice) (gs.getD j noR).L (Qi 6 (l.getD j []) 1 true).2 (gst.mono hgm) (hwst.mono hEm) gsm hA2.wf.q.small) fun x32q41 h32q41 hx32q41=>?_;obtain⟨rfl,hs32⟩:=hx32q41;rw[gsame];have hs_h32q41:Sub h h32q41:=Bt zqC hs32;have hr_h32q41:Sub H h32q41:=Bt zqC hs32;rw[Qt];refine And.intro (by first|exact Vk _|assumption|exact Vl (by assumption)) ?_;simp+decide only[Zg,QN,Qe,Xo,XF,Jp,qab,Jd,VA,XK,XJ,qmc,implies_true,qar,Wi,UB,Yc,Uu,↓qbl,qY,qZ,qW];apply hK;clear hK K;refine qz (b:=_) rfl (fun hb10=>?_) (fun hb10=>?_)
       ·cases hb10
       ·try simp only[qG]at hb10
        refine qE ?_;change Awp _ _ _ _ _ _ _;refine QK [8,10,16,18] (by rfl) ?_;simp+decide only[YH,↓qc,↓qf,↓qa,hwj2];try simp(disch:=omega)only[wrap_i64,wrap_u8]
        try simp only[QT]
        refine⟨⟨j+1,h32q41⟩,by simp only[Jp,hpe,hwe,hgl,hwn];rfl,Vk _,⟨hs2a.trans hs32,by simp only;omega⟩,by simp only;omega⟩
     ·try simp only[qG]at hb8
      refine QC ?_;change Awp _ _ _ _ _ _ _;refine awp_rseq [6] (by rfl) fun K hK=>?_;refine qM (by rfl) (by rfl) (qgo wz hm ha _) fun x34q0 h34q0 hx34q0=>?_;obtain⟨rfl,hs34⟩:=hx34q0;have hs_h34q0:Sub h h34q0:=Bt zqC hs34;have hr_h34q0:Sub H h34q0:=Bt zqC hs34;simp+decide only[qJ,↓qa];apply hK;clear hK K;refine qV ?_;refine QL h zqC (qA (qC)) ?_;simp+decide only[Xn];exact Vk _
theorem l_StatementsProgram(wz:World)(hm:MaxL wz)(ha:Asp wz)(h:AHeap)(vl:AVal)(l:List (List XC))(d1:Nat)(hX:XssV wz d1 h vl l)(hL:∀x∈l,LenX 140737488355328 8 x)(uses spoiled:UInt8):
 ACall Tryz.prog wz 4 [vl, .int .u8 uses.toNat, .int .u8 spoiled.toNat] h (fun r _=>r= .bool true):=(qft wz hm ha h vl l d1 hX hL uses spoiled).mono fun _ _ z=>z.1
end Go.Proofs.YtgiadjbiimkbiaaGreatDoor
namespace Go.Proofs.YtgiadjbiimkbiaaGreatDoor
open Go.AM
open Go.ChangeShapes Go.WideShapes Go.ChangeAt Go.RowKit
set_option maxRecDepth 100000
section
variable {H:Type} {enc:TypeId×Value->H} {W:World} {base:Nat} {v:Value} {x:DataW H×List MemPlace}
theorem u8_of{n:Int}(h:(Lit.int .u8 n).wf=true):∃b:UInt8,(b.toNat:Int)=n:=by
 have:=wf_u8 h;exact⟨KD n.toNat,by rw[Dy];omega⟩
theorem arg_u8{t:TypeId}(ht:Tryz.prog.underlying t=some (.int .u8))(h:∃fuel,DataW.trod enc Tryz.prog W 0 (fun _=>true) true fuel t v.cells.toList=some x)(hv:Value.okWide Tryz.prog W .any base t v):
 ∃b:UInt8,VR (fun _=>none) (.int .u8 b.toNat) v:=by
 obtain⟨fuel,hf⟩:=h;obtain⟨n,hcs,_,hw⟩:=DataW.trod_int ht hf;obtain⟨b,hb⟩:=u8_of hw;obtain⟨m,rfl⟩:=okWide_int ht hv;refine⟨b,?_⟩;simp[Value.cells]at hcs;simp only[VR,hb,hcs]
end
theorem returns_and_shaped{H:Type}{enc:TypeId×Value->H}{a:Assume}{C:Checked}{os:Os}{f:FuncId}{fn:Func}{s:ChangeSpec}{conds:List PathCond}{apart fresh handsOn again:Bool}{X:World->Array Value->Prop}
 (hX:∀(w w':World) (args:Array Value),w.heap=w'.heap->X w args->X w' args)
 (own:ownKnob C.prog.godebug=none) (started:os.Started) (noInit:C.prog.inits.idxOf? f=none) (hfn:C.prog.funcs[f]?=some fn)
 (witness:∃(w:World) (tape:Tape) (i:Input),w.os=os/\(w.forCall tape i).Shaped C.prog/\i.vars=[]/\Input.okWide C.prog (w.forCall tape i) .any w.heap.size f i/\
   ((s.pre enc C.prog fn conds apart (w.forCall tape i).memory i.args/\X (w.forCall tape i).memory i.args)/\sizedMet enc C.prog fn (OpenSpec.ofChange s) apart (w.forCall tape i).memory i.args)/\a.holds C.prog (lone (Frame.enter C.prog f i.args .normal) [] (w.forCall tape i)))
 (contract:∀(W:World) (base:Nat) (args:Array Value) (ds gs:List (DataW H)) (before:List MemPlace),W.ShapedOpen C.prog->
   (∀(j:Nat) t v,fn.params[j]?=some t->args[j]?=some v->Value.okWide C.prog W .any base t v)->
   DataW.Whole enc C.prog fn.params.toList s.vars apart W args.toList ds gs before->
   conds.all (PathCond.test C.prog ⟨fn.params.toList,ds,s.plain.varTypes C.prog,gs⟩)=true->
   (DataW.weightsEach C.prog (fn.params.toList++s.plain.varTypes C.prog) (ds++gs)).all (· <=reachBytes)=true->X W args->
   a.holds C.prog (lone (Frame.enter C.prog f args .normal) [] W)->
   Calls C.prog f args W fun e W'=>∃v,e= .returned v/\s.post enc C.prog fn apart fresh handsOn again W args v W'):
 ReturnsInHanded a C os f .any (fun w args=>(s.pre enc C.prog fn conds apart w args/\X w args)/\sizedMet enc C.prog fn (OpenSpec.ofChange s) apart w args) (s.post enc C.prog fn apart fresh handsOn again):=by
 refine returnsInHanded_of_calls own started noInit witness ?_;intro w tape i _ hsh _ hok hpre hholds;obtain⟨_,_,_,fn',hfn',_,_,_,_,hval⟩:=hok;have e:fn'=fn:=Option.some.inj (hfn'.symm.trans hfn);subst e;obtain⟨⟨⟨ds,gs,before,hw,hc⟩,hx⟩,hz⟩:=hpre;have hw':=DataW.Whole.of_heap (w':=w.forCall tape i) (by rfl) hw;refine(contract (w.forCall tape i) w.heap.size i.args ds gs before hsh hval hw' hc (hz.weights hw) (hX _ _ _ (by rfl) hx) hholds).mono fun e W' ⟨v,he,hp⟩=>?_;subst he;exact ChangeSpec.post_blind hp
theorem maxl_of{W:World}(h:W.ShapedOpen Tryz.prog):MaxL W:=
 cell_of_shapedOpen_int (t:=3) (zero:= #[.int .i64 0]) h (of_decide_eq_true (by kernel_rfl)) (by kernel_rfl) rfl (by kernel_rfl) (by kernel_rfl) Tryz.underlying3
theorem asp_of{W:World}{rest:List (String×DataW Unit)}(h:laidMet Tryz.prog (("strings.asciiSpace",Rows.laid_strings_asciiSpace)::rest) W):Asp W:=
 Lib.tabIs_of_head (g:=0) (by kernel_rfl) (by kernel_rfl) (show Tryz.prog.underlying 121=_ from Tryz.underlying121) Tryz.underlying5 (by kernel_rfl) (by kernel_rfl) h
end Go.Proofs.YtgiadjbiimkbiaaGreatDoor
namespace Go.AM
open Go.ChangeShapes Go.WideShapes Go.ChangeAt Go.RowKit
section
variable {P:Program} {H:Type} {enc:TypeId×Value->H} {W:World} {α:Type}
structure RowOf(P:Program)(enc:TypeId×Value->H)(W:World)(e:TypeId)(es:Nat)(el:α->List Value)(inv:α->Prop):Prop where
 size:P.cellsOf e=es
 pos:0<es
 len:∀x,(el x).length=es
 live:∀x,inv x->allLive ((el x).map absS)=true
 cell:∀(n:Nat) (cs:List Value) (y:DataW H×List MemPlace),DataW.trod enc P W 0 (fun _=>true) true n e cs=some y->∃x,cs=el x/\inv x
theorem qiY{el:α->List Value}{inv:α->Prop}{es:Nat}{a:Addr}:∀(len:Nat),(∀i,i<len->∃x:α,inv x/\∀j,j<es->W.cell? (a.add (i*es+j))=(el x)[j]?)->
 ∃l:List α,l.length=len/\(∀x∈l,inv x)/\∀i (hi:i<l.length),∀j,j<es->W.cell? (a.add (i*es+j))=(el l[i])[j]?
 |0,_=>⟨[],rfl,by simp,fun i hi=>by simp at hi⟩
 |n+1,h=>by
  obtain⟨l,h1,h2,h3⟩:=qiY n fun i hi=>h i (by omega);obtain⟨x,hx,hc⟩:=h n (by omega);refine⟨l++[x],by simp[h1],?_,fun i hi j hj=>?_⟩
  ·intro y hy
   rcases JX.1 hy with hy|hy
   ·exact h2 y hy
   ·rw[V9.1 hy];exact hx
  ·by_cases hin:i<l.length
   ·rw[List.getElem_append_left hin]
    exact h3 i hin j hj
   ·have e:i=n:=by simp at hi;omega
    subst e;have:(l++[x])[i]=x:=by rw[List.getElem_append_right (by omega)];simp
    rw[this];exact hc j hj
theorem qdS{el:α->List Value}{inv:α->Prop}{es:Nat}(hes:0<es)(hlen:∀x,(el x).length=es)(hlive:∀x,inv x->allLive ((el x).map absS)=true){b o cap:Nat}{l:List α}(hi:∀x∈l,inv x)(hcap:l.length<=cap)
 (hc:∀i (hi:i<l.length),∀j,j<es->W.cell? ((⟨b,o,none⟩:Addr).add (i*es+j))=(el l[i])[j]?):
 IsL W (fun _=>none) es (.slice (.base b) o l.length (.exact cap)) (l.map fun x=>(el x).map absS):=by
 have hw:∀x∈l.map (fun x=>(el x).map absS),x.length=es:=by
  intro x hx;obtain⟨y,_,rfl⟩:=JM.1 hx;rw[Jp,hlen]
 refine .mk _ _ _ _ _ (by rw[Jp]) hw ?_ (WB.2 fun x hx=>by obtain⟨y,hy,rfl⟩:=JM.1 hx;exact hlive y (hi y hy)) hcap;apply List.ext_getElem?;intro q;by_cases hq:q<l.length*es
 ·rw[qaN _ _ _ _ _ _ hq]
  have hm:q%es<es:=Nat.mod_lt _ hes;have hd:q / es<l.length:=Nat.div_lt_of_lt_mul (by rw[Dz];exact hq);have hqe:q=q / es*es+q%es:=by rw[Dz];exact(Nat.div_add_mod q es).symm
  have hcell:=hc (q / es) hd (q%es) hm;rw[<-hqe]at hcell;have ea:(⟨b,o,none⟩:Addr).add q=⟨b,o+q,none⟩:=by by_cases e:q=0<;>simp[Addr.add,e]
  rw[ea,JD (by rw[hlen];exact hm)]at hcell;have h2:=qkf hw (i:=q / es) (j:=q%es) (by rw[Jp];exact hd) hm;rw[<-hqe]at h2;rw[h2,List.getD_eq_getElem?_getD,V6,JD hd,KI,Option.getD_some,V6,JD (by rw[hlen];exact hm),KI];have hlt:b<W.heap.size:=qgn hcell;simp only[if_true,AM.rd,hlt,hcell]
 ·rw[Kr (by rw[UZ];omega),Kr (by rw[flatten_len hw,Jp];omega)]
theorem qiS{e t:TypeId}{es:Nat}{el:α->List Value}{inv:α->Prop}(R:RowOf P enc W e es el inv)(ht:P.underlying t=some (.slice e)){n:Nat}{cs:List Value}{y:DataW H×List MemPlace}(h:DataW.trod enc P W 0 (fun _=>true) true n t cs=some y):
 ∃(v:Value) (l:List α),cs=[v]/\IsL W (fun _=>none) es (absS v) (l.map fun x=>(el x).map absS)/\l.length<=9223372036854775807/\∀x∈l,inv x:=by
 rcases DataW.trod_slice ht h with⟨hcs,_⟩|⟨a,len,cap,elems,rest,n',_,hcs,_,_,hlc,hcm,hel,hcell,hspare,_⟩
 ·exact⟨_,[],hcs, .nil,by simp,by simp⟩
 ·have hlen:len<=9223372036854775807:=Vg hlc hcm
  have one:∀(m i:Nat) (q:Option (DataW H×List MemPlace)),(W.cells? 0 (a.add (i*P.cellsOf e)) (P.cellsOf e)).bind (DataW.trod enc P W 0 (fun _=>true) true m e)=q->q.isSome=true->∃x:α,inv x/\∀j,j<es->W.cell? (a.add (i*es+j))=(el x)[j]?:=by
   intro m i q hq hs;cases q with
   |none=>cases hs
   |some z=>
    rw[DC]at hq;obtain⟨cs',hcs',hy⟩:=hq;obtain⟨x,rfl,hx⟩:=R.cell _ _ _ hy;rw[R.size]at hcs';refine⟨x,hx,fun j hj=>?_⟩;have:=(World.cells?_some hcs').2.2 j hj;rw[<-this];congr 1;obtain⟨ab,ao,asp⟩:=a;by_cases e1:i*es=0<;>by_cases e2:j=0<;>simp[Addr.add,e1,e2,Kw]
  obtain⟨l,l1,l2,l3⟩:=qiY (W:=W) (el:=el) (inv:=inv) (es:=es) (a:=a) len fun i hi=>one n' i _ (hcell i hi) (by rw[JD (by omega)];rfl);have spot:∀(x:α),(∀j,j<es->W.cell? (a.add (0*es+j))=(el x)[j]?)->a.spot=none:=by
   intro x hx;have h0:=hx 0 R.pos;rw[JD (by rw[R.len];exact R.pos)]at h0;have:=World.cell?_spot h0
   rwa [Addr.add,if_pos (by rw[K9])]at this
  refine⟨.slice (some a) len cap,l,hcs,?_,by omega,l2⟩;subst l1;obtain⟨ab,ao,asp⟩:=a;by_cases hc0:cap=0
  ·have hl0:l=[]:=Kg (by omega)
   subst hl0;subst hc0;cases asp with
   |none=>exact qdS (l:=([]:List α)) (inv:=inv) R.pos R.len R.live (fun x hx=>by cases hx) (KL _) fun i hi=>absurd hi (Dx i)
   |some s=>exact qdS (l:=([]:List α)) (inv:=inv) R.pos R.len R.live (fun x hx=>by cases hx) (KL _) fun i hi=>absurd hi (Dx i)
  ·have hs:asp=none:=by
    by_cases hl0:l.length=0
    ·obtain⟨r1,r2⟩:=hspare rfl
     obtain⟨x,_,hx⟩:=one n' l.length _ (r2 0 (by omega)) (by rw[JD (by omega)];rfl);rw[hl0]at hx;exact spot x hx
    ·exact spot _ (l3 0 (by omega))
   subst hs;exact qdS (inv:=inv) R.pos R.len R.live l2 hlc l3
end
end Go.AM
namespace Go.Proofs.YtgiadjbiimkbiaaGreatDoor
open Go.AM
open Go.ChangeShapes Go.WideShapes Go.ChangeAt Go.RowKit
set_option maxRecDepth 100000
section
variable {H:Type} {enc:TypeId×Value->H} {W:World} {base:Nat} {v:Value} {x:DataW H×List MemPlace}
def byteV(b:UInt8):List Value:=[.int .u8 b.toNat]
theorem qst:RowOf Tryz.prog enc W 5 1 byteV (fun _=>True):=by
 refine⟨by kernel_rfl,by decide,fun _=>rfl,fun _ _=>rfl,fun n cs y h=>?_⟩;obtain⟨a,e0,_,w0⟩:=DataW.trod_int Tryz.underlying5 h;subst e0;obtain⟨a0,a1⟩:=wf_u8 w0;refine⟨KD a.toNat,?_,trivial⟩;unfold byteV;have:((KD a.toNat).toNat:Int)=a:=by
  rw[Dy,DD (by omega)];omega
 rw[this]
end
end Go.Proofs.YtgiadjbiimkbiaaGreatDoor
namespace Go.AM
open Go.ChangeShapes Go.WideShapes Go.ChangeAt Go.RowKit
section
variable {P:Program} {H:Type} {enc:TypeId×Value->H} {W:World} {α:Type}
structure RowOfN(P:Program)(enc:TypeId×Value->H)(W:World)(e:TypeId)(es:Nat)(el:α->List Value)(inv:α->Prop)(Q:DataW H->Prop)(N:Nat):Prop where
 size:P.cellsOf e=es
 pos:0<es
 len:∀x,(el x).length=es
 live:∀x,inv x->allLive ((el x).map absS)=true
 cell:∀(n:Nat),n<=N->∀(cs:List Value) (y:DataW H×List MemPlace),DataW.trod enc P W 0 (fun _=>true) true n e cs=some y->Q y.1->∃x,cs=el x/\inv x
theorem qel{Q:DataW H->Prop}{N M:Nat}{e t:TypeId}{es:Nat}{el:α->List Value}{inv:α->Prop}(R:RowOfN P enc W e es el inv Q N)(ht:P.underlying t=some (.slice e)){n:Nat}(hn:n<=N+1){cs:List Value}{y:DataW H×List MemPlace}(h:DataW.trod enc P W 0 (fun _=>true) true n t cs=some y)(hQ:∀els sp,y.1= .slice els sp->els.length<=M/\(∀d∈els,Q d)/\∀d∈sp,Q d):
 ∃(v:Value) (l:List α),cs=[v]/\IsL W (fun _=>none) es (absS v) (l.map fun x=>(el x).map absS)/\l.length<=M/\∀x∈l,inv x:=by
 rcases DataW.trod_slice ht h with⟨hcs,_⟩|⟨a,len,cap,elems,rest,n',hnn,hcs,hy0,_,hlc,hcm,hel,hcell,hspare,_⟩
 ·exact⟨_,[],hcs, .nil,by simp,by simp⟩
 ·obtain⟨hM,hq⟩:=hQ (elems.map (·.1)) (rest.map (·.1)) (by rw[hy0])
  rw[Jp]at hM;have hn':n'<=N:=by omega
  have hlen:len<=9223372036854775807:=Vg hlc hcm;have one:∀(m i:Nat),m<=N->∀(q:Option (DataW H×List MemPlace)),(W.cells? 0 (a.add (i*P.cellsOf e)) (P.cellsOf e)).bind (DataW.trod enc P W 0 (fun _=>true) true m e)=q->q.isSome=true->(∀z,q=some z->Q z.1)->∃x:α,inv x/\∀j,j<es->W.cell? (a.add (i*es+j))=(el x)[j]?:=by
   intro m i hmN q hq hs hqq;cases q with
   |none=>cases hs
   |some z=>
    rw[DC]at hq;obtain⟨cs',hcs',hy⟩:=hq;obtain⟨x,rfl,hx⟩:=R.cell _ hmN _ _ hy (hqq z rfl);rw[R.size]at hcs';refine⟨x,hx,fun j hj=>?_⟩;have:=(World.cells?_some hcs').2.2 j hj;rw[<-this];congr 1;obtain⟨ab,ao,asp⟩:=a;by_cases e1:i*es=0<;>by_cases e2:j=0<;>simp[Addr.add,e1,e2,Kw]
  obtain⟨l,l1,l2,l3⟩:=qiY (W:=W) (el:=el) (inv:=inv) (es:=es) (a:=a) len fun i hi=>one n' i hn' _ (hcell i hi) (by rw[JD (by omega)];rfl) (fun z hz=>hq.1 _ (JM.2 ⟨z,JO hz,rfl⟩));have spot:∀(x:α),(∀j,j<es->W.cell? (a.add (0*es+j))=(el x)[j]?)->a.spot=none:=by
   intro x hx;have h0:=hx 0 R.pos;rw[JD (by rw[R.len];exact R.pos)]at h0;have:=World.cell?_spot h0
   rwa [Addr.add,if_pos (by rw[K9])]at this
  refine⟨.slice (some a) len cap,l,hcs,?_,by omega,l2⟩;subst l1;obtain⟨ab,ao,asp⟩:=a;by_cases hc0:cap=0
  ·have hl0:l=[]:=Kg (by omega)
   subst hl0;subst hc0;cases asp with
   |none=>exact qdS (l:=([]:List α)) (inv:=inv) R.pos R.len R.live (fun x hx=>by cases hx) (KL _) fun i hi=>absurd hi (Dx i)
   |some s=>exact qdS (l:=([]:List α)) (inv:=inv) R.pos R.len R.live (fun x hx=>by cases hx) (KL _) fun i hi=>absurd hi (Dx i)
  ·have hs:asp=none:=by
    by_cases hl0:l.length=0
    ·obtain⟨r1,r2⟩:=hspare rfl
     obtain⟨x,_,hx⟩:=one n' l.length hn' _ (r2 0 (by omega)) (by rw[JD (by omega)];rfl) (fun z hz=>hq.2 _ (JM.2 ⟨z,JO hz,rfl⟩));rw[hl0]at hx;exact spot x hx
    ·exact spot _ (l3 0 (by omega))
   subst hs;exact qdS (inv:=inv) R.pos R.len R.live l2 hlc l3
def Wt(P:Program)(t:TypeId)(d:DataW H):Prop:=∀k∈d.weights P t,k<=reachBytes
theorem qsK{e:TypeId}:∀{l:List (DataW H)} {d:DataW H},d∈l->∀n∈d.weights P e,n∈DataW.weightsAll P e l
 |[],_,h,_,_=>by cases h
 |x::l,d,h,n,hn=>by
  rw[DataW.weightsAll];rcases List.mem_cons.1 h with rfl|h
  ·exact JX.2 (.inl hn)
  ·exact JX.2 (.inr (qsK h n hn))
theorem qhw{t e:TypeId}(ht:P.underlying t=some (.slice e)){els sp:List (DataW H)}(h:Wt P t (.slice els sp)):(els.length+sp.length)*P.bytesOf e<=reachBytes/\(∀d∈els,Wt P e d)/\∀d∈sp,Wt P e d:=by
 unfold Wt at h;rw[DataW.weights,ht]at h;simp only at h;refine⟨h _ Jg,fun d hd n hn=>h n ?_,fun d hd n hn=>h n ?_⟩
 ·exact Jh _ (JX.2 (.inl (qsK hd n hn)))
 ·exact Jh _ (JX.2 (.inr (qsK hd n hn)))
theorem wt_each:∀{ts:List TypeId} {ds:List (DataW H)},(∀k∈DataW.weightsEach P ts ds,k<=reachBytes)->∀{i:Nat} {t:TypeId} {d:DataW H},ts[i]?=some t->ds[i]?=some d->Wt P t d
 |[],_,_,i,t,d,h,_=>by cases h
 |t0::ts,[],_,i,t,d,_,h=>by cases h
 |t0::ts,d0::ds,hw,i,t,d,h1,h2=>by
  rw[DataW.weightsEach]at hw;cases i with
  |zero=>
   cases h1;cases h2;exact fun k hk=>hw k (JX.2 (.inl hk))
  |succ i=>exact wt_each (fun k hk=>hw k (JX.2 (.inr hk))) h1 h2
theorem qiN{t:TypeId}{fs:Array Field}(ht:P.underlying t=some (.struct fs)){parts:List (DataW H)}(h:Wt P t (.agg parts)){i:Nat}{u:TypeId}{d:DataW H}(hu:(fs.toList.map (·.type))[i]?=some u)(hd:parts[i]?=some d):Wt P u d:=by
 unfold Wt at h;rw[DataW.weights,ht]at h;simp only at h;exact wt_each h hu hd
end
end Go.AM
namespace Go.Proofs.YtgiadjbiimkbiaaGreatDoor
open Go.AM
open Go.Stm
open Go.ChangeShapes Go.WideShapes Go.ChangeAt Go.RowKit
set_option maxRecDepth 100000
theorem XsV.up{wz:World}{h:AHeap}:∀{d:Nat} {v:AVal} {l:List XC},XsV wz d h v l->XsV wz (d+1) h v l
 |0,_,_,hp=>⟨[],hp.1,hp.2,fun q hq=>by cases hq⟩
 |d+1,_,_,⟨qs,e,a,b⟩=>⟨qs,e,a,fun q hq=>⟨(b q hq).1,(b q hq).2.mono (AM.Sub.refl _) fun _ _=>XsV.up⟩⟩
theorem XsV.le{wz:World}{h:AHeap}{d d':Nat}{v:AVal}{l:List XC}(hp:XsV wz d h v l)(hd:d<=d'):XsV wz d' h v l:=by
 induction hd with
 |refl=>exact hp
 |step _ ih=>exact ih.up
section
variable {H:Type} {enc:TypeId×Value->H} {W:World} {base:Nat} {v:Value} {x:DataW H×List MemPlace}
theorem byte_of{a:Int}(h:(Lit.int .u8 a).wf=true):((KD a.toNat).toNat:Int)=a:=by
 obtain⟨a0,a1⟩:=wf_u8 h;rw[Dy,DD (by omega)];omega
def yV(q:YC×Value):List Value:=[.int .u8 q.1.form.toNat,q.2, .int .u8 q.1.short.toNat]
def zV(q:ZC×Value×Value):List Value:=[.int .u8 q.1.1.toNat,q.2.1,q.2.2, .int .u8 q.1.2.2.2.toNat]
def xV(q:XC×Value×Value):List Value:=[.int .u8 q.1.verb.toNat,q.2.1,q.2.2, .bool q.1.cut]
theorem y_row:RowOf Tryz.prog enc W 34 3 yV (fun q=>IsL W (fun _=>none) 1 (absS q.2) (q.1.ops.map u8C)):=by
 refine⟨by kernel_rfl,by decide,fun _=>rfl,fun q hq=>?_,fun n cs y h=>?_⟩
 ·show(true && ((absS q.2).live && (true && true)))=true
  rw[hq.live];rfl
 ·obtain⟨xs,n',_,hy,hl,hlen,hf⟩:=DataW.trod_struct Tryz.underlying34 h
  rw[show Tryz.prog.cellsOf 34=3 by kernel_rfl]at hl;match cs,hl,xs,hlen with
  |[c0,c1,c2],_,[x0,x1,x2],_=>
   have h0:DataW.trod enc Tryz.prog W 0 (fun _=>true) true n' 5 (([c0,c1,c2].drop 0).take (Tryz.prog.cellsOf 5))=some x0:=hf 0 _ rfl;have h1:DataW.trod enc Tryz.prog W 0 (fun _=>true) true n' 32 (([c0,c1,c2].drop 1).take (Tryz.prog.cellsOf 32))=some x1:=hf 1 _ rfl;have h2:DataW.trod enc Tryz.prog W 0 (fun _=>true) true n' 5 (([c0,c1,c2].drop 2).take (Tryz.prog.cellsOf 5))=some x2:=hf 2 _ rfl;simp only[Zu,VU,Vp,show Tryz.prog.cellsOf 5=1 by kernel_rfl,show Tryz.prog.cellsOf 32=1 by kernel_rfl]at h0 h1 h2;obtain⟨a,e0,_,w0⟩:=DataW.trod_int Tryz.underlying5 h0;obtain⟨v1,l1,e1,hL,_,_⟩:=qiS qst Tryz.underlying32 h1;obtain⟨b,e2,_,w2⟩:=DataW.trod_int Tryz.underlying5 h2;simp only[and_true,List.cons.injEq]at e0 e1 e2;subst e0 e1 e2;exact⟨(⟨KD a.toNat,l1,KD b.toNat⟩,c1),by simp only[yV,byte_of w0,byte_of w2],hL⟩
theorem ys_rows{n:Nat}{cs:List Value}{y:DataW H×List MemPlace}(h:DataW.trod enc Tryz.prog W 0 (fun _=>true) true n 28 cs=some y):∃(v:Value) (l:List YC),cs=[v]/\YsV W (fun _=>none) (absS v) l/\∀M:Nat,(∀els sp,y.1= .slice els sp->els.length<=M)->l.length<=M:=by
 have hR:RowOfN Tryz.prog enc W 34 3 yV (fun q=>IsL W (fun _=>none) 1 (absS q.2) (q.1.ops.map u8C)) (fun _=>True) n:=by
  have hr:=y_row (enc:=enc) (W:=W);exact⟨hr.size,hr.pos,hr.len,hr.live,fun n _ cs y h _=>hr.cell n cs y h⟩
 obtain⟨v,l,e,hL,_,hi⟩:=qiS y_row Tryz.underlying28 h;refine⟨v,l.map (·.1),e,⟨l.map fun q=>(q.1,absS q.2),by rw[Di];rfl,by rw[Di];exact hL,fun q hq=>?_⟩,fun M hM=>?_⟩
 ·obtain⟨p,hp,rfl⟩:=JM.1 hq
  exact hi p hp
 ·obtain⟨v2,l2,e2,hL2,hl2,_⟩:=qel (M:=M) hR Tryz.underlying28 (Nat.le_succ n) h (fun els sp hy=>⟨hM els sp hy,fun _ _=>trivial,fun _ _=>trivial⟩)
  rw[e]at e2;simp only[and_true,List.cons.injEq]at e2;subst e2;have h1:=hL.len (P:=Tryz.prog) Tryz.underlying28 (fun _=>none);have h2:=hL2.len (P:=Tryz.prog) Tryz.underlying28 (fun _=>none);rw[h1]at h2;simp only[true_and,Jp,PR.mk.injEq,AVal.int.injEq]at h2;rw[Jp];omega
abbrev capN:Nat:=140737488355328
def XsP(enc:TypeId×Value->H)(W:World)(n:Nat):Prop:=∀(cs:List Value) (y:DataW H×List MemPlace),DataW.trod enc Tryz.prog W 0 (fun _=>true) true n 35 cs=some y->Wt Tryz.prog 35 y.1->∃(v:Value) (l:List XC),cs=[v]/\XsV W n (fun _=>none) (absS v) l/\∀f,LenX capN f l
theorem qkF{e:TypeId}{t:TypeId}(ht:Tryz.prog.underlying t=some (.slice e))(hb:0<Tryz.prog.bytesOf e){d:DataW H}(h:Wt Tryz.prog t d):∀els sp,d= .slice els sp->els.length<=capN:=fun els sp e0=>by
 subst e0;obtain⟨h1,_⟩:=qhw ht h;have h2:els.length+sp.length<=(els.length+sp.length)*Tryz.prog.bytesOf e:=Nat.le_mul_of_pos_right _ hb;have h3:reachBytes<=capN:=by decide
 omega
theorem z_row(N:Nat)(ih:∀m,m<=N->XsP enc W m):RowOfN Tryz.prog enc W 37 4 zV (fun q=>IsL W (fun _=>none) 1 (absS q.2.1) (q.1.2.1.map u8C)/\XsV W N (fun _=>none) (absS q.2.2) q.1.2.2.1/\∀f,LenX capN f q.1.2.2.1) (Wt Tryz.prog 37) N:=by
 refine⟨by kernel_rfl,by decide,fun _=>rfl,fun q hq=>?_,fun n hn cs y h hQ=>?_⟩
 ·show(true && ((absS q.2.1).live && ((absS q.2.2).live && (true && true))))=true
  rw[hq.1.live,hq.2.1.shape.1];rfl
 ·obtain⟨xs,n',hnn,hy,hl,hlen,hf⟩:=DataW.trod_struct Tryz.underlying37 h
  rw[show Tryz.prog.cellsOf 37=4 by kernel_rfl]at hl;match cs,hl,xs,hlen with
  |[c0,c1,c2,c3],_,[x0,x1,x2,x3],_=>
   have h0:DataW.trod enc Tryz.prog W 0 (fun _=>true) true n' 5 (([c0,c1,c2,c3].drop 0).take (Tryz.prog.cellsOf 5))=some x0:=hf 0 _ rfl;have h1:DataW.trod enc Tryz.prog W 0 (fun _=>true) true n' 32 (([c0,c1,c2,c3].drop 1).take (Tryz.prog.cellsOf 32))=some x1:=hf 1 _ rfl;have h2:DataW.trod enc Tryz.prog W 0 (fun _=>true) true n' 35 (([c0,c1,c2,c3].drop 2).take (Tryz.prog.cellsOf 35))=some x2:=hf 2 _ rfl;have h3:DataW.trod enc Tryz.prog W 0 (fun _=>true) true n' 5 (([c0,c1,c2,c3].drop 3).take (Tryz.prog.cellsOf 5))=some x3:=hf 3 _ rfl;simp only[Zu,VU,Vp,show Tryz.prog.cellsOf 5=1 by kernel_rfl,show Tryz.prog.cellsOf 32=1 by kernel_rfl,show Tryz.prog.cellsOf 35=1 by kernel_rfl]at h0 h1 h2 h3;obtain⟨a,e0,_,w0⟩:=DataW.trod_int Tryz.underlying5 h0;obtain⟨v1,l1,e1,hL,_,_⟩:=qiS qst Tryz.underlying32 h1;obtain⟨b,e3,_,w3⟩:=DataW.trod_int Tryz.underlying5 h3;have hw2:Wt Tryz.prog 35 x2.1:=by
    rw[hy]at hQ;exact qiN (i:=2) Tryz.underlying37 hQ rfl rfl
   obtain⟨v2,l2,e2,hX,hLx⟩:=ih n' (by omega) _ _ h2 hw2;simp only[and_true,List.cons.injEq]at e0 e1 e2 e3;subst e0 e1 e2 e3;exact⟨((KD a.toNat,l1,l2,KD b.toNat),c1,c2),by simp only[zV,byte_of w0,byte_of w3],hL,hX.le (by omega),hLx⟩
theorem x_row(N:Nat)(ih:∀m,m<=N->XsP enc W m):RowOfN Tryz.prog enc W 31 4 xV (fun q=>YsV W (fun _=>none) (absS q.2.1) q.1.p/\ZsV W (XsV W N (fun _=>none)) (fun _=>none) (absS q.2.2) q.1.b/\q.1.p.length<=capN/\q.1.b.length<=capN/\∀z∈q.1.b,∀f,LenX capN f z.2.2.1) (Wt Tryz.prog 31) N:=by
 refine⟨by kernel_rfl,by decide,fun _=>rfl,fun q hq=>?_,fun n hn cs y h hQ=>?_⟩
 ·show(true && ((absS q.2.1).live && ((absS q.2.2).live && (true && true))))=true
  rw[hq.1.shape.1,hq.2.1.shape.1];rfl
 ·obtain⟨xs,n',hnn,hy,hl,hlen,hf⟩:=DataW.trod_struct Tryz.underlying31 h
  rw[show Tryz.prog.cellsOf 31=4 by kernel_rfl]at hl;match cs,hl,xs,hlen with
  |[c0,c1,c2,c3],_,[x0,x1,x2,x3],_=>
   have h0:DataW.trod enc Tryz.prog W 0 (fun _=>true) true n' 5 (([c0,c1,c2,c3].drop 0).take (Tryz.prog.cellsOf 5))=some x0:=hf 0 _ rfl;have h1:DataW.trod enc Tryz.prog W 0 (fun _=>true) true n' 28 (([c0,c1,c2,c3].drop 1).take (Tryz.prog.cellsOf 28))=some x1:=hf 1 _ rfl;have h2:DataW.trod enc Tryz.prog W 0 (fun _=>true) true n' 29 (([c0,c1,c2,c3].drop 2).take (Tryz.prog.cellsOf 29))=some x2:=hf 2 _ rfl;have h3:DataW.trod enc Tryz.prog W 0 (fun _=>true) true n' 4 (([c0,c1,c2,c3].drop 3).take (Tryz.prog.cellsOf 4))=some x3:=hf 3 _ rfl;simp only[Zu,VU,Vp,show Tryz.prog.cellsOf 5=1 by kernel_rfl,show Tryz.prog.cellsOf 4=1 by kernel_rfl,show Tryz.prog.cellsOf 28=1 by kernel_rfl,show Tryz.prog.cellsOf 29=1 by kernel_rfl]at h0 h1 h2 h3;obtain⟨a,e0,_,w0⟩:=DataW.trod_int Tryz.underlying5 h0;obtain⟨b,e3,_⟩:=DataW.trod_bool Tryz.underlying4 h3;rw[hy]at hQ;have hw1:Wt Tryz.prog 28 x1.1:=qiN (i:=1) Tryz.underlying31 hQ rfl rfl;have hw2:Wt Tryz.prog 29 x2.1:=qiN (i:=2) Tryz.underlying31 hQ rfl rfl;obtain⟨v1,l1,e1,hY,hYl⟩:=ys_rows h1;have hYl':=hYl capN (qkF Tryz.underlying28 (by decide+kernel) hw1);obtain⟨v2,l2,e2,hL2,hl2,hi2⟩:=qel (M:=capN) (z_row N ih) Tryz.underlying29 (by omega) h2 (fun els sp he=>by
    refine⟨qkF Tryz.underlying29 (by decide+kernel) hw2 els sp he,?_⟩;rw[he]at hw2;exact(qhw Tryz.underlying29 hw2).2)
   simp only[and_true,List.cons.injEq]at e0 e1 e2 e3;subst e0 e1 e2 e3;refine⟨(.mk (KD a.toNat) l1 (l2.map (·.1)) b,c1,c2),by simp only[xV,XC.verb,XC.cut,byte_of w0],hY,?_,hYl',by show(l2.map (·.1)).length<=_;rw[Jp];exact hl2,fun z hz=>?_⟩
   ·refine⟨l2.map fun q=>(q.1,absS q.2.1,absS q.2.2),by rw[Di];rfl,by rw[Di];exact hL2,fun q hq=>?_⟩
    obtain⟨p,hp,rfl⟩:=JM.1 hq;exact⟨(hi2 p hp).1,(hi2 p hp).2.1⟩
   ·obtain⟨p,hp,rfl⟩:=JM.1 hz
    exact(hi2 p hp).2.2
theorem xs_all:∀n,XsP enc W n:=fun n=>by
 induction n using Nat.strongRecOn with
 |ind n ihn=>
  intro cs y h hw;cases n with
  |zero=>simp[DataW.trod]at h
  |succ n=>
   obtain⟨v,l,e,hL,hl,hi⟩:=qel (M:=capN) (x_row n fun m hm=>ihn m (by omega)) Tryz.underlying35 (KL _) h (fun els sp he=>by
    refine⟨qkF Tryz.underlying35 (by decide+kernel) hw els sp he,?_⟩;rw[he]at hw;exact(qhw Tryz.underlying35 hw).2)
   refine⟨v,l.map (·.1),e,⟨l.map fun q=>(q.1,absS q.2.1,absS q.2.2),by rw[Di];rfl,by rw[Di];exact hL,fun q hq=>?_⟩,fun f=>?_⟩
   ·obtain⟨p,hp,rfl⟩:=JM.1 hq
    exact⟨(hi p hp).1,(hi p hp).2.1⟩
   ·cases f with
    |zero=>exact⟨by rw[Jp];exact hl,fun x hx=>by obtain⟨p,hp,rfl⟩:=JM.1 hx;exact⟨(hi p hp).2.2.1,(hi p hp).2.2.2.1⟩⟩
    |succ f=>exact⟨by rw[Jp];exact hl,fun x hx=>by obtain⟨p,hp,rfl⟩:=JM.1 hx;exact⟨(hi p hp).2.2.1,(hi p hp).2.2.2.1,fun z hz=>(hi p hp).2.2.2.2 z hz f⟩⟩
end
end Go.Proofs.YtgiadjbiimkbiaaGreatDoor
namespace Go.Proofs.YtgiadjbiimkbiaaGreatDoor
open Go.AM
open Go.ChangeShapes Go.WideShapes Go.ChangeAt Go.RowKit
open Go.Stm
set_option maxRecDepth 100000
section
variable {H:Type} {enc:TypeId×Value->H} {W:World} {base:Nat} {v:Value} {x:DataW H×List MemPlace}
theorem xss_row(N:Nat):RowOfN Tryz.prog enc W 35 1 (fun q:List XC×Value=>[q.2]) (fun q=>XsV W N (fun _=>none) (absS q.2) q.1/\∀f,LenX capN f q.1) (Wt Tryz.prog 35) N:=by
 refine⟨by kernel_rfl,by decide,fun _=>rfl,fun q hq=>?_,fun n hn cs y h hQ=>?_⟩
 ·show((absS q.2).live && true)=true
  rw[hq.1.shape.1];rfl
 ·obtain⟨v,l,e,hX,hL⟩:=xs_all n cs y h hQ
  exact⟨(l,v),e,hX.le hn,hL⟩
theorem arg_Xss(h:∃fuel,DataW.trod enc Tryz.prog W 0 (fun _=>true) true fuel 52 v.cells.toList=some x)(hv:Value.okWide Tryz.prog W .any base 52 v)(hw:Wt Tryz.prog 52 x.1):
 ∃(l:List (List XC)) (d:Nat) (y:AVal),VR (fun _=>none) y v/\XssV W d (fun _=>none) y l/\∀z∈l,LenX 140737488355328 8 z:=by
 obtain⟨fuel,h2⟩:=h;obtain⟨a0,len0,cap0,rfl⟩:=okWide_slice Tryz.underlying52 hv;have h2':DataW.trod enc Tryz.prog W 0 (fun _=>true) true fuel 52 [.slice a0 len0 cap0]=some x:=h2;obtain⟨v',l,hcs,hL,_,hi⟩:=qel (M:=capN) (xss_row fuel) Tryz.underlying52 (Nat.le_succ _) h2' (fun els sp he=>by
  refine⟨qkF Tryz.underlying52 (by decide+kernel) hw els sp he,?_⟩;rw[he]at hw;exact(qhw Tryz.underlying52 hw).2)
 simp only[and_true,List.cons.injEq]at hcs;subst hcs;refine⟨l.map (·.1),fuel,_,qkL _ _,⟨l.map fun q=>(q.1,absS q.2),by rw[Di];rfl,by rw[Di];exact hL,fun q hq=>?_⟩,fun z hz=>?_⟩
 ·obtain⟨p,hp,rfl⟩:=JM.1 hq
  exact(hi p hp).1
 ·obtain⟨p,hp,rfl⟩:=JM.1 hz
  exact(hi p hp).2 8
end
end Go.Proofs.YtgiadjbiimkbiaaGreatDoor
