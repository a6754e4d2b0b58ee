/-
  Texts of this proof, joined: CtM, CtN, CtO, CtG, CtH, CtP, CtI, CtJ, CtK, CtQ, LwR, LwS, LwX, LwL.
  Conditions: none.
-/
import Derived.Test.YtlhhaagmakhilaaGreatDoorUe
import Derived.Test.YtlhhaagmakhilaaGreatDoorUd
import Derived.Test.YtlhhaagmakhilaaGreatDoorProg
import Derived.Test.YtlhhaagmakhilaaGreatDoorUb
import Derived.WalkKit
import Derived.ProofKit
import Derived.OpenShut
import Derived.ShutString
import Derived.ChangeOld
import Derived.Below
import Derived.Deep.Strs
import Derived.Handed
import Derived.HandedShaped
import Derived.Shelf.Vars
import Derived.Test.YtlhhaagmakhilaaGreatDoorRows
import Derived.Lib.LaidTab
import Derived.MakeChecks
set_option linter.unusedSimpArgs false
set_option linter.unnecessarySimpa false
set_option linter.unusedVariables false
open List renaming length_take->K4,map_cons->Kc,map_nil->Vj,set_cons_zero->VW,set_cons_succ->Ki,getD_cons_zero->VX,getD_cons_succ->Km,length_cons->KX,length_nil->J8,map_append->Ba,mem_append->JI,mem_singleton->BD,flatten_cons->Vx,length_map->Jo,getD->Kn,getElem?_eq_getElem->Jz,length->BP,getElem?_map->Eb,map_map->VT,mem_map->JG,length_set->Et,length_mapIdx->EB,getElem_of_mem->BM,mem_map_of_mem->EI,getElem?_eq_none->Kq
open Go.AM.Sub renaming set->Vg,buf->BH,refl->Vl,none->Bg,set_both->V9,trans->BJ
open Go.AM.AHeap renaming set_ne->Vb,set_same->Vd,set_none->V7,set_set->Vh,ne_some->Bh
open Go.Proofs.YtlhhaagmakhilaaGreatDoor.Sub renaming bufBoth->Ep
open Bool renaming false_and->VZ,not_true->VY,and_true->JS,true_and->Vf,not_false->Ef,false_or->BO,and_eq_true->Kw,or_eq_true->JV,not_eq_true'->Ji,and_eq_false_iff->VP,or_eq_false_iff->VQ,not_eq_false'->VS
open Nat renaming le_of_ble_eq_true->VL,zero_add->Jr,zero_le->Js,add_zero->K6,le_refl->KJ,mul_div_cancel->Vn,le_trans->V5,lt_or_ge->KT,mul_one->BI,not_lt_zero->EH,mul_comm->EJ
open Go.AM.Slots renaming put->VM,keep->VN,get->VO
open Go.AM.AVal renaming cells->VV
open Int renaming toNat_natCast->Vq
open Go.AM.Awp renaming keep->Va,forget->BG
open UInt8 renaming ofNat->KC
open Go.Proofs.YtlhhaagmakhilaaGreatDoor.IsL renaming has->EG
open Option renaming map_some->KH
namespace Go.Proofs.YtlhhaagmakhilaaGreatDoor
open Go.AM
open Go.Proofs
open Go.Col (Str FaultC okF sp)
open Go.Tok
open Go.Cop
open Go.RowKit (Below)
set_option maxRecDepth 100000
def qnl(t:TokC)(pv:AVal)(en wr:Int):List AVal:=[.int .u8 t.kind.toNat, .str t.text, .int .i64 t.line, .int .i64 t.col, .bool t.left,pv, .int .i64 en, .int .i64 wr]
def qgt(wz:World)(h:AHeap)(S:Stm)(r:AVal)(h':AHeap):Prop:=
 ∃(t:TokC) (pb:Option Buf) (en wr:Int) (qs:List RepQ),r= .agg (qnl t (QH 2 pb) en wr)/\bufOk h 2 pb/\h'=QG h pb/\Yn pb=(qs.map Uz).flatten/\(∀q∈qs,RepOk wz h q)/\(S.ok=true->t=S.name/\en=S.at_/\wr= -1/\S.reps=qs.map (·.1))/\(S.ok=false->wr=S.at_)
structure ParG where
 first:Bool
 at_:Nat
 pb:Option Buf
 qs:List RepQ
structure ParOk(wz:World)(h H:AHeap)(l:List TokC)(s:ParG):Prop where
 at_:s.at_<=l.length
 ok:bufOk H 2 s.pb
 eq:Yn s.pb=(s.qs.map Uz).flatten
 reps:∀q∈s.qs,RepOk wz h q
 few:s.qs.length<=s.at_
theorem qnR{l:List TokC}{i:Nat}:((Qm l i false).ok=true->Qm l i true=Qm l i false)/\((Qm l i false).ok=false->(Qm l i true).ok=false/\(Qm l i true).at_=(Qm l i false).at_\/(Qm l i true).ok=true/\(Qm l i true).lo=(Qm l i true).hi/\(Qm l i true).at_=(Qm l i false).at_+1):=by
 unfold Qm;by_cases h1:XJ l i [1,2,3]=true
 ·rw[if_pos h1,if_pos h1]
  exact⟨fun _=>rfl,fun h=>by cases h⟩
 ·rw[if_neg h1,if_neg h1]
  by_cases h2:XJ l i [7]=false
  ·rw[if_pos h2,if_pos h2]
   exact⟨fun h=>(by cases h),fun _=> .inl ⟨rfl,rfl⟩⟩
  ·rw[if_neg h2,if_neg h2]
   by_cases h3:XL l (i+1)=l.length
   ·rw[if_pos (.inl h3),if_pos (.inl h3)]
    exact⟨fun h=>(by cases h),fun _=> .inl ⟨rfl,rfl⟩⟩
   ·have ht:¬(XL l (i+1)=l.length\/true=false/\XL l (i+1)=i+1):=by rintro(q|⟨q,-⟩)<;>first|exact h3 q|cases q
    rw[if_neg ht];by_cases h4:XL l (i+1)=i+1
    ·have hf:XL l (i+1)=l.length\/false=false/\XL l (i+1)=i+1:= .inr ⟨rfl,h4⟩
     rw[if_pos hf];exact⟨fun h=>(by cases h),fun _=> .inr ⟨rfl,h4.symm,rfl⟩⟩
    ·have hf:¬(XL l (i+1)=l.length\/false=false/\XL l (i+1)=i+1):=by rintro(q|⟨-,q⟩)<;>first|exact h3 q|exact h4 q
     rw[if_neg hf];exact⟨fun _=>rfl,fun h=>by cases h⟩
theorem pair_04{l:List TokC}{i:Nat}(hi:i<=l.length):YG l i=
 if (Qm l i true).ok=false then⟨false,⟨[],[]⟩,(Qm l i true).at_⟩
 else if (qal l (Qm l i true).lo (Qm l i true).hi).length=0 then⟨false,⟨[],[]⟩,(Qm l i true).at_-1⟩
 else if Zt l (Qm l i true).at_ BY=false then⟨false,⟨[],[]⟩,(Qm l i true).at_⟩
 else⟨(Qm l ((Qm l i true).at_+1) true).ok,⟨qal l (Qm l i true).lo (Qm l i true).hi,qal l (Qm l ((Qm l i true).at_+1) true).lo (Qm l ((Qm l i true).at_+1) true).hi⟩,(Qm l ((Qm l i true).at_+1) true).at_⟩:=by
 obtain⟨h1,h2⟩:=@qnR l i;obtain⟨o1,o2,o3⟩:=qai (e:=false) hi;unfold YG;simp only;cases hok:(Qm l i false).ok with
 |true=>
  obtain⟨o3,o4,o5,o6⟩:=o3 hok;have o6:=o6 rfl;have:¬(qal l (Qm l i false).lo (Qm l i false).hi).length=0:=by
   unfold qal;rw[K4,List.length_drop];omega
  rw[h1 hok,hok,if_neg (show ¬(true=false) by decide),if_neg (show ¬(true=false) by decide),if_neg this]
 |false=>
  rw[if_pos rfl];rcases h2 hok with⟨q1,q2⟩|⟨q1,q2,q3⟩
  ·rw[if_pos q1,q2]
  ·rw[if_neg (by rw[q1];decide),if_pos (by unfold qal;rw[q2];simp),q3,Nat.add_sub_cancel]
theorem qrH{h:AHeap}{k0 k1:Nat}{Z0 Z1:Blk}(h0:h k0=none)(h1:h k1=none)(hne:k1≠k0){pb:Option Buf}(hok:bufOk ((h.set k0 Z0).set k1 Z1) 2 pb):
 bufOk h 2 pb/\QG h pb k0=none/\QG h pb k1=none/\Sub (QG h pb) (QG ((h.set k0 Z0).set k1 Z1) pb):=by
 have hs:Sub h ((h.set k0 Z0).set k1 Z1):=WW (Vg h0) h1 _;have e0:((h.set k0 Z0).set k1 Z1) k0=some Z0:=(Vb _ _ hne.symm).trans (Vd _ _ _);have e1:((h.set k0 Z0).set k1 Z1) k1=some Z1:=Vd _ _ _;refine⟨hok.sub hs,?_,?_,Ep hs⟩
 ·cases pb with
  |none=>exact h0
  |some b=>exact(Vb _ _ (qiF hok e0)).trans h0
 ·cases pb with
  |none=>exact h1
  |some b=>exact(Vb _ _ (qiF hok e1)).trans h1
theorem qaP{wz:World}{h:AHeap}{S:Stm}{t:TokC}{pb:Option Buf}{en wr:Int}{qs:List RepQ}(hok:bufOk h 2 pb)(hb:Yn pb=(qs.map Uz).flatten)(hq:∀q∈qs,RepOk wz h q)(hS:S.ok=false)(hw:wr=S.at_):qgt wz h S (.agg (qnl t (QH 2 pb) en wr)) (QG h pb):=
 ⟨t,pb,en,wr,qs,rfl,hok,rfl,hb,hq,(fun e=>by rw[hS]at e;cases e),fun _=>hw⟩
theorem qpW(wz:World)(h:AHeap)(v:AVal)(l:List TokC)(a:Nat)(hv:IsL wz h 5 v (l.map QM))(hl:l.length<=1000000)(ha:a<l.length)(hi:¬a+1<l.length):
 ACall Tryz.prog wz 29 [v, .int .i64 a] h (fun r h'=>qgt wz h (QL l (a+1)) r h'):=by
 have hlv:=hv.live;have nv:=XY hv;have hd:decide ((l.length:Int)<=(a:Int)+1)=true:=decide_eq_true (by omega);have hS:QL l (a+1)=qdj (a+1):=by unfold QL;rw[if_pos (by unfold XJ;rw[decide_eq_false hi,VZ])]
 rw[hS];refine qW (n:=132) (rs:=[.cell 4 70]) Tryz.func29 rfl rfl rfl rfl (VL rfl) ?_;simp only[Qe];refine awp_rseq [0,1,4] (by rfl) fun K hK=>?_;refine Qi ze70 (cs:=[.int .u8 0, .str [], .int .i64 0, .int .i64 0, .bool false, .nilSlice, .int .i64 0, .int .i64 0]) (by rfl) fun k0q0 hk0q0=>?_;try have hf_0q0:h k0q0=none:=by first|assumption|(simp only[V7]at hk0q0;simp only[hk0q0])
 simp+decide only[qa,putD,VM,VN,Ka,Jr];apply hK;clear hK K;refine awp_rseq [0,1,4,5] (by rfl) fun K hK=>?_;simp+decide only[ev,qI,qG,putD,VM,VO,if_false,true_and,↓Qo,↓qZ,qsd,evP,Kc,Vj];refine Qi ze70 (cs:=[.int .u8 0, .str [], .int .i64 0, .int .i64 0, .bool false, .nilSlice, .int .i64 0, .int .i64 0]) (by rfl) fun k1q1 hk1q1=>?_;have ne_1q1_0q0:k1q1≠k0q0:=by simp only[V7]at hk1q1;simp only[hk1q1,ne_eq,not_false_eq_true]
 try have hf_1q1:h k1q1=none:=by first|assumption|(simp only[V7]at hk1q1;simp only[hk1q1])
 refine qp (by rfl) (by rfl) zqA Uw (by rfl) (by rfl) zqD (Js _) (by rfl) ?_;simp only[Vh,VV];simp+decide only[qa,ev,putD,VM,VO,VN,Ka,setAt,VW,Ki,Jr,Nat.reduceAdd];apply hK;clear hK K;refine awp_rseq [0,4,5,6] (by rfl) fun K hK=>?_;simp+decide only[qa,ev,qI,qG,putD,VM,VO,VN,Ka,true_and,↓qg,qc,↓qw,ql,qy,cond_false,qo,QS,↓qd,qb];try simp(disch:=omega)only[wrap_i64]
 apply hK;clear hK K;refine qJ ?_;refine awp_rseq [0,4,5,6,34] (by rfl) fun K hK=>?_;simp+decide only[qa,ev,qI,qG,putD,VM,VO,VN,Ka,true_and,↓qg,qc,↓Xc,Qv,↓qw,ql,qP,cond_false,qo,Ub,↓Xe,agP,Qw,qO,qK,Qh,implies_true,VY,Zk,false_implies,qaf,qdz,qlW,↓Zc,XN,↓Xl,qm,↓Zg,↓Xd,qy,↓qcJ,Qy,Qk,↓Xa,nv,hd];apply hK;clear hK K;refine qH (b:=_) rfl (fun hb1=>?_) (fun hb1=>?_)
 ·try simp only at hb1
  refine awp_rseq [4,5] (by rfl) fun K hK=>?_;simp+decide only[ev,putD,VM,VO,Ka,true_and,↓qg,qc,↓qB,qm,qdW,Jr];refine qp (by rfl) (by rfl) zqA sz3 (by rfl) (by rfl) zqD (Js _) (by rfl) ?_;simp only[Vh,VV];simp+decide only[qa,ev,putD,VO,VN,Ka,setAt,VW,Ki];apply hK;clear hK K;refine awp_rseq [4] (by rfl) fun K hK=>?_;simp+decide only[ev,putD,VM,VO,Ka,true_and,↓qF,qY,qh qbE Uw,QN,qf,VX,Km,Jr,Nat.reduceAdd,qC,qi,qE,QK,allLive,JS];refine qp (by rfl) (by rfl) zqA Uw (by rfl) (by rfl) zqD (Js _) (by rfl) ?_;simp only[VV];simp+decide only[qa,ev,putD,VO,VN,Ka,setAt,VW,Ki,Jr,Nat.reduceAdd];apply hK;clear hK K;refine qL ?_;try simp only[Qg]
  refine QF (?_) ?_
  ·simp+decide only[QD,qj,VO,if_true,and_true,qj,qh qbE Uw,Qa,qf,VX,Km,Jr,Nat.reduceAdd,qC,qi,qE,QK,allLive,JS,qf,VX,Km,Jr,Nat.reduceAdd,qC,qi,qE,QK,allLive,JS]
  simp+decide only[VO,if_true,Zh,qj,qh qbE Uw,Qa,qf,VX,Km,Jr,Nat.reduceAdd,qC,qi,qE,QK,allLive,JS,qf,VX,Km,Jr,Nat.reduceAdd,qC,qi,qE,QK,allLive,JS];exact⟨QG h none,zqB,qaP (t:=noT) (pb:=none) (en:=0) (qs:=[]) trivial rfl (fun q hq=>by cases hq) rfl rfl⟩
 ·exact absurd hb1 (by decide)
end Go.Proofs.YtlhhaagmakhilaaGreatDoor
namespace Go.Proofs.YtlhhaagmakhilaaGreatDoor
open Go.AM
open Go.Proofs
open Go.Col (Str FaultC okF sp)
open Go.Tok
open Go.Cop
open Go.RowKit (Below)
set_option maxRecDepth 100000
theorem kind_two{l:List TokC}{i:Nat}(hi:i<l.length):XJ l i [1,3]=(decide (((l.getD i XZ).kind.toNat:Int)=1)||decide (((l.getD i XZ).kind.toNat:Int)=3)):=by
 unfold XJ;rw[decide_eq_true hi,Vf,show((1:Int))=((1:UInt8).toNat:Nat)from rfl,qci,show((3:Int))=((3:UInt8).toNat:Nat)from rfl,qci,Yy l noT XZ hi];simp
theorem qeP{l:List TokC}{i:Nat}(hi:i<l.length):XJ l i [6]=decide (((l.getD i XZ).kind.toNat:Int)=6):=by
 unfold XJ;rw[decide_eq_true hi,Vf,show((6:Int))=((6:UInt8).toNat:Nat)from rfl,qci,Yy l noT XZ hi];simp
theorem kind_out{l:List TokC}{i:Nat}(hi:¬i<l.length)(ks:List UInt8):XJ l i ks=false:=by unfold XJ;rw[decide_eq_false hi,VZ]
theorem le_or(j n:Nat):(j<n/\decide ((j:Int)<(n:Int))=true/\decide ((n:Int)<=(j:Int))=false)\/(¬j<n/\decide ((j:Int)<(n:Int))=false/\decide ((n:Int)<=(j:Int))=true):=by
 by_cases q:j<n
 ·exact .inl ⟨q,decide_eq_true (by omega),decide_eq_false (by omega)⟩
 ·exact .inr ⟨q,decide_eq_false (by omega),decide_eq_true (by omega)⟩
theorem qlo(O:Opd)(k wr:Int)(hk:k=if O.ok=true then(O.at_:Int)else-1)(hw:wr=if O.ok=true then 0 else(O.at_:Int)):(O.ok=true/\k=O.at_)\/(O.ok=false/\k= -1/\wr=O.at_):=by
 cases h:O.ok with
 |true=>rw[h,if_pos rfl]at hk;exact .inl ⟨rfl,hk⟩
 |false=>rw[h,if_neg (by decide)]at hk hw;exact .inr ⟨rfl,hk,hw⟩
def qgN(h:AHeap)(k0 k1:Nat)(t:TokC)(pb:Option Buf):AHeap:=(h.set k0 ⟨[.int .u8 0, .str [], .int .i64 0, .int .i64 0, .bool false, .nilSlice, .int .i64 0, .int .i64 0],0⟩).set k1 ⟨[.int .u8 t.kind.toNat, .str t.text, .int .i64 t.line, .int .i64 t.col, .bool t.left,QH 2 pb, .int .i64 0, .int .i64 (-1)],0⟩
theorem parse_ok{wz:World}{h:AHeap}{S:Stm}{t:TokC}{pb:Option Buf}{qs:List RepQ}(hok:bufOk h 2 pb)(hb:Yn pb=(qs.map Uz).flatten)(hq:∀q∈qs,RepOk wz h q)(hS:S=⟨true,t,qs.map (·.1),S.at_⟩):qgt wz h S (.agg (qnl t (QH 2 pb) S.at_ (-1))) (QG h pb):=
 ⟨t,pb,_,_,qs,rfl,hok,rfl,hb,hq,fun _=>⟨by rw[hS],rfl,rfl,by rw[hS]⟩,fun e=>by rw[hS]at e;cases e⟩
set_option maxHeartbeats 1000000 in
theorem qfz(wz:World)(h:AHeap)(lc:AM.Loc)(o:Nat)(c:Cap)(l:List TokC)(t:TokC)(hv:IsL wz h 5 (.slice lc o l.length c) (l.map QM))(hl:l.length<=1000000)(k0 k1:Nat)(h0:h k0=none)(h1:h k1=none)(hne:k1≠k0)(s:ParG)(hs:ParOk wz h (qgN h k0 k1 t s.pb) l s):
 Awp Tryz.prog wz 132 (Ud 7 (qcT Tryz.f29)) (qdb Tryz.prog wz [.cell 4 70] (qgt wz h (Yu l t ⟨true,s.qs.map (·.1),s.at_⟩))) [(0, .slice lc o l.length c),(4, .ptr (.own k0) 0),(5, .ptr (.own k1) 0),(6, .int .i64 s.at_)] (QG (qgN h k0 k1 t s.pb) s.pb):=by
 obtain⟨first,i,pb,qs⟩:=s;obtain⟨s1,s2,s3,s4,s5⟩:=hs;simp only at s1 s2 s3 s4 s5|-
 obtain⟨p1,p2,p3,p4⟩:=qrH h0 h1 hne s2;obtain⟨H7,hH7⟩:∃H7,H7=QG (qgN h k0 k1 t pb) pb:=⟨_,rfl⟩
 have hs_H7:Sub h H7:=by rw[hH7];exact(WW (Vg h0) h1 _).trans (BH s2)
 have eb_0:H7 k0=some ⟨[.int .u8 0, .str [], .int .i64 0, .int .i64 0, .bool false, .nilSlice, .int .i64 0, .int .i64 0],0⟩:=by rw[hH7];exact ZE s2 ((Vb _ _ hne.symm).trans (Vd _ _ _))
 have eb_1:H7 k1=some ⟨[.int .u8 t.kind.toNat, .str t.text, .int .i64 t.line, .int .i64 t.col, .bool t.left,QH 2 pb, .int .i64 0, .int .i64 (-1)],0⟩:=by rw[hH7];exact ZE s2 (Vd _ _ _)
 have ne_1_0:k1≠k0:=hne;have hp7:Sub (QG h pb) H7:=by rw[hH7];exact p4
 rw[<-hH7];have hlv:=hv.live;have nv:=XY hv;have hbl:=QW 2 pb;have hvl:=hv.mono hs_H7;have ek:i<l.length->rd wz H7 lc (o+i*5)= .int .u8 (l.getD i XZ).kind.toNat:=fun hj=>(YL hvl hj).1;obtain⟨S,hS⟩:∃S,S=Yu l t ⟨true,qs.map (·.1),i⟩:=⟨_,rfl⟩
 rw[<-hS];have hS:S=if XJ l i [6]=false then qdj i else⟨true,t,qs.map (·.1),i+1⟩:=by
  rw[hS];unfold Yu;rw[if_neg (by intro e;cases e)]
 change Awp _ _ _ (Code.seq _ _) _ _ _;refine qJ ?_;rcases le_or i l.length with⟨hjl,hd,hd2⟩|⟨hjl,hd,hd2⟩
 all_goals
  refine awp_rseq [4,5,6,124] (by rfl) fun K hK=>?_;simp+decide only[qa,ev,qI,qG,putD,VM,VO,VN,Ka,true_and,↓qg,qc,↓Xc,Qv,Ze Tryz.underlying26,↓qw,ql,qP,cond_false,qo,Ub,↓Xe,agP,Qw,qO,qK,Qh,implies_true,Ef,VY,Qz,Zk,forall_const,false_implies,qaf,BO,qdz,↓Zc,XN,YT,qU Tryz.underlying26 Xb,↓Xl,qm,qbp,↓Zg,qz qie,↓Xd,qy,Ua,↓Xa,Qy,Qk,ZC,qi,hd2,hjl,ek,Vq,K6];repeat (with_reducible refine And.intro ?_ ?_;· first|trivial|omega|(intro hg;simp only[Kw,JV,Ji,VP,VQ,VS,decide_eq_true_eq,decide_eq_false_iff_not,XK]at hg;omega))
  apply hK;clear hK K;refine qH (b:=_) rfl (fun hb1=>?_) (fun hb1=>?_)
  ·try simp only[decide_eq_false_iff_not,Ji]at hb1
   refine awp_rseq [4,5] (by rfl) fun K hK=>?_;simp+decide only[ev,putD,VM,VO,Ka,true_and,↓qg,qc,↓qB,qm,qdW,Jr];refine qp (by rfl) (by rfl) zqA sz3 (by rfl) (by rfl) zqD (Js _) (by first|rfl|(simp+decide only[ev,putD,VM,VO,Ka,VV,Qr,JS,Vf,XU,XA,XB,Xh])) ?_;simp only[VV];simp+decide only[qa,ev,putD,VO,VN,Ka,setAt,VW,Ki];apply hK;clear hK K;refine awp_rseq [4] (by rfl) fun K hK=>?_;simp+decide only[ev,putD,VM,VO,Ka,true_and,↓qF,qY,qh qbE Uw,QN,qf,VX,Km,Jr,Nat.reduceAdd,qC,qi,qE,allLive,JS,hbl];refine qp (by rfl) (by rfl) zqA Uw (by rfl) (by rfl) zqD (Js _) (by first|rfl|(simp+decide only[ev,VO,Ka,VV,Qr,JS,XU,XA,XB,Xh])) ?_;simp only[VV];simp+decide only[qa,ev,putD,VO,VN,Ka,setAt,VW,Ki,Jr,Nat.reduceAdd];apply hK;clear hK K;refine qL ?_;try simp only[Qg]
   refine QF (?_) ?_
   ·simp+decide only[QD,qj,VO,if_true,and_true,qj,qh qbE Uw,Qa,qf,VX,Km,Jr,Nat.reduceAdd,qC,qi,qE,allLive,JS,qf,VX,Km,Jr,Nat.reduceAdd,qC,qi,qE,allLive,JS,hbl]
   simp+decide only[VO,if_true,Zh,qj,qh qbE Uw,Qa,qf,VX,Km,Jr,Nat.reduceAdd,qC,qi,qE,allLive,JS,qf,VX,Km,Jr,Nat.reduceAdd,qC,qi,qE,allLive,JS,hbl];have hk6:XJ l i [6]=false:=by
    first
    |exact kind_out hjl _
    |(rw[qeP hjl];exact decide_eq_false hb1)
   rw[if_pos hk6]at hS;exact⟨QG h pb,WW (WW hp7 p3 _) p2 _,qaP p1 s3 s4 (by rw[hS];rfl) (by rw[hS];rfl)⟩
  ·try exact absurd hb1 (by decide)
   all_goals
    try simp only[decide_eq_true_eq,VS]at hb1
    refine qN ?_;change Awp _ _ _ _ _ _ _;refine awp_rseq [4,5] (by rfl) fun K hK=>?_;simp+decide only[ev,qI,qG,putD,VM,VO,Ka,true_and,↓qg,qc,↓qw,ql,qy,cond_false,qo,QS,↓qB,qm,fa70_2,Jr];try simp(disch:=omega)only[wrap_i64]
    refine qp (by rfl) (by rfl) zqA sz3 (by rfl) (by rfl) zqD (Js _) (by first|rfl|(simp+decide only[ev,putD,VM,VO,Ka,VV,Qr,JS,Vf,XU,XA,XB,Xh])) ?_;simp only[VV];simp+decide only[qa,ev,putD,VO,VN,Ka,setAt,VW,Ki];apply hK;clear hK K;refine awp_rseq [4] (by rfl) fun K hK=>?_;simp+decide only[ev,putD,VM,VO,Ka,true_and,↓qF,qY,qh qbE Uw,QN,qf,VX,Km,Jr,Nat.reduceAdd,qC,qi,qE,allLive,JS,hbl];refine qp (by rfl) (by rfl) zqA Uw (by rfl) (by rfl) zqD (Js _) (by first|rfl|(simp+decide only[ev,VO,Ka,VV,Qr,JS,XU,XA,XB,Xh])) ?_;simp only[VV];simp+decide only[qa,ev,putD,VO,VN,Ka,setAt,VW,Ki,Jr,Nat.reduceAdd];apply hK;clear hK K;refine qL ?_;refine QF (?_) ?_
    ·simp+decide only[QD,qj,VO,if_true,and_true,qj,qh qbE Uw,Qa,qf,VX,Km,Jr,Nat.reduceAdd,qC,qi,qE,allLive,JS,qf,VX,Km,Jr,Nat.reduceAdd,qC,qi,qE,allLive,JS,hbl]
    simp+decide only[VO,if_true,Zh,qj,qh qbE Uw,Qa,qf,VX,Km,Jr,Nat.reduceAdd,qC,qi,qE,allLive,JS,qf,VX,Km,Jr,Nat.reduceAdd,qC,qi,qE,allLive,JS,hbl];rw[if_neg (by rw[qeP hjl,decide_eq_true hb1];decide)]at hS;subst hS;exact⟨QG h pb,WW (WW hp7 p3 _) p2 _,parse_ok (S:=⟨true,t,qs.map (·.1),i+1⟩) p1 s3 s4 rfl⟩
set_option maxHeartbeats 4000000 in
theorem l_Parse8(wz:World)(h:AHeap)(lc:AM.Loc)(o:Nat)(c:Cap)(l:List TokC)(t:TokC)(hv:IsL wz h 5 (.slice lc o l.length c) (l.map QM))(hl:l.length<=1000000)(k0 k1:Nat)(h0:h k0=none)(h1:h k1=none)(hne:k1≠k0)(i:Nat)(hi:i<l.length):
 Awp Tryz.prog wz 132 (Ud 6 (qcT Tryz.f29)) (qdb Tryz.prog wz [.cell 4 70] (qgt wz h (Yu l t (if Zt l (i+1) ZN=true then YD l (l.length+2) (i+2) true []else⟨true,[],i+1⟩)))) [(0, .slice lc o l.length c),(4, .ptr (.own k0) 0),(5, .ptr (.own k1) 0),(6, .int .i64 ((i+1:Nat):Int))] (qgN h k0 k1 t none):=by
 have hs0:Sub h (qgN h k0 k1 t none):=WW (Vg h0) h1 _;have hlv:=hv.live;have nv:=XY hv;obtain⟨W,hW⟩:∃W,W=Zt l (i+1) ZN:=⟨_,rfl⟩
 rw[<-hW];obtain⟨H7,hH7⟩:∃H7,H7=qgN h k0 k1 t none:=⟨_,rfl⟩
 have hs_H7:Sub h H7:=by rw[hH7];exact hs0
 rw[<-hH7];have hsn:(AVal.bool true).scal=true:=rfl;have hso:(AVal.bool true).scal=true:=rfl;have hln:(AVal.bool true).live=true:=rfl;have hlo:(AVal.bool true).live=true:=rfl;have hbl:=QW 2 none;change Awp _ _ _ (Code.seq _ _) _ _ _;refine qJ ?_;refine awp_rseq [0,4,5,6,47] (by rfl) fun K hK=>?_;simp+decide only[ev,putD,VM,VO,Ka,true_and,↓qg,qc];refine qM (V:= .bool W) (by rfl) (by rfl) (by rw[hW];exact qkf wz _ _ l (i+1) ZN (hv.mono zqB) (by omega)) ?_;simp+decide only[qa,putD,VM,VN,Ka];apply hK;clear hK K;refine qH (b:=_) rfl (fun hb1=>?_) (fun hb1=>?_)
 ·skip
  have hlt2:i+1<l.length:=qbF (hW.symm.trans hb1);rw[hb1,if_pos rfl];have hPr:YD l (l.length+2) (i+2) true []=qbl l (i+2) true []:=qdO l _ _ _ _ _ (by omega) (by omega) (by omega);rw[hPr];refine awp_rseq [0,4,5,6] (by rfl) fun K hK=>?_;simp+decide only[qa,ev,qI,qG,putD,VM,VO,VN,Ka,true_and,↓qg,qc,↓qw,ql,qy,cond_false,qo,QS,↓qd,qb];try simp(disch:=omega)only[wrap_i64]
  apply hK;clear hK K;refine awp_rseq [0,4,5,6,7] (by rfl) fun K hK=>?_;simp+decide only[qa,ev,qI,qG,putD,VM,VN,Ka,true_and,↓qd,qb];apply hK;clear hK K;refine Qj ?_;refine Xj [0,4,5,6,7] (fun g:ParG=>[(0, .slice lc o l.length c),(4, .ptr (.own k0) 0),(5, .ptr (.own k1) 0),(6, .int .i64 g.at_),(7, .bool g.first)]) (fun g:ParG=>QG (qgN h k0 k1 t g.pb) g.pb) (fun g:ParG=>ParOk wz h (qgN h k0 k1 t g.pb) l g/\qbl l (i+2) true []=qbl l g.at_ g.first (g.qs.map (·.1))) (fun g:ParG=>l.length-g.at_) ⟨true,i+2,none,[]⟩ (by rfl) (by rw[hH7];exact Vl _) ⟨⟨by simp only;omega,trivial,rfl,(fun q hq=>by cases hq),Js _⟩,rfl⟩ ?_;rintro⟨first,at_,pb,qs⟩ ⟨⟨g1,g2,g3,g4,g5⟩,hPe⟩;simp only at g1 g2 g3 g4 g5 hPe|-
  obtain⟨p1,p2,p3,p4⟩:=qrH h0 h1 hne g2;obtain⟨H8,hH8⟩:∃H8,H8=QG (qgN h k0 k1 t pb) pb:=⟨_,rfl⟩
  have hs_H8:Sub h H8:=by rw[hH8];exact(WW (Vg h0) h1 _).trans (BH g2)
  have eb_0:H8 k0=some ⟨[.int .u8 0, .str [], .int .i64 0, .int .i64 0, .bool false, .nilSlice, .int .i64 0, .int .i64 0],0⟩:=by rw[hH8];exact ZE g2 ((Vb _ _ hne.symm).trans (Vd _ _ _))
  have eb_1:H8 k1=some ⟨[.int .u8 t.kind.toNat, .str t.text, .int .i64 t.line, .int .i64 t.col, .bool t.left,QH 2 pb, .int .i64 0, .int .i64 (-1)],0⟩:=by rw[hH8];exact ZE g2 (Vd _ _ _)
  have ne_1_0:k1≠k0:=hne;have hp8:Sub (QG h pb) H8:=by rw[hH8];exact p4
  rw[<-hH8];have hbl:=QW 2 pb;have hvl:=hv.mono hs_H8;have ek:at_<l.length->rd wz H8 lc (o+at_*5)= .int .u8 (l.getD at_ XZ).kind.toNat:=fun hj=>(YL hvl hj).1;have hst:=qeG g1 first (qs.map (·.1))
  refine qJ ?_;rcases first with _|_<;>rcases le_or at_ l.length with⟨hjl,hd,hd2⟩|⟨hjl,hd,hd2⟩
  all_goals
   refine awp_rseq [0,4,5,6,64] (by rfl) fun K hK=>?_;simp+decide only[qa,ev,qI,qG,putD,VM,VO,VN,Ka,true_and,↓qg,qc,↓Xe,agP,Qw,qO,qK,qD,Qh,implies_true,Ef,VY,Qz,Zk,forall_const,false_implies,qaf,qam,JS,Vf,BO,qfK,qlW,↓qcr,Qv,Ze Tryz.underlying26,↓Xd,ql,qP,cond_false,qo,XD,↓Zc,XN,YT,qU Tryz.underlying26 Xb,↓Xl,qm,qbp,↓Zg,qz qie,qy,Ua,↓qcJ,Qy,Qk,Xv,ZC,↓Xa,qi,JS,hd,hjl,ek,Vq,K6];repeat (with_reducible refine And.intro ?_ ?_;· first|trivial|omega|(intro hg;simp only[Kw,JV,Ji,VP,VQ,VS,decide_eq_true_eq,decide_eq_false_iff_not,XK]at hg;omega))
   apply hK;clear hK K;refine qH (b:=_) rfl (fun hb2=>?_) (fun hb2=>?_)
   ·try exact absurd hb2 (by decide)
    all_goals
     try simp only[decide_eq_false_iff_not,Ji]at hb2
     refine qN ?_;change Awp _ _ _ _ _ _ _;refine qJ ?_;refine Qj ?_;rw[if_pos (by first|exact .inl rfl|(refine .inr ⟨hjl,?_⟩;rw[qeP hjl];exact decide_eq_false hb2))]at hst;obtain⟨O,hO⟩:∃O,O=Qm l at_ true:=⟨_,rfl⟩
     obtain⟨p,hp⟩:∃p,p=YG l at_:=⟨_,rfl⟩
     have hpe:=hp.trans (pair_04 g1);rw[<-hO]at hpe;rw[<-hp]at hst;obtain⟨o1,o2,o3⟩:=qai (l:=l) (i:=at_) (e:=true) g1;rw[<-hO]at o1 o2 o3;obtain⟨kk,hkk⟩:∃kk,kk=if O.ok=true then(O.at_:Int)else-1:=⟨_,rfl⟩
     obtain⟨wr,hwr⟩:∃wr,wr=if O.ok=true then 0 else(O.at_:Int):=⟨_,rfl⟩
     have hoc:=qlo O kk wr hkk hwr;have hso:=qcc hv O;have hSo:=qjI hv O;obtain⟨ov,hov⟩:∃ov,ov=qdh (.slice lc o l.length c) O:=⟨_,rfl⟩
     rw[<-hov]at hso hSo;have hlo:=ZU hso;refine awp_rseq [0,4,5,8,9,10] (by rfl) fun K hK=>?_;simp+decide only[ev,putD,VM,VO,Ka,true_and,↓qg,qc];refine qM (V:= .tuple [ov, .int .i64 kk, .int .i64 wr]) (by rfl) (by rfl) (by rw[hov,hkk,hwr,hO];exact qiE wz _ _ l at_ hvl (by omega) g1) ?_;simp+decide only[qa,ev,putD,VM,VO,VN,Ka,true_and,↓qg,qc,↓QV,QJ,QU,KX,J8,VX,Km,↓qd,qb,VX,Km,Jr,Nat.reduceAdd];apply hK;clear hK K;refine qJ ?_;refine awp_rseq [0,4,5,8,9,10,73] (by rfl) fun K hK=>?_;simp+decide only[qa,ev,qI,qG,putD,VM,VO,VN,Ka,true_and,↓qg,qc,↓qw,ql,qy,cond_false,qo,XD];apply hK;clear hK K;refine qH (b:=_) rfl (fun hb3=>?_) (fun hb3=>?_)
     ·try simp only[decide_eq_true_eq]at hb3
      have hok:O.ok=false:=by
       rcases hoc with⟨-,e⟩|⟨e,-⟩
       ·omega
       ·exact e
      have hwe:wr=O.at_:=by
       rcases hoc with⟨e,-⟩|⟨-,-,e⟩
       ·rw[hok]at e;cases e
       ·exact e
      rw[if_pos hok]at hpe;rw[if_pos (by rw[hpe])]at hst;refine awp_rseq [4,5] (by rfl) fun K hK=>?_;simp+decide only[ev,putD,VM,VO,Ka,true_and,↓qg,qc,↓qB,qm,qdW,Jr];refine qp (by rfl) (by rfl) zqA sz3 (by rfl) (by rfl) zqD (Js _) (by first|rfl|(simp+decide only[ev,putD,VM,VO,Ka,VV,Qr,JS,Vf,hso,hsn,XU,XA,XB,Xh])) ?_;simp only[VV];simp+decide only[qa,ev,putD,VO,VN,Ka,setAt,VW,Ki];apply hK;clear hK K;refine awp_rseq [4] (by rfl) fun K hK=>?_;simp+decide only[ev,putD,VM,VO,Ka,true_and,↓qF,qY,qh qbE Uw,QN,qf,VX,Km,Jr,Nat.reduceAdd,qC,qi,qE,allLive,JS,hbl];refine qp (by rfl) (by rfl) zqA Uw (by rfl) (by rfl) zqD (Js _) (by first|rfl|(simp+decide only[ev,VO,Ka,VV,Qr,JS,XU,XA,XB,Xh])) ?_;simp only[VV];simp+decide only[qa,ev,putD,VO,VN,Ka,setAt,VW,Ki,Jr,Nat.reduceAdd];apply hK;clear hK K;refine qL ?_;try simp only[Qg,Qn]
      refine QF (?_) ?_
      ·simp+decide only[QD,qj,VO,if_true,and_true,qj,qh qbE Uw,Qa,qf,VX,Km,Jr,Nat.reduceAdd,qC,qi,qE,allLive,JS,qf,VX,Km,Jr,Nat.reduceAdd,qC,qi,qE,allLive,JS,hbl]
      simp+decide only[VO,if_true,Zh,qj,qh qbE Uw,Qa,qf,VX,Km,Jr,Nat.reduceAdd,qC,qi,qE,allLive,JS,qf,VX,Km,Jr,Nat.reduceAdd,qC,qi,qE,allLive,JS,hbl];have hSe:Yu l t (qbl l (i+2) true [])=qdj p.at_:=by rw[hPe,hst];rfl
      rw[hSe];exact⟨QG h pb,WW (WW hp8 p3 _) p2 _,qaP p1 g3 g4 rfl (by rw[hwe,hpe];rfl)⟩
     ·try simp only[decide_eq_false_iff_not]at hb3
      obtain⟨hok,hke⟩:O.ok=true/\kk=O.at_:=by
       rcases hoc with e|⟨-,e,-⟩
       ·exact e
       ·omega
      rw[if_neg (by rw[hok];decide)]at hpe;obtain⟨o3,o4,o5,-⟩:=o3 hok;have hol:IsL wz h 5 ov ((qal l O.lo O.hi).map QM):=by rw[hov];exact qcd hv o4 o5 hok
      have nov:=XY (hol.mono hs_H8);refine qN ?_;change Awp _ _ _ _ _ _ _;refine qJ ?_;refine awp_rseq [0,4,5,8,9,79] (by rfl) fun K hK=>?_;simp+decide only[qa,ev,qI,qG,putD,VM,VO,VN,Ka,true_and,↓qg,qc,↓Xc,Qv,↓qw,ql,qy,cond_false,qo,XT,nov];apply hK;clear hK K;refine qH (b:=_) rfl (fun hb4=>?_) (fun hb4=>?_)
      ·try simp only[decide_eq_true_eq]at hb4
       rw[if_pos (by omega)]at hpe;rw[if_pos (by rw[hpe])]at hst;refine awp_rseq [4,5] (by rfl) fun K hK=>?_;simp+decide only[ev,qI,qG,putD,VM,VO,Ka,true_and,↓qg,qc,↓qw,ql,qy,cond_false,qo,UA,↓qB,qm,qdW,Jr];try simp(disch:=omega)only[wrap_i64]
       refine qp (by rfl) (by rfl) zqA sz3 (by rfl) (by rfl) zqD (Js _) (by first|rfl|(simp+decide only[ev,putD,VM,VO,Ka,VV,Qr,JS,Vf,hso,hsn,XU,XA,XB,Xh])) ?_;simp only[VV];simp+decide only[qa,ev,putD,VO,VN,Ka,setAt,VW,Ki];apply hK;clear hK K;refine awp_rseq [4] (by rfl) fun K hK=>?_;simp+decide only[ev,putD,VM,VO,Ka,true_and,↓qF,qY,qh qbE Uw,QN,qf,VX,Km,Jr,Nat.reduceAdd,qC,qi,qE,allLive,JS,hbl];refine qp (by rfl) (by rfl) zqA Uw (by rfl) (by rfl) zqD (Js _) (by first|rfl|(simp+decide only[ev,VO,Ka,VV,Qr,JS,XU,XA,XB,Xh])) ?_;simp only[VV];simp+decide only[qa,ev,putD,VO,VN,Ka,setAt,VW,Ki,Jr,Nat.reduceAdd];apply hK;clear hK K;refine qL ?_;try simp only[Qg,Qn]
       refine QF (?_) ?_
       ·simp+decide only[QD,qj,VO,if_true,and_true,qj,qh qbE Uw,Qa,qf,VX,Km,Jr,Nat.reduceAdd,qC,qi,qE,allLive,JS,qf,VX,Km,Jr,Nat.reduceAdd,qC,qi,qE,allLive,JS,hbl]
       simp+decide only[VO,if_true,Zh,qj,qh qbE Uw,Qa,qf,VX,Km,Jr,Nat.reduceAdd,qC,qi,qE,allLive,JS,qf,VX,Km,Jr,Nat.reduceAdd,qC,qi,qE,allLive,JS,hbl];have hSe:Yu l t (qbl l (i+2) true [])=qdj p.at_:=by rw[hPe,hst];rfl
       rw[hSe];exact⟨QG h pb,WW (WW hp8 p3 _) p2 _,qaP p1 g3 g4 rfl (by rw[hpe];show kk-1=((O.at_-1:Nat):Int);omega)⟩
      ·try simp only[decide_eq_false_iff_not]at hb4
       rw[if_neg (by omega)]at hpe;obtain⟨W2,hW2⟩:∃W2,W2=Zt l O.at_ BY:=⟨_,rfl⟩
       rw[<-hW2]at hpe;refine qN ?_;change Awp _ _ _ _ _ _ _;refine qJ ?_;refine awp_rseq [0,4,5,8,9,87] (by rfl) fun K hK=>?_;simp+decide only[ev,putD,VM,VO,Ka,true_and,↓qg,qc];refine qM (V:= .bool W2) (by rfl) (by rfl) (by rw[hW2,hke];exact qkf wz _ _ l O.at_ BY hvl (by omega)) ?_;simp+decide only[qa,ev,putD,VM,VO,VN,Ka,true_and,↓Yj,XW,Yc];apply hK;clear hK K;refine qH (b:=_) rfl (fun hb5=>?_) (fun hb5=>?_)
       ·try simp only[Ji]at hb5
        rw[if_pos (by simpa using hb5)]at hpe;rw[if_pos (by rw[hpe])]at hst;refine awp_rseq [4,5] (by rfl) fun K hK=>?_;simp+decide only[ev,putD,VM,VO,Ka,true_and,↓qg,qc,↓qB,qm,qdW,Jr];refine qp (by rfl) (by rfl) zqA sz3 (by rfl) (by rfl) zqD (Js _) (by first|rfl|(simp+decide only[ev,putD,VM,VO,Ka,VV,Qr,JS,Vf,hso,hsn,XU,XA,XB,Xh])) ?_;simp only[VV];simp+decide only[qa,ev,putD,VO,VN,Ka,setAt,VW,Ki];apply hK;clear hK K;refine awp_rseq [4] (by rfl) fun K hK=>?_;simp+decide only[ev,putD,VM,VO,Ka,true_and,↓qF,qY,qh qbE Uw,QN,qf,VX,Km,Jr,Nat.reduceAdd,qC,qi,qE,allLive,JS,hbl];refine qp (by rfl) (by rfl) zqA Uw (by rfl) (by rfl) zqD (Js _) (by first|rfl|(simp+decide only[ev,VO,Ka,VV,Qr,JS,XU,XA,XB,Xh])) ?_;simp only[VV];simp+decide only[qa,ev,putD,VO,VN,Ka,setAt,VW,Ki,Jr,Nat.reduceAdd];apply hK;clear hK K;refine qL ?_;try simp only[Qg,Qn]
        refine QF (?_) ?_
        ·simp+decide only[QD,qj,VO,if_true,and_true,qj,qh qbE Uw,Qa,qf,VX,Km,Jr,Nat.reduceAdd,qC,qi,qE,allLive,JS,qf,VX,Km,Jr,Nat.reduceAdd,qC,qi,qE,allLive,JS,hbl]
        simp+decide only[VO,if_true,Zh,qj,qh qbE Uw,Qa,qf,VX,Km,Jr,Nat.reduceAdd,qC,qi,qE,allLive,JS,qf,VX,Km,Jr,Nat.reduceAdd,qC,qi,qE,allLive,JS,hbl];have hSe:Yu l t (qbl l (i+2) true [])=qdj p.at_:=by rw[hPe,hst];rfl
        rw[hSe];exact⟨QG h pb,WW (WW hp8 p3 _) p2 _,qaP p1 g3 g4 rfl (by rw[hpe];exact hke)⟩
       ·try simp only[VS]at hb5
        have hW3:W2=true:=by simpa using hb5
        rw[if_neg (by rw[hW3];decide)]at hpe;have hlt3:O.at_<l.length:=qbF (hW2.symm.trans hW3);obtain⟨O2,hO2⟩:∃O2,O2=Qm l (O.at_+1) true:=⟨_,rfl⟩
        rw[<-hO2]at hpe;obtain⟨u1,u2,u3⟩:=qai (l:=l) (i:=O.at_+1) (e:=true) (by omega);rw[<-hO2]at u1 u2 u3;obtain⟨k2,hk2⟩:∃kk,kk=if O2.ok=true then(O2.at_:Int)else-1:=⟨_,rfl⟩
        obtain⟨wr2,hwr2⟩:∃wr,wr=if O2.ok=true then 0 else(O2.at_:Int):=⟨_,rfl⟩
        have hoc2:=qlo O2 k2 wr2 hk2 hwr2;have hsn:=qcc hv O2;have hSn:=qjI hv O2;obtain⟨nw,hnw⟩:∃nw,nw=qdh (.slice lc o l.length c) O2:=⟨_,rfl⟩
        rw[<-hnw]at hsn hSn;have hln:=ZU hsn;refine qN ?_;change Awp _ _ _ _ _ _ _;refine awp_rseq [0,4,5,8,9,10,11] (by rfl) fun K hK=>?_;simp+decide only[ev,qI,qG,putD,VM,VO,Ka,true_and,↓qg,qc,↓qw,ql,qy,cond_false,qo,QS];try simp(disch:=omega)only[wrap_i64]
        refine qM (V:= .tuple [nw, .int .i64 k2, .int .i64 wr2]) (by rfl) (by rfl) (by rw[hnw,hk2,hwr2,hO2,show kk+1=((O.at_+1:Nat):Int) by omega];exact qiE wz _ _ l (O.at_+1) hvl (by omega) (by omega)) ?_;simp+decide only[qa,ev,putD,VM,VO,VN,Ka,true_and,↓qg,qc,↓QV,QJ,QU,KX,J8,VX,Km,↓qd,qb,VX,Km,Jr,Nat.reduceAdd];apply hK;clear hK K;refine qJ ?_;refine awp_rseq [0,4,5,8,9,10,11,100] (by rfl) fun K hK=>?_;simp+decide only[qa,ev,qI,qG,putD,VM,VO,VN,Ka,true_and,↓qg,qc,↓qw,ql,qy,cond_false,qo,XD];apply hK;clear hK K;refine qH (b:=_) rfl (fun hb6=>?_) (fun hb6=>?_)
        ·try simp only[decide_eq_true_eq]at hb6
         have hok2:O2.ok=false:=by
          rcases hoc2 with⟨-,e⟩|⟨e,-⟩
          ·omega
          ·exact e
         have hwe:wr2=O2.at_:=by
          rcases hoc2 with⟨e,-⟩|⟨-,-,e⟩
          ·rw[hok2]at e;cases e
          ·exact e
         rw[if_pos (by rw[hpe];exact hok2)]at hst;refine awp_rseq [4,5] (by rfl) fun K hK=>?_;simp+decide only[ev,putD,VM,VO,Ka,true_and,↓qg,qc,↓qB,qm,qdW,Jr];refine qp (by rfl) (by rfl) zqA sz3 (by rfl) (by rfl) zqD (Js _) (by first|rfl|(simp+decide only[ev,putD,VM,VO,Ka,VV,Qr,JS,Vf,hso,hsn,XU,XA,XB,Xh])) ?_;simp only[VV];simp+decide only[qa,ev,putD,VO,VN,Ka,setAt,VW,Ki];apply hK;clear hK K;refine awp_rseq [4] (by rfl) fun K hK=>?_;simp+decide only[ev,putD,VM,VO,Ka,true_and,↓qF,qY,qh qbE Uw,QN,qf,VX,Km,Jr,Nat.reduceAdd,qC,qi,qE,allLive,JS,hbl];refine qp (by rfl) (by rfl) zqA Uw (by rfl) (by rfl) zqD (Js _) (by first|rfl|(simp+decide only[ev,VO,Ka,VV,Qr,JS,XU,XA,XB,Xh])) ?_;simp only[VV];simp+decide only[qa,ev,putD,VO,VN,Ka,setAt,VW,Ki,Jr,Nat.reduceAdd];apply hK;clear hK K;refine qL ?_;try simp only[Qg,Qn]
         refine QF (?_) ?_
         ·simp+decide only[QD,qj,VO,if_true,and_true,qj,qh qbE Uw,Qa,qf,VX,Km,Jr,Nat.reduceAdd,qC,qi,qE,allLive,JS,qf,VX,Km,Jr,Nat.reduceAdd,qC,qi,qE,allLive,JS,hbl]
         simp+decide only[VO,if_true,Zh,qj,qh qbE Uw,Qa,qf,VX,Km,Jr,Nat.reduceAdd,qC,qi,qE,allLive,JS,qf,VX,Km,Jr,Nat.reduceAdd,qC,qi,qE,allLive,JS,hbl];have hSe:Yu l t (qbl l (i+2) true [])=qdj p.at_:=by rw[hPe,hst];rfl
         rw[hSe];exact⟨QG h pb,WW (WW hp8 p3 _) p2 _,qaP p1 g3 g4 rfl (by rw[hpe];exact hwe)⟩
        ·try simp only[decide_eq_false_iff_not]at hb6
         obtain⟨hok2,hke2⟩:O2.ok=true/\k2=O2.at_:=by
          rcases hoc2 with e|⟨-,e,-⟩
          ·exact e
          ·omega
         rw[if_neg (by rw[hpe];simp[hok2])]at hst;obtain⟨u3,u4,u5,-⟩:=u3 hok2;have hnl:IsL wz h 5 nw ((qal l O2.lo O2.hi).map QM):=by rw[hnw];exact qcd hv u4 u5 hok2
         have hpat:p.at_=O2.at_:=by rw[hpe]
         have hprep:p.rep=⟨qal l O.lo O.hi,qal l O2.lo O2.hi⟩:=by rw[hpe]
         refine qN ?_;change Awp _ _ _ _ _ _ _;refine awp_rseq [0,4,5,9] (by rfl) fun K hK=>?_;simp+decide only[ev,qI,qG,putD,VM,VO,Ka,true_and,↓qB,qm,fa70_1,↓qF,qY,qz ag43,↓qg,qc,↓Qo,↓qZ,qlS,evP,Kc,Vj,QC wz eb_1,VX,Km,Jr,hbl,hSo,hSn];refine QA (cs:=[ov,nw]) (by kernel_rfl) fun k27q5 hk27q5=>?_;have hn_27q5:H8 k27q5=none:=by first|assumption|(simp only[V7]at hk27q5;simp only[hk27q5])
         have hf_27q5:h k27q5=none:=Bg hs_H8 hn_27q5;have ne_27q5_0:k27q5≠k0:=Bh hn_27q5 eb_0;have ne_27q5_1:k27q5≠k1:=Bh hn_27q5 eb_1;refine XH (es:=2) (zs:=qs.map Uz) (xs:=[[ov,nw]]) (hZ:=qgN h k0 k1 t pb) (b:=pb) (by rfl) (by rfl) Tryz.underlying43 Tryz.underlying43 (fun k e=>by cases e) qeu by46 ze46 (by rfl) (by decide) (by rfl) g2 g3 qga (by rw[<-hH8];exact Vg (by assumption)) (by rfl) (IsL.own (Vd _ _ _) (by simp) (by rfl) (by simp[AM.allLive,hlo,hln]) (.exact 1) (KJ _)) (by simp[Qr,hso,hsn]) (by simp;omega) (by simp;omega) fun pb2 h27 v1 v2 v3=>?_;have eb27:h27 k1=some ⟨[.int .u8 t.kind.toNat, .str t.text, .int .i64 t.line, .int .i64 t.col, .bool t.left,QH 2 pb, .int .i64 0, .int .i64 (-1)],0⟩:=v3 _ _ (ZE v1 (Vd _ _ _));simp+decide only[ev,putD,VM,VO,Ka,true_and,↓qB,qm,fa70_1,Jr];refine qp (v:=QH 2 pb2) (k:=k1) (o:=5) (by rfl) (by rfl) eb27 sz43 (QW _ _) (by rw[Ue];rfl) (by show 5+1<=8;decide) (Js _) (by rw[Ue];simp[Qr,XU]) ?_;simp only[setAt,Ue,VW,Ki];simp+decide only[qa,putD,VN,Ka];apply hK;clear hK K;refine XE [0,4,5,6] (by rfl) ?_;simp+decide only[qa,ev,putD,VM,VO,VN,Ka,true_and,↓qg,qc,↓qd,qb];change Awp _ _ _ _ _ _ _;refine XE [0,4,5,6,7] (by rfl) ?_;simp+decide only[qa,ev,qI,qG,putD,VM,VN,Ka,true_and,↓qd,qb];try simp only[Qf]
         refine⟨⟨false,O2.at_,pb2,qs++[(p.rep,ov,nw)]⟩,by rw[hke2];rfl,?_,⟨⟨u2,?_,by rw[v2,Ba];rfl,fun q hq=>?_,by(simp only[List.length_append,KX,J8];omega)⟩,?_⟩,by simp only;omega⟩
         ·have:=YW v1 (show qgN h k0 k1 t pb k1=some _ from Vd _ _ _) ⟨[.int .u8 t.kind.toNat, .str t.text, .int .i64 t.line, .int .i64 t.col, .bool t.left,QH 2 pb2, .int .i64 0, .int .i64 (-1)],0⟩
          unfold qgN at this|-
          rw[Vh]at this;rw[<-this];exact V9 v3 _ _
         ·have:=ZY v1 (show qgN h k0 k1 t pb k1=some _ from Vd _ _ _) ⟨[.int .u8 t.kind.toNat, .str t.text, .int .i64 t.line, .int .i64 t.col, .bool t.left,QH 2 pb2, .int .i64 0, .int .i64 (-1)],0⟩
          unfold qgN at this|-
          rw[Vh]at this;exact this
         ·rcases JI.1 hq with z|z
          ·exact g4 q z
          ·rw[BD.1 z,hprep];exact⟨hol,hnl⟩
         ·simp only
          rw[hPe,hst,hpat,Ba];rfl
   ·try exact absurd hb2 (by decide)
    all_goals
     try simp only[decide_eq_true_eq,VS]at hb2
     refine Xm ?_;change Awp _ _ _ _ _ _ _;first
     |(rw[if_neg (by
        rintro(q|⟨q1,q2⟩)
        ·cases q
        ·first
         |exact hjl q1
         |(rw[qeP hjl,decide_eq_true (by simpa using hb2)]at q2;cases q2))]at hst
       rw[hPe,hst,hH8];refine Va [0,4,5,6] ?_;exact qfz wz h lc o c l t hv hl k0 k1 h0 h1 hne ⟨false,at_,pb,qs⟩ ⟨g1,g2,g3,g4,g5⟩)
     |(rw[hb1,if_neg (by decide),hH7]
       refine Va [0,4,5,6] ?_;exact qfz wz h lc o c l t hv hl k0 k1 h0 h1 hne ⟨false,i+1,none,[]⟩ ⟨hi,trivial,rfl,(fun q hq=>by cases hq),Js _⟩)
 ·skip
  refine qN ?_;change Awp _ _ _ _ _ _ _;first
  |(rw[if_neg (by
     rintro(q|⟨q1,q2⟩)
     ·cases q
     ·first
      |exact hjl q1
      |(rw[qeP hjl,decide_eq_true (by simpa using hb2)]at q2;cases q2))]at hst
    rw[hPe,hst,hH8];refine Va [0,4,5,6] ?_;exact qfz wz h lc o c l t hv hl k0 k1 h0 h1 hne ⟨false,at_,pb,qs⟩ ⟨g1,g2,g3,g4,g5⟩)
  |(rw[hb1,if_neg (by decide),hH7]
    refine Va [0,4,5,6] ?_;exact qfz wz h lc o c l t hv hl k0 k1 h0 h1 hne ⟨false,i+1,none,[]⟩ ⟨hi,trivial,rfl,(fun q hq=>by cases hq),Js _⟩)
set_option maxHeartbeats 4000000 in
theorem c_parseIn(wz:World)(h:AHeap)(v:AVal)(l:List TokC)(a:Nat)(hv:IsL wz h 5 v (l.map QM))(hl:l.length<=1000000)(hi:a+1<l.length):
 ACall Tryz.prog wz 29 [v, .int .i64 a] h (fun r h'=>qgt wz h (QL l (a+1)) r h'):=by
 have hlv:=hv.live;have nv:=XY hv;obtain⟨lc,o,c,rfl⟩:=Wd hv (by omega);obtain⟨i,hia⟩:∃i,i=a+1:=⟨_,rfl⟩
 rw[<-hia]at hi|-
 have hcast:(a:Int)+1=(i:Int):=by omega
 have hdl:decide ((l.length:Int)<=(i:Int))=false:=decide_eq_false (by omega);obtain⟨k1,hk1⟩:∃k,k=XJ l i [1,3]:=⟨_,rfl⟩
 have hk2:=kind_two hi;rw[<-hk1]at hk2;obtain⟨W,hW⟩:∃W,W=Zt l (i+1) ZN:=⟨_,rfl⟩
 obtain⟨S,hS⟩:∃S,S=QL l i:=⟨_,rfl⟩
 rw[<-hS];unfold QL at hS;rw[<-hk1,<-hW]at hS;obtain⟨t,ht⟩:∃t,t=l.getD i XZ:=⟨_,rfl⟩
 rw[Yy l noT XZ hi,<-ht]at hS;obtain⟨e0,e1,e2,e3,e4⟩:=YL hv hi;have f:=fun k0 k1 (c0 c1:Blk) (h0:h k0=none) (h1:h k1=none)=>YL (hv.mono (WW (Vg h0) h1 c1:Sub h ((h.set k0 c0).set k1 c1))) hi;rw[<-ht]at f;rw[<-ht]at hk2;refine qW (n:=132) (rs:=[.cell 4 70]) Tryz.func29 rfl rfl rfl rfl (VL rfl) ?_;simp only[Qe];refine awp_rseq [0,1,4] (by rfl) fun K hK=>?_;refine Qi ze70 (cs:=[.int .u8 0, .str [], .int .i64 0, .int .i64 0, .bool false, .nilSlice, .int .i64 0, .int .i64 0]) (by rfl) fun k0q0 hk0q0=>?_;try have hf_0q0:h k0q0=none:=by first|assumption|(simp only[V7]at hk0q0;simp only[hk0q0])
 simp+decide only[qa,putD,VM,VN,Ka,Jr];apply hK;clear hK K;refine awp_rseq [0,1,4,5] (by rfl) fun K hK=>?_;simp+decide only[ev,qI,qG,putD,VM,VO,if_false,true_and,↓Qo,↓qZ,qsd,evP,Kc,Vj];refine Qi ze70 (cs:=[.int .u8 0, .str [], .int .i64 0, .int .i64 0, .bool false, .nilSlice, .int .i64 0, .int .i64 0]) (by rfl) fun k1q1 hk1q1=>?_;have ne_1q1_0q0:k1q1≠k0q0:=by simp only[V7]at hk1q1;simp only[hk1q1,ne_eq,not_false_eq_true]
 try have hf_1q1:h k1q1=none:=by first|assumption|(simp only[V7]at hk1q1;simp only[hk1q1])
 refine qp (by rfl) (by rfl) zqA Uw (by rfl) (by rfl) zqD (Js _) (by rfl) ?_;simp only[Vh,VV];simp+decide only[qa,ev,putD,VM,VO,VN,Ka,setAt,VW,Ki,Jr,Nat.reduceAdd];apply hK;clear hK K;refine awp_rseq [0,4,5,6] (by rfl) fun K hK=>?_;simp+decide only[qa,ev,qI,qG,putD,VM,VO,VN,Ka,true_and,↓qg,qc,↓qw,ql,qy,cond_false,qo,QS,↓qd,qb,hcast];try simp(disch:=omega)only[wrap_i64]
 apply hK;clear hK K;refine qJ ?_;have g0:=fun c0 c1=>(f k0q0 k1q1 c0 c1 hf_0q0 hf_1q1).1;refine awp_rseq [0,4,5,6,34] (by rfl) fun K hK=>?_;simp+decide only[qa,ev,qI,qG,putD,VM,VO,VN,Ka,true_and,↓qg,qc,↓Xc,Qv,Ze Tryz.underlying26,↓qw,ql,qP,cond_false,qo,Ub,↓Xe,agP,Qw,qO,qK,qD,Qh,implies_true,Ef,Qz,forall_const,BO,↓Zc,XN,YT,qne,qnd,qU Tryz.underlying26 Xb,↓Xl,qm,qbp,Zn,Zo,↓Zg,qeg,qz qie,↓Xd,qy,Zi,Zj,Ua,↓qcJ,Qy,Qk,Xk,Xv,ZC,↓Xa,qi,hdl,g0,Vq,K6];repeat (with_reducible refine And.intro ?_ ?_;· first|trivial|omega|(intro hg;simp only[Kw,JV,Ji,VP,VQ,VS,decide_eq_true_eq,decide_eq_false_iff_not,XK]at hg;omega))
 apply hK;clear hK K;refine qH (b:=_) rfl (fun hb1=>?_) (fun hb1=>?_)
 ·try simp only[decide_eq_false_iff_not,Ji,Kw]at hb1
  refine awp_rseq [4,5] (by rfl) fun K hK=>?_;simp+decide only[ev,putD,VM,VO,Ka,true_and,↓qg,qc,↓qB,qm,qdW,Jr];refine qp (by rfl) (by rfl) zqA sz3 (by rfl) (by rfl) zqD (Js _) (by rfl) ?_;simp only[Vh,VV];simp+decide only[qa,ev,putD,VO,VN,Ka,setAt,VW,Ki];apply hK;clear hK K;refine awp_rseq [4] (by rfl) fun K hK=>?_;simp+decide only[ev,putD,VM,VO,Ka,true_and,↓qF,qY,qh qbE Uw,QN,qf,VX,Km,Jr,Nat.reduceAdd,qC,qi,qE,QK,allLive,JS];refine qp (by rfl) (by rfl) zqA Uw (by rfl) (by rfl) zqD (Js _) (by rfl) ?_;simp only[VV];simp+decide only[qa,ev,putD,VO,VN,Ka,setAt,VW,Ki,Jr,Nat.reduceAdd];apply hK;clear hK K;refine qL ?_;try simp only[Qg]
  refine QF (?_) ?_
  ·simp+decide only[QD,qj,VO,if_true,and_true,qj,qh qbE Uw,Qa,qf,VX,Km,Jr,Nat.reduceAdd,qC,qi,qE,QK,allLive,JS,qf,VX,Km,Jr,Nat.reduceAdd,qC,qi,qE,QK,allLive,JS]
  simp+decide only[VO,if_true,Zh,qj,qh qbE Uw,Qa,qf,VX,Km,Jr,Nat.reduceAdd,qC,qi,qE,QK,allLive,JS,qf,VX,Km,Jr,Nat.reduceAdd,qC,qi,qE,QK,allLive,JS];rw[if_pos (by rw[hk2];rcases hb1 with⟨q1,q2⟩;simp[q1,q2])]at hS;rw[hS];exact⟨QG h none,zqB,qaP (t:=noT) (pb:=none) (en:=0) (qs:=[]) trivial rfl (fun q hq=>by cases hq) rfl rfl⟩
 ·try simp only[decide_eq_true_eq,VS,VP]at hb1
  rw[if_neg (by rw[hk2];rcases hb1 with q|q<;>simp[q])]at hS;refine qN ?_;change Awp _ _ _ _ _ _ _;have g0:=fun c0 c1=>(f k0q0 k1q1 c0 c1 hf_0q0 hf_1q1).1;have g1:=fun c0 c1=>(f k0q0 k1q1 c0 c1 hf_0q0 hf_1q1).2.1;have g2:∀c0 c1,rd wz ((h.set k0q0 c0).set k1q1 c1) lc (o+i*5+1+1)= .int .i64 t.line:=fun c0 c1=>(f k0q0 k1q1 c0 c1 hf_0q0 hf_1q1).2.2.1;have g3:∀c0 c1,rd wz ((h.set k0q0 c0).set k1q1 c1) lc (o+i*5+1+1+1)= .int .i64 t.col:=fun c0 c1=>(f k0q0 k1q1 c0 c1 hf_0q0 hf_1q1).2.2.2.1;have g4:∀c0 c1,rd wz ((h.set k0q0 c0).set k1q1 c1) lc (o+i*5+1+1+1+1)= .bool t.left:=fun c0 c1=>(f k0q0 k1q1 c0 c1 hf_0q0 hf_1q1).2.2.2.2;refine awp_rseq [0,4,5,6] (by rfl) fun K hK=>?_;simp+decide only[ev,putD,VM,VO,Ka,true_and,↓qg,qc,↓Qp,qY,qU Tryz.underlying26 Xb,↓qF,qh Zv Xb,↓qB,qm,fa70_0,qf,qC,qi,qE,allLive,JS,g0,g1,g2,g3,g4,Vq,K6];repeat (with_reducible refine And.intro ?_ ?_;· first|trivial|omega|(intro hg;simp only[Kw,JV,Ji,VP,VQ,VS,decide_eq_true_eq,decide_eq_false_iff_not,XK]at hg;omega))
  refine qp (by rfl) (by rfl) zqA Xb (by rfl) (by rfl) zqD (Js _) (by rfl) ?_;simp only[Vh,VV];simp+decide only[qa,ev,putD,VO,VN,Ka,setAt,VW,Ki,Jr,Nat.reduceAdd];apply hK;clear hK K;refine awp_rseq [0,4,5,6] (by rfl) fun K hK=>?_;simp+decide only[qa,ev,qI,qG,putD,VM,VO,VN,Ka,true_and,↓qg,qc,↓qw,ql,qy,cond_false,qo,QS,↓qd,qb];try simp(disch:=omega)only[wrap_i64]
  apply hK;clear hK K;rw[hS,hW];refine Va [0,4,5,6] ?_;exact l_Parse8 wz h lc o c l t hv hl k0q0 k1q1 hf_0q0 hf_1q1 ne_1q1_0q0 i hi
theorem c_parse04(wz:World)(h:AHeap)(v:AVal)(l:List TokC)(a:Nat)(hv:IsL wz h 5 v (l.map QM))(hl:l.length<=1000000)(ha:a<l.length):
 ACall Tryz.prog wz 29 [v, .int .i64 a] h (fun r h'=>qgt wz h (QL l (a+1)) r h'):=by
 by_cases hi:a+1<l.length
 ·exact c_parseIn wz h v l a hv hl hi
 ·exact qpW wz h v l a hv hl ha hi
end Go.Proofs.YtlhhaagmakhilaaGreatDoor
namespace Go.Proofs.YtlhhaagmakhilaaGreatDoor
open Go.AM
open Go.Proofs
open Go.Col (Str FaultC okF sp)
open Go.Tok
open Go.Cop
open Go.RowKit (Below)
set_option maxRecDepth 100000
theorem bufSetNew{G:AHeap}{es k:Nat}{nb:Option Buf}(hn:QG G nb k=none)(c:Blk):(QG G nb).set k c=QG (G.set k c) nb/\(bufOk G es nb->bufOk (G.set k c) es nb):=by
 cases nb with
 |none=>exact⟨rfl,fun _=>trivial⟩
 |some b=>
  have hne:k≠b.blk:=fun e=>by
   subst e;rw[show QG G (some b)=G.set b.blk ⟨b.cells,0⟩from rfl,Vd]at hn;cases hn
  exact⟨AHeap.set_comm _ _ _ hne,fun h=>⟨(Vb _ _ hne.symm).trans h.1,h.2⟩⟩
theorem copy_here{l:List TokC}{i:Nat}(h:Zt l i COPY=true):Xy l i=i:=by
 rw[qhZ (qbF h),if_pos h]
theorem qsj{l:List TokC}{i:Nat}(hi:i<l.length)(h:Zt l i COPY=false)(ns:List Str):qih l i ns=qih l (i+1) ns:=by
 have h1:=qbR (l:=l) (i:=i) (by omega) ns;have h2:=qbR (l:=l) (i:=i+1) (by omega) ns;have hc:Xy l i=Xy l (i+1):=by rw[qhZ hi,if_neg (by rw[h];exact Bool.false_ne_true)]
 rw[h1,h2,hc]
structure UrG where
 i:Nat
 nb:Option Buf
 ns:List Str
structure UrOk(G:AHeap)(l:List TokC)(s:UrG):Prop where
 i:s.i<=l.length
 ok:bufOk G 1 s.nb
 eq:Yn s.nb=(s.ns.map qaj).flatten
 us:ZJ l=qih l s.i s.ns
 few:s.ns.length<=s.i
theorem qsy{wz:World}{S:Stm}{t:TokC}{en wr:Int}{qs:List RepQ}(h1:S.ok=true->t=S.name/\en=S.at_/\wr= -1/\S.reps=qs.map (·.1))(h2:S.ok=false->wr=S.at_):(S.ok=true/\t=S.name/\en=S.at_/\wr= -1/\S.reps=qs.map (·.1))\/(S.ok=false/\wr=S.at_):=by
 cases h:S.ok with
 |true=>exact .inl ⟨rfl,h1 h⟩
 |false=>exact .inr ⟨rfl,h2 h⟩
set_option maxHeartbeats 2000000 in
theorem c_uses04(wz:World)(h:AHeap)(v:AVal)(l:List TokC)(hv:IsL wz h 5 v (l.map QM))(hl:l.length<=100000):
 ACall Tryz.prog wz 22 [v] h (fun r h'=>∃nb,r= .tuple [QH 1 nb,Qu (ZJ l).2]/\bufOk h 1 nb/\Yn nb=((ZJ l).1.map qaj).flatten/\h'=QG h nb):=by
 have hlv:=hv.live;have nv:=XY hv;have hbl:=QW 1 none;have hb2:=QW 2 none;refine qW (n:=37) (rs:=[.tmp 2, .cell 3 35]) Tryz.func22 rfl rfl rfl rfl (VL rfl) ?_;simp only[Qe];refine awp_rseq [0,3] (by rfl) fun K hK=>?_;simp+decide only[ev,qI,qG,putD,VM,if_false,true_and,↓qd,qb];refine Qi qap (cs:=[.int .i64 0, .int .i64 0, .int .i64 0]) (by rfl) fun k0q1 hk0q1=>?_;try have hf_0q1:h k0q1=none:=by first|assumption|(simp only[V7]at hk0q1;simp only[hk0q1])
 simp+decide only[qa,putD,VM,VN,Ka];apply hK;clear hK K;refine awp_rseq [0,3,4] (by rfl) fun K hK=>?_;simp+decide only[qa,ev,qI,qG,putD,VM,VN,Ka,true_and,↓qd,qb];apply hK;clear hK K;refine qJ ?_;refine awp_rseq [0,3,4,5] (by rfl) fun K hK=>?_;simp+decide only[qa,ev,qI,qG,putD,VM,VN,Ka,true_and,↓qd,qb];apply hK;clear hK K;refine Qj ?_;refine Xj [0,3,4,5] (fun s:UrG=>[(0,v),(3, .ptr (.own k0q1) 0),(4,QH 1 s.nb),(5, .int .i64 s.i)]) (fun s:UrG=>QG (h.set k0q1 ⟨[.int .i64 0, .int .i64 0, .int .i64 0],0⟩) s.nb) (fun s:UrG=>UrOk (h.set k0q1 ⟨[.int .i64 0, .int .i64 0, .int .i64 0],0⟩) l s) (fun s:UrG=>l.length-s.i) ⟨0,none,[]⟩ (by rfl) (Vl _) ⟨Js _,trivial,rfl,rfl,KJ _⟩ ?_;rintro⟨i,nb,ns⟩ ⟨g1,g2,g3,g4,g5⟩;simp only at g1 g2 g3 g4 g5|-
 obtain⟨G,hG⟩:∃G,G=h.set k0q1 ⟨[.int .i64 0, .int .i64 0, .int .i64 0],0⟩:=⟨_,rfl⟩
 have hsG:Sub h G:=by rw[hG];exact Vg hf_0q1
 have hG0:G k0q1=some ⟨[.int .i64 0, .int .i64 0, .int .i64 0],0⟩:=by rw[hG];exact Vd _ _ _
 rw[<-hG]at g2|-
 obtain⟨H1,hH1⟩:∃H1,H1=QG G nb:=⟨_,rfl⟩
 have hGH:Sub G H1:=by rw[hH1];exact BH g2
 have hs_H1:Sub h H1:=hsG.trans hGH;have eb_0q1:H1 k0q1=some ⟨[.int .i64 0, .int .i64 0, .int .i64 0],0⟩:=hGH _ _ hG0;rw[<-hH1];have hbl:=QW 1 nb;have hvl:=hv.mono hs_H1;refine qJ ?_;refine awp_rseq [0,3,4,5,10] (by rfl) fun K hK=>?_;simp+decide only[qa,ev,putD,VM,VO,VN,Ka,true_and,↓qg,qc,↓Xc,Qv,↓qw,ql,qP,cond_false,qo,XD,nv];apply hK;clear hK K;refine qH (b:=_) rfl (fun hb1=>?_) (fun hb1=>?_)
 ·try simp only[decide_eq_true_eq]at hb1
  have hi:i<l.length:=by omega
  obtain⟨W,hW⟩:∃W,W=Zt l i COPY:=⟨_,rfl⟩
  refine qN ?_;change Awp _ _ _ _ _ _ _;refine Qj ?_;refine qJ ?_;refine awp_rseq [0,3,4,5,14] (by rfl) fun K hK=>?_;simp+decide only[ev,putD,VM,VO,Ka,true_and,↓qg,qc];refine qM (V:= .bool W) (by rfl) (by rfl) (by rw[hW];exact qkf wz _ _ l i COPY hvl (by omega)) ?_;simp+decide only[qa,ev,putD,VM,VO,VN,Ka,true_and,↓Yj,XW,Yc];apply hK;clear hK K;refine qH (b:=_) rfl (fun hb2=>?_) (fun hb2=>?_)
  ·try simp only[Ji]at hb2
   have hskip:=qsj hi (by rw[<-hW];simpa using hb2) ns;refine awp_rseq [0,3,4,5] (by rfl) fun K hK=>?_;simp+decide only[qa,ev,qI,qG,putD,VM,VO,VN,Ka,true_and,↓qg,qc,↓qw,ql,qy,cond_false,qo,QS,↓qd,qb];try simp(disch:=omega)only[wrap_i64]
   apply hK;clear hK K;refine Xm ?_;first
   |exact⟨⟨i+1,nb,ns⟩,rfl,by rw[hH1];exact Vl _,⟨hi,g2,g3,by rw[g4,hskip],by simp only;omega⟩,by simp only;omega⟩
   |exact⟨⟨S.at_,nb2,addE ns t.text⟩,by rw[hen];rfl,by rw[a3];exact Ep hGB,⟨s2,a1.sub hGB,a2,by rw[g4,hst,hte],by have:=qfh ns t.text;simp only;omega⟩,by simp only;omega⟩
  ·try simp only[VS]at hb2
   have hcopy:=copy_here (hW.symm.trans (by simpa using hb2));have hst:=qbR (l:=l) (i:=i) (by omega) ns;rw[hcopy,if_neg (by omega)]at hst;refine qN ?_;change Awp _ _ _ _ _ _ _;refine awp_rseq [0,3,4,5,6] (by rfl) fun K hK=>?_;simp+decide only[ev,putD,VM,VO,Ka,true_and,↓qg,qc];refine QR (by rfl) (by rfl) (c_parse04 wz _ v l i hvl (by omega) hi) fun x6q2 h6q2 hx6q2=>?_;obtain⟨t,pb,en,wr,qs,rfl,p1,p2,p3,p4,p5,p6⟩:=hx6q2;have hs6:Sub H1 h6q2:=by rw[p2];exact BH p1
   obtain⟨S,hS⟩:∃S,S=QL l (i+1):=⟨_,rfl⟩
   rw[<-hS]at hst p5 p6;have hwc:=qsy (wz:=wz) p5 p6;have hs_h6q2:Sub h h6q2:=BJ zqC hs6;have hr_h6q2:Sub H1 h6q2:=BJ zqC hs6;have eb_0q1:=hs6 k0q1 _ zqA;refine Qi ze70 (cs:=[.int .u8 0, .str [], .int .i64 0, .int .i64 0, .bool false, .nilSlice, .int .i64 0, .int .i64 0]) (by rfl) fun k6q3 hk6q3=>?_;have hn_6q3:h6q2 k6q3=none:=by first|assumption|(simp only[V7]at hk6q3;simp only[hk6q3])
   have hf_6q3:h k6q3=none:=Bg hs_h6q2 hn_6q3;have ne_6q3_0q1:k6q3≠k0q1:=Bh hn_6q3 eb_0q1;refine qp (by rfl) (by rfl) zqA Uw (by rfl) (by rfl) zqD (Js _) (by first|rfl|(simp+decide only[ev,putD,VM,VO,Ka,VV,Qr,JS,qnl,XU,XA,XB,Xh])) ?_;simp only[Vh,VV];simp+decide only[qa,ev,putD,VM,VO,VN,Ka,setAt,VW,Ki,Jr,Nat.reduceAdd,qnl];apply hK;clear hK K;refine qJ ?_;refine awp_rseq [0,3,4,5,6,22] (by rfl) fun K hK=>?_;simp+decide only[qa,ev,qI,qG,putD,VM,VO,VN,Ka,true_and,↓qB,qm,qdW,↓qF,qY,qz ag3,↓qw,ql,qy,cond_false,qo,Ub,QN,VX,Km,Jr,qi];apply hK;clear hK K;refine qH (b:=_) rfl (fun hb3=>?_) (fun hb3=>?_)
   ·try simp only[decide_eq_true_eq]at hb3
    obtain⟨hok,hwe⟩:S.ok=false/\wr=S.at_:=by
     rcases hwc with⟨-,-,-,e,-⟩|e
     ·omega
     ·exact e
    rw[if_pos hok]at hst;refine awp_rseq [2,3] (by rfl) fun K hK=>?_;simp+decide only[ev,putD,VM,VO,Ka,true_and,↓qg,qc,↓qB,qm,qdW,↓qF,qY,qz ag3,QN,VX,Km,Jr,qi];refine qM (V:=Qu (Ut l i S.at_)) (by rfl) (by rfl) (by rw[hwe];exact c_fault04 wz _ v l i S.at_ (hv.mono zqB) (by omega) hi) ?_;simp+decide only[ev,qI,qG,putD,VM,Ka,true_and,↓qd,qb,Qu];refine qp (by rfl) (by rfl) zqA QI (by rfl) (by rfl) zqD (Js _) (by first|rfl|(simp+decide only[ev,putD,VM,VO,Ka,VV,Qr,JS,Vf,qnl,XU,XA,XB,Xh])) ?_;simp only[VV];simp+decide only[qa,ev,putD,VO,VN,Ka,setAt,VW,Ki,Jr,Nat.reduceAdd];apply hK;clear hK K;refine qL ?_;try simp only[Qg,Qn]
    refine QF (?_) ?_
    ·simp+decide only[QD,qA,qj,VO,Ka,and_true,qA,qj,qh Xo QI,Qa,qf,VX,Km,Jr,Nat.reduceAdd,qi,allLive,JS,qf,VX,Km,Jr,Nat.reduceAdd,qi,allLive,JS]
    simp+decide only[VO,Ka,Xg,qA,qj,qh Xo QI,Qa,qf,VX,Km,Jr,Nat.reduceAdd,qi,allLive,JS,qf,VX,Km,Jr,Nat.reduceAdd,qi,allLive,JS,Qu];exact⟨h,zqB,none,by rw[g4,hst];rfl,trivial,by rw[g4,hst];rfl,rfl⟩
   ·try simp only[decide_eq_false_iff_not]at hb3
    obtain⟨hok,hte,hen,-⟩:S.ok=true/\t=S.name/\en=S.at_/\wr= -1:=by
     rcases hwc with⟨a1,a2,a3,a4,-⟩|⟨-,e⟩
     ·exact⟨a1,a2,a3,a4⟩
     ·omega
    rw[if_neg (by rw[hok];decide)]at hst;obtain⟨s1,s2,s3,s4⟩:=We (l:=l) (i:=i+1) (by omega);rw[<-hS]at s1 s2 s3 s4;refine qN ?_;change Awp _ _ _ _ _ _ _;obtain⟨B,hB⟩:∃B,B=G.set k6q3 ⟨qnl t (QH 2 pb) en wr,0⟩:=⟨_,rfl⟩
    have hn1:QG G nb k6q3=none:=by rw[<-hH1];exact Bg hs6 hn_6q3
    have hcomm:=bufSetNew (es:=1) hn1 ⟨qnl t (QH 2 pb) en wr,0⟩;refine BG (h':=QG B nb) (by rw[hB,<-hcomm.1,<-hH1];exact V9 hs6 _ _) ?_;have hBok:bufOk B 1 nb:=by rw[hB];exact hcomm.2 g2
    have hGB:Sub G B:=by rw[hB];exact Vg (Bg (BH g2) hn1)
    have hB6:B k6q3=some ⟨[.int .u8 t.kind.toNat, .str t.text, .int .i64 t.line, .int .i64 t.col, .bool t.left,QH 2 pb, .int .i64 en, .int .i64 wr],0⟩:=by rw[hB];exact Vd _ _ _
    obtain⟨H9,hH9⟩:∃H9,H9=QG B nb:=⟨_,rfl⟩
    have hs_H9:Sub h H9:=by rw[hH9];exact(hsG.trans hGB).trans (BH hBok)
    have eb_6q3:H9 k6q3=some ⟨[.int .u8 t.kind.toNat, .str t.text, .int .i64 t.line, .int .i64 t.col, .bool t.left,QH 2 pb, .int .i64 en, .int .i64 wr],0⟩:=by rw[hH9];exact ZE hBok hB6
    rw[<-hH9];refine awp_rseq [0,3,4,6] (by rfl) fun K hK=>?_;simp+decide only[ev,putD,VM,VO,Ka,true_and,↓qg,qc,↓qB,qm,fa70_0,Ur,↓qF,qY,qz ag9,QC wz eb_6q3,VX,Km,Jr,qE];refine QR (by rfl) (by rfl) (by rw[hH9];exact c_addN04 wz B nb ns t.text hBok g3 (by omega)) fun x9q4 h9q4 hx9q4=>?_;obtain⟨nb2,rfl,a1,a2,a3⟩:=hx9q4;have hs9:Sub h h9q4:=by rw[a3];exact(hsG.trans hGB).trans (BH a1)
    have eb9:h9q4 k6q3=some ⟨[.int .u8 t.kind.toNat, .str t.text, .int .i64 t.line, .int .i64 t.col, .bool t.left,QH 2 pb, .int .i64 en, .int .i64 wr],0⟩:=by rw[a3];exact ZE a1 hB6
    simp+decide only[qa,ev,putD,VM,VO,VN,Ka,true_and,↓qd,qb];apply hK;clear hK K;have hs_h9q4:=hs9;have eb_6q3:=eb9;refine XE [0,3,4,5] (by rfl) ?_;simp+decide only[qa,ev,putD,VM,VO,VN,Ka,true_and,↓qB,qm,fa70_2,↓qF,qY,qz ag3,↓qd,qb,QC wz eb_6q3,VX,Km,Jr,qi,Qu];try simp only[Qf,ZP]
    first
    |exact⟨⟨i+1,nb,ns⟩,rfl,by rw[hH1];exact Vl _,⟨hi,g2,g3,by rw[g4,hskip],by simp only;omega⟩,by simp only;omega⟩
    |exact⟨⟨S.at_,nb2,addE ns t.text⟩,by rw[hen];rfl,by rw[a3];exact Ep hGB,⟨s2,a1.sub hGB,a2,by rw[g4,hst,hte],by have:=qfh ns t.text;simp only;omega⟩,by simp only;omega⟩
 ·try simp only[decide_eq_false_iff_not]at hb1
  refine Xm ?_;change Awp _ _ _ _ _ _ _;refine awp_rseq [2,3] (by rfl) fun K hK=>?_;simp+decide only[ev,qI,qG,putD,VM,VO,Ka,true_and,↓qg,qc,↓Qo,↓qZ,ZI,evP,Vj,↓qd,qb];refine qp (by rfl) (by rfl) zqA QI (by rfl) (by rfl) zqD (Js _) (by first|rfl|(simp+decide only[ev,putD,VM,VO,Ka,VV,Qr,JS,Vf,qnl,XU,XA,XB,Xh])) ?_;simp only[VV];simp+decide only[qa,ev,putD,VO,VN,Ka,setAt,VW,Ki,Jr,Nat.reduceAdd];apply hK;clear hK K;refine qL ?_;refine QF (?_) ?_
  ·simp+decide only[QD,qA,qj,VO,Ka,and_true,qA,qj,qh Xo QI,Qa,qf,VX,Km,Jr,Nat.reduceAdd,qi,allLive,JS,qf,VX,Km,Jr,Nat.reduceAdd,qi,allLive,JS]
  simp+decide only[VO,Ka,Xg,qA,qj,qh Xo QI,Qa,qf,VX,Km,Jr,Nat.reduceAdd,qi,allLive,JS,qf,VX,Km,Jr,Nat.reduceAdd,qi,allLive,JS,Qu];have hend:=qbR (l:=l) (i:=i) g1 ns;rw[qop (by omega),if_pos (by omega)]at hend;refine⟨QG h nb,?_,nb,by rw[g4,hend];rfl,g2.sub hsG,by rw[g4,hend];exact g3,rfl⟩;have hsb:Sub (QG h nb) H1:=by rw[hH1];exact Ep hsG
  refine WW hsb ?_ _;cases nb with
  |none=>exact hf_0q1
  |some b=>exact(Vb _ _ (qiF g2 hG0)).trans hf_0q1
end Go.Proofs.YtlhhaagmakhilaaGreatDoor
namespace Go.Proofs.YtlhhaagmakhilaaGreatDoor
open Go.AM
open Go.Proofs
open Go.Col (Str FaultC okF sp)
open Go.Tok
open Go.Cop
open Go.RowKit (Below)
set_option maxRecDepth 100000
theorem qlG:∀(l:List TokC) (i:Nat) (a:AVal) (t:TokC),i<l.length->QM t=(QM (l.getD i XZ)).take 1++[a]++(QM (l.getD i XZ)).drop 2->setAt ((l.map QM).flatten) (i*5+1) [a]=((l.set i t).map QM).flatten
 |[],i,_,_,h,_=>by simp at h
 |x::l,0,a,t,_,e=>by
  simp only[VX]at e;simp only[Kc,Vx,VW,e];rfl
 |x::l,i+1,a,t,h,e=>by
  simp only[Km]at e;have ih:=qlG l i a t (by simpa using h) e;simp only[Kc,Vx,Ki];rw[<-ih,show(i+1)*5+1=5+(i*5+1) by omega,qbG (m:=5) rfl]
theorem qkG{P:Program}{wz:World}{ops rest:List Oper}{s:Slots}{H:AHeap}{K:Slots->AHeap->Prop}{dst:Option Tmp}{ty:TypeId}{pos:String}{af:Array Edge}{t:TypeId}{x y:Operand}{k i:Nat}{l:List TokC}{nm:Str}
 (hx:ev s x= .ptr (.own k) (i*5+1)) (hv:ev s y= .str nm) (hb:H k=some ⟨(l.map QM).flatten,0⟩) (hi:i<l.length) (hn:Yf P t=some 1)
 (hk:QT P wz ops rest (putD s dst (.tuple [])) (H.set k ⟨((l.set i ⟨(l.getD i XZ).kind,nm,(l.getD i XZ).line,(l.getD i XZ).col,(l.getD i XZ).left⟩).map QM).flatten,0⟩) K):
 QT P wz ops (⟨dst, .store t x y,ty,pos,af,none⟩::rest) s H K:=by
 refine qp hx hv hb hn rfl rfl ?_ (Js _) rfl ?_
 ·simp only
  rw[XG (es:=5) Xn,Jo];omega
 ·simp only[VV]
  rw[qlG l i _ ⟨(l.getD i XZ).kind,nm,(l.getD i XZ).line,(l.getD i XZ).col,(l.getD i XZ).left⟩ hi rfl];exact hk
theorem u8_sub48(c:UInt8):IntKind.u8.wrap ((c.toNat:Int)-48)=((c-48).toNat:Int):=by
 have h:∀n:Fin 256,IntKind.u8.wrap ((n.val:Int)-48)=((KC n.val-48).toNat:Int):=by decide+kernel
 have:=h ⟨c.toNat,c.toNat_lt⟩;simpa using this
theorem u8_i64(c:UInt8):IntKind.i64.wrap (c.toNat:Int)=c.toNat:=by
 have:=c.toNat_lt;exact wrap_i64 (by omega) (by omega)
theorem qlg{α:Type}{l:List α}{i:Nat}(d:α)(hi:i<l.length):l.set i (l.getD i d)=l:=by
 rw[Kn,Jz hi];exact List.set_getElem_self hi
theorem qlY{i k:Nat}{m:List (List UInt8)}(h:i<(m.take 8).length)(hk:k<(lOf (m.getD i [])).length)(he:(qfP i (lOf (m.getD i []))).getD k noT=(lOf (m.getD i [])).getD k noT):qcs i (k+1) m=qcs i k m:=by
 have h1:i<m.length/\i<8:=by rw[K4]at h;omega
 rw[qkD h1.1 h1.2 hk,he,<-qhC (k:=k) (i:=i) (KJ _) hk,qlg noT (by rw[WM];exact hk),<-qoP (k:=k) h1.1 h1.2,qlg _ (by rw[qkE];exact h)]
theorem qsM:∀i:Fin 8,(([49,50,51,52,53,54,55,56,57]:Str).drop i.val).take (i.val+1-i.val)=[KC (48+(i.val+1))]:=by decide
theorem acy_copy{i:Nat}{l:List TokC}(j:Nat):((qfP i l).getD j noT).text=COPY↔(l.getD j noT).text=COPY:=by
 rw[qsh];split
 ·rename_i hc
  obtain⟨-,-,-,-,h2,-⟩:=hc;constructor
  ·intro e
   have:=congrArg BP e;simp[WJ,COPY]at this
  ·intro e
   rw[e]at h2;simp[COPY]at h2
 ·exact Iff.rfl
def badB:MemB:=(⟨[],[]⟩,none)
structure AcG where
 i:Nat
 H:AHeap
 qs:List MemB
theorem qhD{h H:AHeap}{mb:Option Buf}{m:List (List UInt8)}{i k:Nat}{qs:List MemB}(ha:AcOk h H mb (qcs i k m) qs):qs.length=(m.take 8).length:=by
 have:=congrArg BP ha.ms
 rwa [Jo,qkE]at this
theorem acq_get{h H:AHeap}{mb:Option Buf}{m:List (List UInt8)}{i k:Nat}{qs:List MemB}(ha:AcOk h H mb (qcs i k m) qs)(hi:i<(m.take 8).length):∃tb,qs.getD i badB=(⟨WJ i,UW k i (lOf (m.getD i []))⟩,tb):=by
 have hq:=qhD ha;have h1:i<m.length/\i<8:=by rw[K4]at hi;omega
 have hg:=qoP (k:=k) h1.1 h1.2;rw[<-ha.ms,Kn,Eb,Jz (by omega)]at hg;refine⟨(qs.getD i badB).2,?_⟩;rw[Kn,Jz (by omega)];exact Prod.ext hg rfl
theorem AcOk.mems{wz:World}{h H:AHeap}{mb:Option Buf}{ms:List MemC}{qs:List MemB}(ha:AcOk h H mb ms qs):IsMems wz H (QH 2 mb) ms:=by
 refine⟨qs.map fun q=>(q.1,QH 5 q.2),?_,?_,?_⟩
 ·rw[VT,<-ha.ms];rfl
 ·rw[VT]
  exact EG ha.has (by decide) ha.eq qaS qhK
 ·intro q hq
  obtain⟨x,hx,rfl⟩:=JG.1 hq;exact EG (ha.tk.has x hx) (by decide) (ha.tk.toks x hx) Xn (WV _)
set_option maxHeartbeats 2000000 in
theorem qoD(wz:World)(h:AHeap)(v:AVal)(m:List (List UInt8))(hv:IsLs wz h v m)(hl:m.length<=1000000)(hl2:∀x∈m,x.length<=9223372036854775807):
 ACall Tryz.prog wz 19 [v] h (fun r h'=>∃mb qs,r=QH 2 mb/\AcOk h h' mb (qcw m) qs):=by
 have hlv:v.live=true:=by obtain⟨qs,-,h1,-⟩:=hv;exact h1.live
 refine qW (n:=78) (rs:=[.tmp 2]) Tryz.func19 rfl rfl rfl rfl (VL rfl) ?_;simp only[Qe];refine awp_rseq [0] (by rfl) fun K hK=>?_;simp+decide only[qa,ev,qI,qG,putD,VM,VN,Ka,true_and,↓qd,qb];apply hK;clear hK K;refine awp_rseq [3] (by rfl) fun K hK=>?_;simp+decide only[ev,putD,VM,VO,Ka,true_and,↓qg,qc];refine QR (by rfl) (by rfl) (qoy wz _ v m hv hl hl2) fun x1q1 h1q1 hx1q1=>?_;obtain⟨⟨j0,B0,mb,qs0⟩,rfl,e1,hL⟩:=hx1q1;have hA:=AcOk.of hL;rw[<-acyN_zero]at hA;simp only at e1 hA|-
 rw[<-e1]at hA;have hbl:=QW 2 mb;simp+decide only[qa,ev,putD,VM,VO,VN,Ka,true_and,↓qd,qb];apply hK;clear hK K;refine qJ ?_;refine awp_rseq [3,4] (by rfl) fun K hK=>?_;simp+decide only[qa,ev,qI,qG,putD,VM,VN,Ka,true_and,↓qd,qb];apply hK;clear hK K;refine Qj ?_;refine Xj [3,4] (fun s:AcG=>[(3,QH 2 mb),(4, .int .i64 s.i)]) (fun s:AcG=>s.H) (fun s:AcG=>s.i<=(m.take 8).length/\AcOk h s.H mb (qcs s.i 1 m) s.qs) (fun s:AcG=>(m.take 8).length-s.i) ⟨0,h1q1,qs0⟩ (by rfl) (Vl _) ⟨Js _,hA⟩ ?_;rintro⟨i,H,qs⟩ ⟨g1,g2⟩;simp only at g1 g2|-
 have hM:IsL wz H 2 (QH 2 mb) (qs.map qdk):=EG g2.has (by decide) g2.eq qaS qhK;have hMl:=hM.len Tryz.underlying28;rw[Jo,qhD g2]at hMl;refine qJ ?_;refine awp_rseq [3,4,12] (by rfl) fun K hK=>?_;simp+decide only[qa,ev,putD,VM,VO,VN,Ka,true_and,↓qg,qc,↓Xc,Qv,↓qw,ql,qP,cond_false,qo,XD,hMl];apply hK;clear hK K;refine qH (b:=_) rfl (fun hb1=>?_) (fun hb1=>?_)
 ·try simp only[decide_eq_true_eq]at hb1
  have hi:i<(m.take 8).length:=by omega
  have hi8':i<8:=by have h0:=hi;rw[K4]at h0;omega
  obtain⟨b2,rfl⟩:∃b2,mb=some b2:=by
   cases mb with
   |some b=>exact⟨b,rfl⟩
   |none=>
    have e:=congrArg BP g2.eq;rw[XG (es:=2) qaS,Jo,qhD g2]at e;simp only[Yn,J8]at e;omega
  have hbv2:QH 2 (some b2)= .slice (.own b2.blk) 0 (m.take 8).length (.grow 2):=by
   show AVal.slice (.own b2.blk) 0 (b2.cells.length / 2) (.grow 2)=_
   rw[show b2.cells=(qs.map qdk).flatten from g2.eq,XG (es:=2) qaS,Jo,qhD g2,Vn _ (by decide)]
  obtain⟨l,hl0⟩:∃l,l=lOf (m.getD i []):=⟨_,rfl⟩
  have h840:l.length<=840:=by rw[hl0];exact(qmy _).2
  refine qN ?_;change Awp _ _ _ _ _ _ _;refine qJ ?_;refine Qj ?_;refine awp_rseq [3,4,5] (by rfl) fun K hK=>?_;simp+decide only[qa,ev,qI,qG,putD,VM,VN,Ka,true_and,↓qd,qb];apply hK;clear hK K;refine Qj ?_;refine Xj [3,4,5] (fun g:AcG=>[(3,QH 2 (some b2)),(4, .int .i64 i),(5, .int .i64 g.i)]) (fun g:AcG=>g.H) (fun g:AcG=>1<=g.i/\g.i<=841/\AcOk h g.H (some b2) (qcs i g.i m) g.qs) (fun g:AcG=>841-g.i) ⟨1,H,qs⟩ (by rfl) (Vl _) ⟨KJ _,by(simp only;omega),g2⟩ ?_;rintro⟨k,G,ps⟩ ⟨k1,k2,k3⟩;simp only at k1 k2 k3|-
  obtain⟨tb,htb⟩:=acq_get k3 hi;rw[<-hl0]at htb;have hpl:=qhD k3;have hpi:i<ps.length:=by omega
  have hpm:ps.getD i badB∈ps:=Uk badB hpi;have hG:IsL wz G 2 (QH 2 (some b2)) (ps.map qdk):=EG k3.has (by decide) k3.eq qaS qhK;rw[hbv2]at hG;have hGl:=hG.len Tryz.underlying28;rw[Jo,hpl]at hGl;have e1:rd wz G (.own b2.blk) (i*2+1)=QH 5 tb:=by
   have he:=hG.elem (i:=i) (by rw[Jo];exact hpi);rw[getD_map badB hpi,htb]at he;simp only[qf,qdk,List.cons.injEq,and_true,Jr]at he;exact he.2
  have hT:IsL wz G 5 (QH 5 tb) ((UW k i l).map QM):=by
   have h1:=k3.tk.has _ hpm;have h2:=k3.tk.toks _ hpm;rw[htb]at h1 h2;exact EG h1 (by decide) h2 Xn (WV _)
  have hTl:=XY hT;rw[WM]at hTl;have hTv:=hT.live;refine qJ ?_;refine awp_rseq [3,4,5,22] (by rfl) fun K hK=>?_;simp+decide only[qa,ev,putD,VM,VO,VN,Ka,true_and,↓qg,qc,↓Qp,qY,qU Tryz.underlying28 qmd,↓qB,qm,qka,↓qF,qz UU,↓Xc,Qv,↓qw,ql,qP,cond_false,qo,XD,Jr,hbv2,e1,hTl,hTv,Vq,Jr];repeat (with_reducible refine And.intro ?_ ?_;· first|trivial|omega|(intro hg;simp only[Kw,JV,Ji,VP,VQ,VS,decide_eq_true_eq,decide_eq_false_iff_not,XK]at hg;omega))
  apply hK;clear hK K;refine qH (b:=_) rfl (fun hb2=>?_) (fun hb2=>?_)
  ·try simp only[decide_eq_true_eq]at hb2
   have hk:k<l.length:=by omega
   obtain⟨b,rfl⟩:∃b,tb=some b:=by
    cases tb with
    |some b=>exact⟨b,rfl⟩
    |none=>
     have e:=k3.tk.toks _ hpm;rw[htb]at e;have e:=congrArg BP e;rw[XG (es:=5) Xn,Jo,WM]at e;simp only[Yn,J8]at e;omega
   have hbc:b.cells=((UW k i l).map QM).flatten:=by
    have e:=k3.tk.toks _ hpm;rw[htb]at e;exact e
   have hbH:G b.blk=some ⟨((UW k i l).map QM).flatten,0⟩:=by
    have e:=k3.tk.has _ hpm;rw[htb]at e;rw[<-hbc];exact e b rfl
   have hbv5:QH 5 (some b)= .slice (.own b.blk) 0 l.length (.grow 5):=by
    show AVal.slice (.own b.blk) 0 (b.cells.length / 5) (.grow 5)=_
    rw[hbc,XG (es:=5) Xn,Jo,WM,Vn _ (by decide)]
   have hT5:IsL wz G 5 (.slice (.own b.blk) 0 (UW k i l).length (.grow 5)) ((UW k i l).map QM):=by rw[WM,<-hbv5];exact hT
   obtain⟨a0,a1,-,-,-⟩:=YL hT5 (i:=k) (by rw[WM];exact hk);obtain⟨-,d1,-,-,-⟩:=YL hT5 (i:=k-1) (by rw[WM];omega);obtain⟨t,ht⟩:∃t,t=l.getD k noT:=⟨_,rfl⟩
   obtain⟨p,hp⟩:∃p,p=(UW k i l).getD (k-1) noT:=⟨_,rfl⟩
   rw[Yy _ XZ noT (by rw[WM];exact hk),qhC (KJ _) hk,<-ht]at a0 a1;rw[Yy _ XZ noT (by rw[WM];omega),<-hp]at d1;rw[Jr]at a0 a1 d1;have hi8:i<8:=by rw[K4]at hi;omega
   have him:i<m.length:=by rw[K4]at hi;omega
   have hcut:=qsM ⟨i,hi8⟩;simp only at hcut;have hcut1:List.take ((((i:Nat):Int)+1).toNat-i) (List.drop i ([49,50,51,52,53,54,55,56,57]:Str))=[KC (48+(i+1))]:=by
    rw[show((i:Int)+1).toNat=i+1 by omega];exact hcut
   have hpt:p.text=COPY↔(l.getD (k-1) noT).text=COPY:=by rw[hp,qoO (by omega) (by omega)];exact acy_copy (k-1)
   have hget:=qsh i l k;rw[<-ht]at hget;have hdd:(⟨[],[]⟩,none)=badB:=rfl;have hkm:((k:Int)-1).toNat=k-1:=by omega
   refine qN ?_;change Awp _ _ _ _ _ _ _;refine qJ ?_;refine Qj ?_;refine awp_rseq [3,4,5,6] (by rfl) fun K hK=>?_;simp+decide only[qa,ev,putD,VM,VO,VN,Ka,true_and,↓qg,qc,↓Qp,qY,qU Tryz.underlying28 qmd,↓qB,qm,qka,↓qF,qz UU,qU Tryz.underlying26 Xb,↓qd,qb,Jr,UF,e1,hbv5,Vq,Jr];repeat (with_reducible refine And.intro ?_ ?_;· first|trivial|omega|(intro hg;simp only[Kw,JV,Ji,VP,VQ,VS,decide_eq_true_eq,decide_eq_false_iff_not,XK]at hg;omega))
   apply hK;clear hK K;refine awp_rseq [3,4,5,6,68] (by kernel_rfl) fun K hK=>?_;simp+decide only[ev,qI,qG,putD,VM,VO,Ka,true_and,↓qg,qc,↓Qp,qY,qU Tryz.underlying28 qmd,↓qB,qm,qka,↓qF,qz UU,↓qw,ql,qy,cond_false,qo,UA,Jr,UF,e1,hbv5,Vq,Jr];try simp(disch:=omega)only[wrap_i64]
   try simp+decide only[qa,ev,qI,qG,putD,VM,VO,VN,Ka,true_and,qY,qU Tryz.underlying26 Xb,↓qB,qm,Ur,↓qF,qz ag9,↓qw,ql,YP,cond_false,Za,qdR,↓qg,qc,↓Xe,agP,Qw,qO,qK,qD,implies_true,↓Yi,qV,Qt,qbr,qbs,↓Xl,qbp,Zn,Zo,↓Zg,XN,YT,qeg,qz qie,↓Xd,qy,Zi,qbb,Zj,qbc,qo,XT,↓Xa,Qy,Qk,Xk,Xv,↓qcr,Qv,YO Tryz.underlying9,qgi,qgj,↓qky,qde,qcb Tryz.underlying9,qhW,qhY,UA,↓qkz _ _ _ (es_int Tryz.underlying5 Tryz.underlying3),qcC,qln Tryz.underlying5 Tryz.underlying3,cv_conv,cp_conv,qP,qeJ,Jr,qi,qE,Jr,K6,a0,a1,d1,hkm,u8_sub48,u8_i64]
   repeat (with_reducible refine And.intro ?_ ?_;· first|trivial|omega|(intro hg;simp only[Kw,decide_eq_true_eq]at hg;omega))
   apply hK;clear hK K;refine qH (b:=_) rfl (fun hb3=>?_) (fun hb3=>?_)
   ·try simp only[decide_eq_true_eq,Kw]at hb3
    have hc:k<l.length/\1<=k/\(l.getD (k-1) noT).text=COPY/\t.kind=1/\t.text.length=2/\(t.text.getD 1 0-48).toNat<=i:=by
     obtain⟨⟨⟨c1,c2⟩,c3⟩,c4⟩:=hb3;refine⟨hk,k1,hpt.1 c1,UInt8.toNat_inj.1 (by have:(1:UInt8).toNat=1:=rfl;omega),by omega,?_⟩;have c4':((t.text.getD 1 0-48).toNat:Int)<=i:=c4;omega
    rw[if_pos hc]at hget;refine XE [3,4,5] (by rfl) ?_;simp+decide only[ev,qI,qG,putD,VM,VO,Ka,true_and,↓qg,qc,↓qw,ql,qy,cond_false,qo,QS,hbv2];try simp(disch:=omega)only[wrap_i64]
    try simp+decide only[ev,qI,qG,putD,VM,VO,Ka,true_and,↓Wp,ZA,evO,qca Tryz.underlying9,qaa,Ul,↓qw,ql,qP,cond_false,Za,qdS,↓Ql,qV,Qt,↓qB,qm,Ur,Vq,hcut1]
    refine⟨⟨by omega,by omega,by(show(i:Int)+1<=9;omega)⟩,by(simp only[KX,J8];omega),?_⟩;refine qkG (k:=b.blk) (i:=k) (l:=UW k i l) (by rfl) (by rfl) hbH (by rw[WM];exact hk) sz9 ?_;simp+decide only[qa,putD,VN,Ka];change Awp _ _ _ _ _ _ _;refine XE [3,4,5] (by rfl) ?_;simp+decide only[qa,ev,qI,qG,putD,VM,VO,VN,Ka,true_and,↓qg,qc,↓qw,ql,qy,cond_false,qo,QS,↓qd,qb];try simp(disch:=omega)only[wrap_i64]
    try simp only[Qf]
    first
    |exact⟨⟨k+1,G,ps⟩,rfl,Vl _,⟨by simp only;omega,by simp only;omega,by
     simp only;rw[qlY hi (by rw[<-hl0];exact hk) (by rw[<-hl0,hget,ht])];exact k3⟩,by simp only;omega⟩
    |(refine⟨⟨k+1,G.set b.blk ⟨(((UW k i l).set k ⟨t.kind,WJ (i+1),t.line,t.col,t.left⟩).map QM).flatten,0⟩,ps.set i (⟨WJ i,(UW k i l).set k ⟨t.kind,WJ (i+1),t.line,t.col,t.left⟩⟩,some ⟨b.blk,(((UW k i l).set k ⟨t.kind,WJ (i+1),t.line,t.col,t.left⟩).map QM).flatten⟩)⟩,rfl,?_,⟨by simp only;omega,by simp only;omega,?_⟩,by simp only;omega⟩
      ·simp only
       rw[show(UW k i l).getD k XZ=t from by rw[Yy _ XZ noT (by rw[WM];exact hk),qhC (KJ _) hk,ht]];exact Vl _
      ·simp only
       rw[qkD him hi8 (by rw[<-hl0];exact hk),<-hl0,hget];exact k3.set hpi htb (by rw[Et]))
   ·try simp only[decide_eq_false_iff_not,VP]at hb3
    have hc:¬(k<l.length/\1<=k/\(l.getD (k-1) noT).text=COPY/\t.kind=1/\t.text.length=2/\(t.text.getD 1 0-48).toNat<=i):=by
     rintro⟨-,-,c1,c2,c3,c4⟩;have e1:=hpt.2 c1;have e2:(t.kind.toNat:Int)=1:=by rw[c2];rfl
     have e4:(((t.text.getD 1 0-48).toNat:Nat):Int)<=i:=by omega
     rcases hb3 with((q|q)|q)|q
     ·exact q e1
     ·exact q e2
     ·exact q (by omega)
     ·exact q e4
    rw[if_neg hc]at hget;refine qN ?_;change Awp _ _ _ _ _ _ _;refine XE [3,4,5] (by rfl) ?_;simp+decide only[qa,ev,qI,qG,putD,VM,VO,VN,Ka,true_and,↓qg,qc,↓qw,ql,qy,cond_false,qo,QS,↓qd,qb,hbv2];try simp(disch:=omega)only[wrap_i64]
    try simp only[Qf]
    first
    |exact⟨⟨k+1,G,ps⟩,rfl,Vl _,⟨by simp only;omega,by simp only;omega,by
     simp only;rw[qlY hi (by rw[<-hl0];exact hk) (by rw[<-hl0,hget,ht])];exact k3⟩,by simp only;omega⟩
    |(refine⟨⟨k+1,G.set b.blk ⟨(((UW k i l).set k ⟨t.kind,WJ (i+1),t.line,t.col,t.left⟩).map QM).flatten,0⟩,ps.set i (⟨WJ i,(UW k i l).set k ⟨t.kind,WJ (i+1),t.line,t.col,t.left⟩⟩,some ⟨b.blk,(((UW k i l).set k ⟨t.kind,WJ (i+1),t.line,t.col,t.left⟩).map QM).flatten⟩)⟩,rfl,?_,⟨by simp only;omega,by simp only;omega,?_⟩,by simp only;omega⟩
      ·simp only
       rw[show(UW k i l).getD k XZ=t from by rw[Yy _ XZ noT (by rw[WM];exact hk),qhC (KJ _) hk,ht]];exact Vl _
      ·simp only
       rw[qkD him hi8 (by rw[<-hl0];exact hk),<-hl0,hget];exact k3.set hpi htb (by rw[Et]))
  ·try simp only[decide_eq_false_iff_not]at hb2
   have hend:qcs i k m=qcs (i+1) 1 m:=acyN_next (by rw[<-hl0];omega);refine Xm ?_;change Awp _ _ _ _ _ _ _;refine XE [3,4] (by rfl) ?_;simp+decide only[qa,ev,qI,qG,putD,VM,VO,VN,Ka,true_and,↓qg,qc,↓qw,ql,qy,cond_false,qo,QS,↓qd,qb];try simp(disch:=omega)only[wrap_i64]
   try simp only[Qf]
   exact⟨⟨i+1,G,ps⟩,by rw[hbv2];rfl,Vl _,⟨hi,by simp only;rw[<-hend];exact k3⟩,by simp only;omega⟩
 ·try simp only[decide_eq_false_iff_not]at hb1
  have hend:qcs i 1 m=qcw m:=acyN_all (by omega);refine Xm ?_;change Awp _ _ _ _ _ _ _;refine awp_rseq [2] (by rfl) fun K hK=>?_;simp+decide only[qa,ev,putD,VM,VO,VN,Ka,true_and,↓qg,qc,↓qd,qb];apply hK;clear hK K;refine qL ?_;refine QF (qR (Qc)) ?_;simp+decide only[VO,if_true,Qs];exact⟨H,Vl _,mb,qs,rfl,by rw[<-hend];exact g2⟩
end Go.Proofs.YtlhhaagmakhilaaGreatDoor
namespace Go.Proofs.YtlhhaagmakhilaaGreatDoor
open Go.AM
open Go.Proofs
open Go.Col (Str FaultC okF sp)
open Go.Tok
open Go.Cop
open Go.RowKit (Below)
set_option maxRecDepth 100000
theorem qoR(m:List (List UInt8)):(qcw m).length<=m.length:=by
 unfold qcw;rw[EB,K4];omega
theorem qkF(m:List (List UInt8)):∀q∈qcw m,q.toks.length<=100000:=by
 intro q hq;unfold qcw at hq;obtain⟨i,hi,rfl⟩:=List.mem_mapIdx.1 hq;simp only;rw[qei];exact V5 (qmy _).2 (by decide)
end Go.Proofs.YtlhhaagmakhilaaGreatDoor
namespace Go.Proofs.YtlhhaagmakhilaaGreatDoor
open Go.AM
open Go.Proofs
open Go.Col (Str FaultC okF sp)
open Go.Tok
open Go.Cop
open Go.RowKit (Below)
set_option maxRecDepth 100000
theorem qdU{l:List Str}{s:Str}(h:s∈l):0<=qgf l s:=by
 refine Int.not_lt.1 fun q=>?_;exact qob.1 q h
structure UfG where
 k:Nat
 f:Int
def qmc(ns:List Str)(mems:List MemC)(k:Nat)(n:Str):Prop:=∃j,j<k/\j<mems.length/\(mems.getD j ⟨[],[]⟩).name∈ns/\n∈(ZJ (mems.getD j ⟨[],[]⟩).toks).1
theorem qcz{ns:List Str}{mems:List MemC}{k:Nat}{n:Str}(h:qmc ns mems (k+1) n):qmc ns mems k n\/((mems.getD k ⟨[],[]⟩).name∈ns/\n∈(ZJ (mems.getD k ⟨[],[]⟩).toks).1):=by
 obtain⟨j,h1,h2,h3,h4⟩:=h;rcases KT j k with q|q
 ·exact .inl ⟨j,q,h2,h3,h4⟩
 ·rw[show j=k by omega]at h3 h4
  exact .inr ⟨h3,h4⟩
theorem qoZ{ns:List Str}{mems:List MemC}{n:Str}(h:∃q∈mems,q.name∈ns/\n∈(ZJ q.toks).1):qmc ns mems mems.length n:=by
 obtain⟨q,h1,h2,h3⟩:=h;obtain⟨j,hj,rfl⟩:=BM h1;have e:mems.getD j ⟨[],[]⟩=mems[j]:=by rw[Kn,Jz hj];rfl
 exact⟨j,hj,hj,by rw[e];exact h2,by rw[e];exact h3⟩
theorem qjk(l:List TokC):∀(f i:Nat) (ns:List Str),(qas l f i ns).1.length<=ns.length+f
 |0,i,ns=>KJ _
 |f+1,i,ns=>by
  rw[qas];simp only;split
  ·simp only;omega
  ·split
   ·simp
   ·have h1:=qjk l f (QL l (Xy l i+1)).at_ (Cop.addE ns (QL l (Xy l i+1)).name.text)
    have h2:=qfh ns (QL l (Xy l i+1)).name.text;omega
theorem qld(l:List TokC):(ZJ l).1.length<=l.length+1:=by
 have:=qjk l (l.length+1) 0 [];show(qas l (l.length+1) 0 []).1.length<=_
 simpa using this
set_option maxHeartbeats 4000000 in
theorem l_Uses17(wz:World)(hm:MaxL wz)(h H:AHeap)(hs_H:Sub h H)(uv bv nv:AVal)(us ns:List Str)(mems:List MemC)(hgv:IsL wz H 1 uv (us.map qaj))(hnv:IsL wz H 1 nv (ns.map qaj))(hmv:IsMems wz H bv mems)(hul:us.length<=1000000)(hnl:ns.length<=1000000)(hml:mems.length<=1000000)(hmt:∀q∈mems,q.toks.length<=100000)
 (hA:∀n∈us,n∈ns) (hB:∀q∈mems,q.name∈ns->(ZJ q.toks).2=okF/\∀x∈(ZJ q.toks).1,x∈ns) (hC:∀n∈ns,n∈us\/∃q∈mems,q.name∈ns/\n∈(ZJ q.toks).1):
 Awp Tryz.prog wz 165 (Ud 10 (qcT Tryz.f8)) (qdb Tryz.prog wz [.tmp 4] (fun r h'=>r= .bool true/\h'=h)) [(9,uv),(11,bv),(13,nv)] (H):=by
 obtain⟨qs,hq0,hq1,hq2⟩:=hmv;have hgl:=hgv.live;have hbl:=hq1.live;have hnlv:=hnv.live;have hgn:=qaz hgv;have hnn:=qaz hnv;have hbn:=qrK hq1;have hqm:mems.length=qs.length:=by rw[hq0,Jo]
 change Awp _ _ _ (Code.seq _ _) _ _ _;refine qJ ?_;refine awp_rseq [9,11,13,15] (by rfl) fun K hK=>?_;simp+decide only[qa,ev,qI,qG,putD,VM,VN,Ka,true_and,↓qd,qb];apply hK;clear hK K;refine Qj ?_;refine Xj [9,11,13,15] (fun i:Nat=>[(9,uv),(11,bv),(13,nv),(15, .int .i64 i)]) (fun i:Nat=>H) (fun i:Nat=>i<=us.length) (fun i:Nat=>us.length-i) 0 (by rfl) (Vl _) (Js _) ?_;intro i hi;refine qJ ?_;refine awp_rseq [9,11,13,15,93] (by rfl) fun K hK=>?_;simp+decide only[qa,ev,putD,VM,VO,VN,Ka,true_and,↓qg,qc,↓Xc,Qv,↓qw,ql,qP,cond_false,qo,XD,hgn];apply hK;clear hK K;refine qH (b:=_) rfl (fun hb1=>?_) (fun hb1=>?_)
 ·try simp only[decide_eq_true_eq]at hb1
  have hi':i<us.length:=by omega
  obtain⟨lc,o,c,hve⟩:=qcf hgv (by omega);have hgv':=hgv;rw[hve]at hgv';have he:=qeN hgv' hi';have hge:=qdU (hA _ (Uk [] hi'));refine qN ?_;change Awp _ _ _ _ _ _ _;refine qJ ?_;refine Qj ?_;refine awp_rseq [9,11,13,15,102] (by rfl) fun K hK=>?_;simp+decide only[ev,putD,VM,VO,Ka,true_and,↓qg,qc,↓Qp,qY,qU Tryz.underlying30 sz9,↓qF,qz ag9,qE,hve,he,qE,Vq,BI];repeat (with_reducible refine And.intro ?_ ?_;· first|trivial|omega|(intro hg;simp only[Kw,JV,Ji,VP,VQ,VS,decide_eq_true_eq,decide_eq_false_iff_not,XK]at hg;omega))
  refine qM (V:= .int .i64 (qgf ns (us.getD i []))) (by rfl) (by rfl) (qdw wz _ nv ns _ hnv (by omega)) ?_;simp+decide only[qa,ev,qI,qG,putD,VM,VO,VN,Ka,true_and,↓qw,ql,qy,cond_false,qo,XD];apply hK;clear hK K;refine qH (b:=_) rfl (fun hb2=>?_) (fun hb2=>?_)
  ·try simp only[decide_eq_true_eq]at hb2
   omega
  ·try simp only[decide_eq_false_iff_not]at hb2
   refine qN ?_;change Awp _ _ _ _ _ _ _;refine XE [9,11,13,15] (by rfl) ?_;simp+decide only[qa,ev,qI,qG,putD,VM,VO,VN,Ka,true_and,↓qg,qc,↓qw,ql,qy,cond_false,qo,QS,↓qd,qb];try simp(disch:=omega)only[wrap_i64]
   try simp only[Qf]
   exact⟨i+1,by rw[hve];rfl,Vl _,hi',by omega⟩
 ·try simp only[decide_eq_false_iff_not]at hb1
  refine Xm ?_;change Awp _ _ _ _ _ _ _;refine qJ ?_;refine awp_rseq [9,11,13,16] (by rfl) fun K hK=>?_;simp+decide only[qa,ev,qI,qG,putD,VM,VN,Ka,true_and,↓qd,qb];apply hK;clear hK K;refine Qj ?_;refine Xj [9,11,13,16] (fun i:Nat=>[(9,uv),(11,bv),(13,nv),(16, .int .i64 i)]) (fun i:Nat=>H) (fun i:Nat=>i<=ns.length) (fun i:Nat=>ns.length-i) 0 (by rfl) (Vl _) (Js _) ?_;intro i hi;refine qJ ?_;refine awp_rseq [9,11,13,16,106] (by rfl) fun K hK=>?_;simp+decide only[qa,ev,putD,VM,VO,VN,Ka,true_and,↓qg,qc,↓Xc,Qv,↓qw,ql,qP,cond_false,qo,XD,hnn];apply hK;clear hK K;refine qH (b:=_) rfl (fun hb3=>?_) (fun hb3=>?_)
  ·try simp only[decide_eq_true_eq]at hb3
   have hi':i<ns.length:=by omega
   obtain⟨lc,o,c,hve⟩:=qcf hnv (by omega);have hnv':=hnv;rw[hve]at hnv';have he:=qeN hnv' hi';obtain⟨n,hn⟩:∃n,n=ns.getD i []:=⟨_,rfl⟩
   have hnm:n∈ns:=by rw[hn];exact Uk [] hi'
   rw[<-hn]at he;refine qN ?_;change Awp _ _ _ _ _ _ _;refine qJ ?_;refine Qj ?_;refine awp_rseq [9,11,13,16,17] (by rfl) fun K hK=>?_;simp+decide only[ev,putD,VM,VO,Ka,true_and,↓qg,qc,↓Qp,qY,qU Tryz.underlying30 sz9,↓qF,qz ag9,qE,hve,he,qE,Vq,BI];repeat (with_reducible refine And.intro ?_ ?_;· first|trivial|omega|(intro hg;simp only[Kw,JV,Ji,VP,VQ,VS,decide_eq_true_eq,decide_eq_false_iff_not,XK]at hg;omega))
   refine qM (V:= .int .i64 (qgf us n)) (by rfl) (by rfl) (qdw wz _ uv us n hgv (by omega)) ?_;simp+decide only[qa,ev,putD,VM,VO,VN,Ka,true_and,↓qd,qb];apply hK;clear hK K;refine qJ ?_;refine awp_rseq [9,11,13,16,17,18] (by rfl) fun K hK=>?_;simp+decide only[qa,ev,qI,qG,putD,VM,VN,Ka,true_and,↓qd,qb];apply hK;clear hK K;refine Qj ?_;refine Xj [9,11,13,16,17,18] (fun s:UfG=>[(9,uv),(11,bv),(13,nv),(16, .int .i64 i),(17, .int .i64 s.f),(18, .int .i64 s.k)]) (fun s:UfG=>H) (fun s:UfG=>s.k<=qs.length/\((n∈us\/qmc ns mems s.k n)->0<=s.f)) (fun s:UfG=>qs.length-s.k) ⟨0,qgf us n⟩ (by rw[hve];rfl) (Vl _) ⟨Js _,fun z=>by
    rcases z with z|⟨j,q,-⟩
    ·exact qdU z
    ·exact absurd q (EH _)⟩ ?_
   rintro⟨k,f⟩ ⟨hk,hf⟩;simp only at hk hf|-
   refine qJ ?_;refine awp_rseq [9,11,13,16,17,18,118] (by rfl) fun K hK=>?_;simp+decide only[qa,ev,putD,VM,VO,VN,Ka,true_and,↓qg,qc,↓Xc,Qv,↓qw,ql,qP,cond_false,qo,XD,hbn];apply hK;clear hK K;refine qH (b:=_) rfl (fun hb4=>?_) (fun hb4=>?_)
   ·try simp only[decide_eq_true_eq]at hb4
    have hk':k<qs.length:=by omega
    obtain⟨lc2,o2,c2,hbe⟩:=qjM hq1 (by omega);have hq1':=hq1;rw[hbe]at hq1';obtain⟨b0,b1⟩:=qpt hq1' hk';obtain⟨q,hq⟩:∃q,q=qs.getD k qgo:=⟨_,rfl⟩
    rw[<-hq]at b0 b1;have hqm':q∈qs:=by rw[hq];exact Uk qgo hk'
    have hqM:q.1∈mems:=by rw[hq0];exact EI hqm'
    have hqt:=hq2 q hqm';have hql:=hqt.live;have hmk:mems.getD k ⟨[],[]⟩=q.1:=by rw[hq0,hq,Kn,Eb,Jz hk',Kn,Jz hk'];rfl
    refine qN ?_;change Awp _ _ _ _ _ _ _;refine qJ ?_;refine Qj ?_;refine qJ ?_;refine awp_rseq [9,11,13,16,17,18,128] (by rfl) fun K hK=>?_;simp+decide only[ev,putD,VM,VO,Ka,true_and,↓qg,qc,↓Qp,qY,qU Tryz.underlying28 qmd,↓qB,qm,fa57_0,↓qF,qz ag9,qE,hbe,b0,qE,Vq,K6];repeat (with_reducible refine And.intro ?_ ?_;· first|trivial|omega|(intro hg;simp only[Kw,JV,Ji,VP,VQ,VS,decide_eq_true_eq,decide_eq_false_iff_not,XK]at hg;omega))
    refine qM (V:= .int .i64 (qgf ns q.1.name)) (by rfl) (by rfl) (qdw wz _ nv ns _ hnv (by omega)) ?_;simp+decide only[qa,ev,qI,qG,putD,VM,VO,VN,Ka,true_and,↓qw,ql,qy,cond_false,qo,XD];apply hK;clear hK K;refine qH (b:=_) rfl (fun hb5=>?_) (fun hb5=>?_)
    ·try simp only[decide_eq_true_eq]at hb5
     refine Xm ?_;change Awp _ _ _ _ _ _ _;refine XE [9,11,13,16,17,18] (by rfl) ?_;simp+decide only[qa,ev,qI,qG,putD,VM,VO,VN,Ka,true_and,↓qg,qc,↓qw,ql,qy,cond_false,qo,QS,↓qd,qb];try simp(disch:=omega)only[wrap_i64]
     try simp only[Qf]
     first
     |(refine⟨⟨k+1,f⟩,by rw[hbe];rfl,Vl _,⟨hk',fun z=>?_⟩,by simp only;omega⟩
       rcases z with z|z
       ·exact hf (.inl z)
       ·rcases qcz z with z|⟨z,-⟩
        ·exact hf (.inr z)
        ·rw[hmk]at z
         have:=qdU z;omega)
     |(refine⟨⟨k+1,max f (qgf (ZJ q.1.toks).1 n)⟩,rfl,hs30,⟨hk',fun z=>?_⟩,by simp only;omega⟩
       simp only;rcases z with z|z
       ·have:=hf (.inl z);omega
       ·rcases qcz z with z|⟨-,z⟩
        ·have:=hf (.inr z);omega
        ·rw[hmk]at z
         have:=qdU z;omega)
    ·try simp only[decide_eq_false_iff_not]at hb5
     have hqn:q.1.name∈ns:=by
      refine Decidable.byContradiction fun z=>?_;have:=qob.2 z;omega
     obtain⟨hok,hin⟩:=hB q.1 hqM hqn;refine qN ?_;change Awp _ _ _ _ _ _ _;refine awp_rseq [9,11,13,16,17,18,19,20] (by rfl) fun K hK=>?_;simp+decide only[ev,putD,VM,VO,Ka,true_and,↓qg,qc,↓Qp,qY,qU Tryz.underlying28 qmd,↓qB,qm,qka,↓qF,qz UU,b1,hql,Vq];repeat (with_reducible refine And.intro ?_ ?_;· first|trivial|omega|(intro hg;simp only[Kw,JV,Ji,VP,VQ,VS,decide_eq_true_eq,decide_eq_false_iff_not,XK]at hg;omega))
     refine QR (by rfl) (by rfl) (c_Uses wz _ q.2 q.1.toks (hqt.mono zqB) (hmt _ hqM)) fun x30q5 h30q5 hx30q5=>?_;obtain⟨iv,hxe,hs30,hcap,hiv⟩:=hx30q5;rw[hok]at hxe;subst hxe;have hivl:=hiv.live;have hinn:=qaz hiv;have hinl:=qld q.1.toks;have hqtl:=hmt _ hqM;have hs_h30q5:Sub h h30q5:=BJ zqC hs30;have hr_h30q5:Sub H h30q5:=BJ zqC hs30;simp+decide only[ev,putD,VM,VO,Ka,true_and,↓qg,qc,↓QV,QJ,QU,KX,J8,VX,Km,VX,Km,Jr,Nat.reduceAdd,Qu];refine Qi qap (cs:=[.int .i64 0, .int .i64 0, .int .i64 0]) (by rfl) fun k30q9 hk30q9=>?_;have hn_30q9:h30q5 k30q9=none:=by first|assumption|(simp only[V7]at hk30q9;simp only[hk30q9])
     have hf_30q9:h k30q9=none:=Bg hs_h30q5 hn_30q9;simp+decide only[ev,putD,VM,VO,Ka,true_and,↓qd,qb];refine qp (by rfl) (by rfl) zqA QI (by rfl) (by rfl) zqD (Js _) (by rfl) ?_;simp only[Vh,VV];simp+decide only[qa,ev,putD,VO,VN,Ka,setAt,VW,Ki,Jr,Nat.reduceAdd];apply hK;clear hK K;refine qJ ?_;refine awp_rseq [9,11,13,16,17,18,19,140] (by rfl) fun K hK=>?_;simp+decide only[qa,ev,qI,qG,putD,VM,VO,VN,Ka,true_and,↓qF,qY,qh Xo QI,↓Qo,↓qZ,ZI,evP,Vj,↓qw,ql,qP,cond_false,ZV,qiM,QN,qf,VX,Km,Jr,Nat.reduceAdd,qi,allLive,JS];apply hK;clear hK K;refine qH (b:=_) rfl (fun hb6=>?_) (fun hb6=>?_)
     ·exact absurd hb6 (by decide)
     ·try simp only[decide_eq_true_eq,VS,Kw]at hb6
      refine qN ?_;change Awp _ _ _ _ _ _ _;refine BG (h':=h30q5) (Vg hn_30q9) ?_;have he33:rd wz h30q5 lc (o+i)= .str n:=by rw[hn];exact qeN (hnv'.mono hs30) hi'
      refine awp_rseq [9,11,13,16,17,18,19] (by rfl) fun K hK=>?_;simp+decide only[ev,putD,VM,VO,Ka,true_and,↓qg,qc,↓Qp,qY,qU Tryz.underlying30 sz9,↓qF,qz ag9,qE,hve,he33,qE,Vq,BI];repeat (with_reducible refine And.intro ?_ ?_;· first|trivial|omega|(intro hg;simp only[Kw,JV,Ji,VP,VQ,VS,decide_eq_true_eq,decide_eq_false_iff_not,XK]at hg;omega))
      refine qM (V:= .int .i64 (qgf (ZJ q.1.toks).1 n)) (by rfl) (by rfl) (qdw wz _ iv _ n hiv (by omega)) ?_;simp+decide only[qa,ev,putD,VM,VO,VN,Ka,true_and,↓ap_max,qrG,qnN,evs,Kc,Vj,↓qd,qb];apply hK;clear hK K;refine awp_rseq [9,11,13,16,17,18,19,21] (by rfl) fun K hK=>?_;simp+decide only[qa,ev,qI,qG,putD,VM,VN,Ka,true_and,↓qd,qb];apply hK;clear hK K;refine Qj ?_;refine Xj [9,11,13,16,17,18,19,21] (fun j:Nat=>[(9,uv),(11,bv),(13,nv),(16, .int .i64 i),(17, .int .i64 (max f (qgf (ZJ q.1.toks).1 n))),(18, .int .i64 k),(19,iv),(21, .int .i64 j)]) (fun j:Nat=>h30q5) (fun j:Nat=>j<=(ZJ q.1.toks).1.length) (fun j:Nat=>(ZJ q.1.toks).1.length-j) 0 (by rw[hve,hbe];rfl) (Vl _) (Js _) ?_;intro j hj;refine qJ ?_;refine awp_rseq [9,11,13,16,17,18,19,21,152] (by rfl) fun K hK=>?_;simp+decide only[qa,ev,putD,VM,VO,VN,Ka,true_and,↓qg,qc,↓Xc,Qv,↓qw,ql,qP,cond_false,qo,XD,hinn];apply hK;clear hK K;refine qH (b:=_) rfl (fun hb7=>?_) (fun hb7=>?_)
      ·try simp only[decide_eq_true_eq]at hb7
       have hj':j<(ZJ q.1.toks).1.length:=by omega
       obtain⟨lc4,o4,c4,hie⟩:=qcf hiv (by omega);have hiv':=hiv;rw[hie]at hiv';have he4:=qeN hiv' hj';have hge:=qdU (hin _ (Uk [] hj'));refine qN ?_;change Awp _ _ _ _ _ _ _;refine qJ ?_;refine Qj ?_;refine awp_rseq [9,11,13,16,17,18,19,21,161] (by rfl) fun K hK=>?_;simp+decide only[ev,putD,VM,VO,Ka,true_and,↓qg,qc,↓Qp,qY,qU Tryz.underlying30 sz9,↓qF,qz ag9,qE,hie,he4,qE,Vq,BI];repeat (with_reducible refine And.intro ?_ ?_;· first|trivial|omega|(intro hg;simp only[Kw,JV,Ji,VP,VQ,VS,decide_eq_true_eq,decide_eq_false_iff_not,XK]at hg;omega))
       refine qM (V:= .int .i64 (qgf ns ((ZJ q.1.toks).1.getD j []))) (by rfl) (by rfl) (qdw wz _ nv ns _ (hnv.mono hs30) (by omega)) ?_;simp+decide only[qa,ev,qI,qG,putD,VM,VO,VN,Ka,true_and,↓qw,ql,qy,cond_false,qo,XD];apply hK;clear hK K;refine qH (b:=_) rfl (fun hb8=>?_) (fun hb8=>?_)
       ·try simp only[decide_eq_true_eq]at hb8
        omega
       ·try simp only[decide_eq_false_iff_not]at hb8
        refine qN ?_;change Awp _ _ _ _ _ _ _;refine XE [9,11,13,16,17,18,19,21] (by rfl) ?_;simp+decide only[qa,ev,qI,qG,putD,VM,VO,VN,Ka,true_and,↓qg,qc,↓qw,ql,qy,cond_false,qo,QS,↓qd,qb];try simp(disch:=omega)only[wrap_i64]
        try simp only[Qf]
        exact⟨j+1,by rw[hie];rfl,Vl _,hj',by omega⟩
      ·try simp only[decide_eq_false_iff_not]at hb7
       refine Xm ?_;change Awp _ _ _ _ _ _ _;refine XE [9,11,13,16,17,18] (by rfl) ?_;simp+decide only[qa,ev,qI,qG,putD,VM,VO,VN,Ka,true_and,↓qg,qc,↓qw,ql,qy,cond_false,qo,QS,↓qd,qb];try simp(disch:=omega)only[wrap_i64]
       try simp only[Qf]
       first
       |(refine⟨⟨k+1,f⟩,by rw[hbe];rfl,Vl _,⟨hk',fun z=>?_⟩,by simp only;omega⟩
         rcases z with z|z
         ·exact hf (.inl z)
         ·rcases qcz z with z|⟨z,-⟩
          ·exact hf (.inr z)
          ·rw[hmk]at z
           have:=qdU z;omega)
       |(refine⟨⟨k+1,max f (qgf (ZJ q.1.toks).1 n)⟩,rfl,hs30,⟨hk',fun z=>?_⟩,by simp only;omega⟩
         simp only;rcases z with z|z
         ·have:=hf (.inl z);omega
         ·rcases qcz z with z|⟨-,z⟩
          ·have:=hf (.inr z);omega
          ·rw[hmk]at z
           have:=qdU z;omega)
   ·try simp only[decide_eq_false_iff_not]at hb4
    refine Xm ?_;change Awp _ _ _ _ _ _ _;refine awp_rseq [9,11,13,16,163] (by rfl) fun K hK=>?_;simp+decide only[qa,ev,qI,qG,putD,VM,VO,VN,Ka,true_and,↓qg,qc,↓qw,ql,qy,cond_false,qo,XD];apply hK;clear hK K;refine qH (b:=_) rfl (fun hb9=>?_) (fun hb9=>?_)
    ·try simp only[decide_eq_true_eq]at hb9
     have hkq:k=mems.length:=by omega
     have:0<=f:=hf (by
      rcases hC n hnm with z|z
      ·exact .inl z
      ·rw[hkq];exact .inr (qoZ z))
     omega
    ·try simp only[decide_eq_false_iff_not]at hb9
     refine qN ?_;change Awp _ _ _ _ _ _ _;refine XE [9,11,13,16] (by rfl) ?_;simp+decide only[qa,ev,qI,qG,putD,VM,VO,VN,Ka,true_and,↓qg,qc,↓qw,ql,qy,cond_false,qo,QS,↓qd,qb];try simp(disch:=omega)only[wrap_i64]
     try simp only[Qf]
     exact⟨i+1,rfl,Vl _,hi',by omega⟩
  ·try simp only[decide_eq_false_iff_not]at hb3
   refine Xm ?_;change Awp _ _ _ _ _ _ _;refine awp_rseq [4] (by rfl) fun K hK=>?_;refine qM (V:= .bool true) (by rfl) (by rfl) (qfH wz hm _) ?_;simp+decide only[qa,ev,putD,VM,VO,VN,Ka,true_and,↓qd,qb];apply hK;clear hK K;refine qL ?_;refine Qb h zqC (qR (Qc)) ?_;simp+decide only[VO,if_true,and_true,Qs];all_goals first|rfl|exact⟨rfl,rfl⟩|(simp+decide only[Ka, *];done)|(trace_state;fail)
end Go.Proofs.YtlhhaagmakhilaaGreatDoor
namespace Go.Proofs.YtlhhaagmakhilaaGreatDoor
open Go.AM
open Go.Proofs
open Go.Col (Str FaultC okF sp)
open Go.Tok
open Go.Cop
open Go.RowKit (Below)
set_option maxRecDepth 100000
end Go.Proofs.YtlhhaagmakhilaaGreatDoor
namespace Go.Proofs.YtlhhaagmakhilaaGreatDoor
open Go.AM
open Go.Proofs
open Go.Col (Str FaultC okF sp)
open Go.Tok
open Go.Cop
open Go.RowKit (Below)
set_option maxRecDepth 100000
theorem lis_getD{qs:List LisQ}{i:Nat}(hi:i<qs.length):(qs.map (·.1)).getD i []=(qs.getD i qrf).1:=by
 rw[Kn,Eb,Jz hi,Kn,Jz hi];rfl
end Go.Proofs.YtlhhaagmakhilaaGreatDoor
namespace Go.Proofs.YtlhhaagmakhilaaGreatDoor
open Go.AM
open Go.Proofs
open Go.Col (Str FaultC okF sp)
open Go.Tok
open Go.Cop
open Go.RowKit (Below)
set_option maxRecDepth 100000
end Go.Proofs.YtlhhaagmakhilaaGreatDoor
namespace Go.Proofs.YtlhhaagmakhilaaGreatDoor
open Go.AM
open Go.Proofs
open Go.Col (Str FaultC okF sp)
open Go.Tok
open Go.Cop
open Go.RowKit (Below)
set_option maxRecDepth 100000
theorem acyE_find{m:List (List UInt8)}{q:MemC}(h:q∈qcw m):qem (qcw m) q.name=some q:=by
 have hl:(qcw m).length<=8:=by unfold qcw;rw[EB,K4];omega
 have hn:∀i (hi:i<(qcw m).length),(qcw m)[i].name=WJ i:=by
  intro i hi;simp only[qcw,List.getElem_mapIdx]
 obtain⟨i,hi,rfl⟩:=BM h;unfold qem;rw[List.find?_eq_some_iff_getElem];refine⟨by simp,i,hi,rfl,fun j hj=>?_⟩;simp only[Ji,decide_eq_false_iff_not];rw[hn j (by omega),hn i hi];intro e;have:=qsP (by omega) (by omega) e;omega
theorem qoY{l:List TokC}{m:List (List UInt8)}{out:List TokC}{s:Xs}(h:qac true l (qcw m)= .ok out s):
 (ZJ l).2=okF/\(∀n∈(ZJ l).1,n∈s.names)/\(∀q∈qcw m,q.name∈s.names->(ZJ q.toks).2=okF/\∀x∈(ZJ q.toks).1,x∈s.names)/\∀n∈s.names,n∈(ZJ l).1\/∃q∈qcw m,q.name∈s.names/\n∈(ZJ q.toks).1:=by
 obtain⟨h1,h2,h3,h4⟩:=uses_law h;refine⟨h1,h2,fun q hq hn=>?_,fun n hn=>?_⟩
 ·obtain⟨m2,e1,e2,e3⟩:=h4 _ hn
  rw[acyE_find hq]at e1;obtain rfl:=Option.some.inj e1;exact⟨e2,e3⟩
 ·rcases h3 n hn with z|⟨q,e1,e2,e3⟩
  ·exact .inl z
  ·refine .inr ⟨q,?_,e2,e3⟩
   unfold qem at e1;exact List.mem_of_find?_eq_some e1
theorem capL_cap{wz:World}{h:AHeap}{es:Nat}{v:AVal}{xs:List (List AVal)}(hv:IsL wz h es v xs)(hc:Ym v=v){P:Program}{t e:TypeId}(ht:P.underlying t=some (.slice e)):qkU P t v=⟨True, .int .i64 xs.length⟩:=by
 cases hv with
 |nil=>exact pCap_nil ht
 |mk l o n c xs hn hw hcs hl hcap=>
  have:c= .exact n:=by
   simp only[Ym,AVal.slice.injEq,true_and]at hc;exact hc.symm
  subst this;rw[qpp ht,hn]
set_option maxHeartbeats 4000000 in
theorem l_CopiesUses(wz:World)(hm:MaxL wz)(h:AHeap)(v:AVal)(x:List UInt8)(hx:IsL wz h 1 v (x.map qdl))(hx63:x.length<=9223372036854775807)(w:AVal)(m:List (List UInt8))(hms:IsLs wz h w m)(hm0:m.length<=9223372036854775807)(hm63:∀y∈m,y.length<=9223372036854775807):
 ACall Tryz.prog wz 8 [v,w] h (fun r _=>r= .bool true):=by
 refine ACall.mono (R:=fun r h'=>r= .bool true/\h'=h) ?_ fun r h' hr=>hr.1;have hlv:=hx.live;have hlen:=hx.len Tryz.underlying23;rw[Jo]at hlen;have hms0:=hms;obtain⟨qs,hmq,hq1,hq2⟩:=hms0;have hwv:=hq1.live;have hqm:qs.length=m.length:=by rw[hmq,Jo]
 have hwlen:=qrL hq1;have hovl:(AVal.bool true).live=true:=rfl;have hnvl:(AVal.bool true).live=true:=rfl;refine qW (n:=165) (rs:=[.tmp 4]) Tryz.func8 rfl rfl rfl rfl (VL rfl) ?_;simp only[Qe];refine awp_rseq [0,1] (by rfl) fun K hK=>?_;simp+decide only[qa,ev,qI,qG,putD,VM,VN,Ka,true_and,↓qd,qb,Jr];apply hK;clear hK K;refine qJ ?_;refine awp_rseq [0,1,29] (by rfl) fun K hK=>?_;simp+decide only[qa,ev,qI,qG,putD,VM,VO,VN,Ka,true_and,↓qg,qc,↓Xc,Qv,↓qw,ql,qy,cond_false,qo,qah,↓Xe,agP,Qw,qO,qK,Qh,implies_true,↓qcr,qgi,qgj,↓Xd,Zi,Zj,↓Xa,Qy,Qk,Zm,ZC,hlen,hwlen];apply hK;clear hK K;refine qH (b:=_) rfl (fun hb1=>?_) (fun hb1=>?_)
 ·try simp only[decide_eq_true_eq,JV]at hb1
  refine awp_rseq [4] (by rfl) fun K hK=>?_;refine qM (V:= .bool true) (by rfl) (by rfl) (qfH wz hm _) ?_;simp+decide only[qa,ev,putD,VM,VO,VN,Ka,true_and,↓qd,qb];apply hK;clear hK K;refine qL ?_;try simp only[Qg]
  refine Qb h zqC (qR (Qc)) ?_;simp+decide only[VO,if_true,and_true,Qs];all_goals first|rfl|exact⟨rfl,rfl⟩|(simp+decide only[Ka, *];done)|(trace_state;fail)
 ·try simp only[decide_eq_false_iff_not,VQ]at hb1
  have hxl:x.length<=30:=by omega
  have hml:m.length<=5:=by omega
  refine qN ?_;change Awp _ _ _ _ _ _ _;refine qJ ?_;refine awp_rseq [0,1,5] (by rfl) fun K hK=>?_;simp+decide only[qa,ev,qI,qG,putD,VM,VN,Ka,true_and,↓qd,qb];apply hK;clear hK K;refine Qj ?_;refine Xj [0,1,5] (fun i:Nat=>[(0,v),(1,w),(5, .int .i64 i)]) (fun i:Nat=>h) (fun i:Nat=>i<=qs.length/\∀j,j<i->(m.getD j []).length<=6) (fun i:Nat=>qs.length-i) 0 (by rfl) (Vl _) ⟨Js _,fun j hj=>absurd hj (EH _)⟩ ?_;rintro i ⟨hi,h6⟩;refine qJ ?_;refine awp_rseq [0,1,5,34] (by rfl) fun K hK=>?_;simp+decide only[qa,ev,putD,VM,VO,VN,Ka,true_and,↓qg,qc,↓Xc,Qv,↓qw,ql,qP,cond_false,qo,XD,hwlen];apply hK;clear hK K;refine qH (b:=_) rfl (fun hb2=>?_) (fun hb2=>?_)
  ·try simp only[decide_eq_true_eq]at hb2
   have hi':i<qs.length:=by omega
   obtain⟨lc,o,c,hwe⟩:=qnW hq1 (by omega);have hq1':=hq1;rw[hwe]at hq1';have he:=lis_at hq1' hi';obtain⟨y,hy⟩:∃y,y=qs.getD i qrf:=⟨_,rfl⟩
   rw[<-hy]at he;have hym:y∈qs:=by rw[hy];exact Uk qrf hi'
   have hyv:=hq2 y hym;have hyl:=hyv.live;have hyn:=hyv.len Tryz.underlying23;rw[Jo]at hyn;have hmy:m.getD i []=y.1:=by rw[hmq,hy];exact lis_getD hi'
   have hy63:y.1.length<=9223372036854775807:=hm63 _ (by rw[hmq];exact EI hym);refine qN ?_;change Awp _ _ _ _ _ _ _;refine qJ ?_;refine Qj ?_;refine awp_rseq [0,1,5,42] (by rfl) fun K hK=>?_;simp+decide only[qa,ev,qI,qG,putD,VM,VO,VN,Ka,true_and,↓qg,qc,↓Qp,qY,qU Tryz.underlying24 sz23,↓qF,qz ag23,↓Xc,Qv,↓qw,ql,qy,cond_false,qo,qah,hwe,he,hyl,hyn,Vq,BI];repeat (with_reducible refine And.intro ?_ ?_;· first|trivial|omega|(intro hg;simp only[Kw,JV,Ji,VP,VQ,VS,decide_eq_true_eq,decide_eq_false_iff_not,XK]at hg;omega))
   apply hK;clear hK K;refine qH (b:=_) rfl (fun hb3=>?_) (fun hb3=>?_)
   ·try simp only[decide_eq_true_eq]at hb3
    refine awp_rseq [4] (by rfl) fun K hK=>?_;refine qM (V:= .bool true) (by rfl) (by rfl) (qfH wz hm _) ?_;simp+decide only[qa,ev,putD,VM,VO,VN,Ka,true_and,↓qd,qb];apply hK;clear hK K;refine qL ?_;try simp only[Qg,Qn]
    refine Qb h zqC (qR (Qc)) ?_;simp+decide only[VO,if_true,and_true,Qs];all_goals first|rfl|exact⟨rfl,rfl⟩|(simp+decide only[Ka, *];done)|(trace_state;fail)
   ·try simp only[decide_eq_false_iff_not]at hb3
    refine qN ?_;change Awp _ _ _ _ _ _ _;refine XE [0,1,5] (by rfl) ?_;simp+decide only[qa,ev,qI,qG,putD,VM,VO,VN,Ka,true_and,↓qg,qc,↓qw,ql,qy,cond_false,qo,QS,↓qd,qb];try simp(disch:=omega)only[wrap_i64]
    try simp only[Qf]
    exact⟨i+1,by rw[hwe];rfl,Vl _,⟨hi',fun j hj=>by
     rcases KT j i with z|z
     ·exact h6 j z
     ·rw[show j=i by omega,hmy];omega⟩,by omega⟩
  ·try simp only[decide_eq_false_iff_not]at hb2
   have hm6:∀y∈m,y.length<=6:=by
    intro y hy;obtain⟨j,hj,rfl⟩:=BM hy;have:=h6 j (by omega)
    rwa [Kn,Jz hj]at this
   refine Xm ?_;change Awp _ _ _ _ _ _ _;refine awp_rseq [1,6] (by rfl) fun K hK=>?_;simp+decide only[ev,putD,VM,VO,Ka,true_and,↓qg,qc];refine QR (by rfl) (by rfl) (c_Of04 wz _ v x hx hx63) fun x8q1 h8q1 hx8q1=>?_;obtain⟨tb,hxe,o1,o2,o3⟩:=hx8q1;subst hxe;have hs1:Sub h h8q1:=by rw[o3];exact BH o1
   have hlist:IsL wz h8q1 5 (QH 5 tb) ((lOf x).map QM):=by rw[o3];exact IsL.buf o1 (by decide) o2 Xn (Vl _)
   have htl:=QW 5 tb;have hll:=(qmy x).2;generalize hl0:lOf x=l at hlist hll o2;have hs_h8q1:Sub h h8q1:=BJ zqC hs1;have hr_h8q1:=hs_h8q1;simp+decide only[qa,ev,putD,VM,VO,VN,Ka,true_and,↓qd,qb];apply hK;clear hK K;refine awp_rseq [1,6,7,8] (by rfl) fun K hK=>?_;simp+decide only[ev,putD,VM,VO,Ka,true_and,↓qg,qc];refine QR (by rfl) (by rfl) (c_uses04 wz _ (QH 5 tb) l hlist (by omega)) fun x9q1 h9q1 hx9q1=>?_;obtain⟨nb,hxe,u1,u2,u3⟩:=hx9q1;subst hxe;have hs9:Sub h8q1 h9q1:=by rw[u3];exact BH u1
   have hnb:IsL wz h9q1 1 (QH 1 nb) ((ZJ l).1.map qaj):=by rw[u3];exact IsL.buf u1 (by decide) u2 qaR (Vl _)
   have hnbl:=QW 1 nb;have hs_h9q1:Sub h h9q1:=BJ zqC hs9;have hr_h9q1:Sub h8q1 h9q1:=BJ zqC hs9;simp+decide only[ev,putD,VM,VO,Ka,true_and,↓qg,qc,↓QV,QJ,QU,KX,J8,VX,Km,VX,Km,Jr,Nat.reduceAdd,Qu];refine Qi qap (cs:=[.int .i64 0, .int .i64 0, .int .i64 0]) (by rfl) fun k9q5 hk9q5=>?_;have hn_9q5:h9q1 k9q5=none:=by first|assumption|(simp only[V7]at hk9q5;simp only[hk9q5])
   have hf_9q5:h k9q5=none:=Bg hs_h9q1 hn_9q5;simp+decide only[ev,putD,VM,VO,Ka,true_and,↓qd,qb];refine qp (by rfl) (by rfl) zqA QI (by rfl) (by rfl) zqD (Js _) (by rfl) ?_;simp only[Vh,VV];simp+decide only[qa,ev,putD,VO,VN,Ka,setAt,VW,Ki,Jr,Nat.reduceAdd];apply hK;clear hK K;refine awp_rseq [1,6,7,8,9,10] (by rfl) fun K hK=>?_;simp+decide only[ev,putD,VM,VO,Ka,true_and,↓qg,qc];refine QR (by rfl) (by rfl) (c_Uses wz _ (QH 5 tb) l (hlist.mono (hs9.trans (Vg hn_9q5))) (by omega)) fun x10q1 h10q1 hx10q1=>?_;obtain⟨uv,hxe,hs10,hgc,hgv⟩:=hx10q1;subst hxe;have hgl:=hgv.live;have hgn:=qaz hgv;have hgcap:=capL_cap hgv hgc Tryz.underlying30;rw[Jo]at hgcap;have hul:=qld l;have hs_h10q1:Sub h h10q1:=BJ zqC hs10;have hr_h10q1:Sub h9q1 h10q1:=BJ zqC hs10;have eb_9q5:=hs10 k9q5 _ zqA;simp+decide only[ev,putD,VM,VO,Ka,true_and,↓qg,qc,↓QV,QJ,QU,KX,J8,VX,Km,VX,Km,Jr,Nat.reduceAdd,Qu];refine Qi qap (cs:=[.int .i64 0, .int .i64 0, .int .i64 0]) (by rfl) fun k10q5 hk10q5=>?_;have hn_10q5:h10q1 k10q5=none:=by first|assumption|(simp only[V7]at hk10q5;simp only[hk10q5])
   have hf_10q5:h k10q5=none:=Bg hs_h10q1 hn_10q5;have ne_10q5_9q5:k10q5≠k9q5:=Bh hn_10q5 eb_9q5;simp+decide only[ev,putD,VM,VO,Ka,true_and,↓qd,qb];refine qp (by rfl) (by rfl) zqA QI (by rfl) (by rfl) zqD (Js _) (by rfl) ?_;simp only[Vh,VV];simp+decide only[qa,ev,putD,VO,VN,Ka,setAt,VW,Ki,Jr,Nat.reduceAdd];apply hK;clear hK K;refine qJ ?_;refine awp_rseq [1,6,9,71] (by rfl) fun K hK=>?_;simp+decide only[ev,putD,VM,VO,Ka,true_and,↓qF,qY,qh Xo QI,↓qw,ql,qP,cond_false,ZV,qiM,↓qg,qc,↓Xe,agP,Qw,qO,qK,Qh,implies_true,decide_true,Ef,VY,Qz,JS,QZ,ne_eq,not_false_eq_true,ne_10q5_9q5.symm,QC wz eb_9q5,QN,qf,VX,Km,Jr,Nat.reduceAdd,qi,allLive,JS]
   (refine YA (by rfl) ?_;refine qM (V:= .int .i64 0) (by rfl) (by rfl) (c_texts04 wz _ uv (QH 1 nb) (ZJ l).1 (hgv.mono (Vg hn_10q5)) (hnb.mono (((Vg hn_9q5).trans hs10).trans (Vg hn_10q5))) (by omega)) ?_)
   simp+decide only[qa,ev,qI,qG,putD,VM,VO,VN,Ka,true_and,qO,Qh,↓Xd,ql,agP,Qw,qK,implies_true,decide_true,Ef,VY,Qz,JS,qy,cond_false,qo,Ua,↓Xa,Qy,Qk,Xv,↓qg,qc,↓Xe,↓ag_cap,pop_cap,↓qcr,Qv,qP,JS,hgn,hgcap];apply hK;clear hK K;refine qH (b:=_) rfl (fun hb4=>?_) (fun hb4=>?_)
   ·exact absurd hb4 (by simp)
   ·try simp only at hb4
    refine qN ?_;change Awp _ _ _ _ _ _ _;refine BG (h':=h10q1) (Vg hn_10q5) ?_;refine awp_rseq [6,9,11] (by rfl) fun K hK=>?_;simp+decide only[ev,putD,VM,VO,Ka,true_and,↓qg,qc];refine QR (by rfl) (by rfl) (qoD wz _ w m (hms.mono zqB) (by omega) hm63) fun x13q1 h13q1 hx13q1=>?_;obtain⟨mb,ms,hxe,hA⟩:=hx13q1;subst hxe;have hs13:=hA.sub;have hmem:IsMems wz h13q1 (QH 2 mb) (qcw m):=hA.mems;have hmbl:=QW 2 mb;have hs_h13q1:Sub h h13q1:=BJ zqC hs13;have hr_h13q1:Sub h10q1 h13q1:=BJ zqC hs13;simp+decide only[qa,ev,putD,VM,VO,VN,Ka,true_and,↓qd,qb];apply hK;clear hK K;refine awp_rseq [9,11,13,14] (by rfl) fun K hK=>?_;simp+decide only[ev,putD,VM,VO,Ka,true_and,↓qg,qc];refine QR (by rfl) (by rfl) (qhy wz _ (QH 5 tb) (QH 2 mb) l (qcw m) (hlist.mono (((hs9.trans (Vg hn_9q5)).trans hs10).trans hs13)) hmem (by omega) (V5 (qoR m) (by omega)) (qkF m)) fun x14q2 h14q2 hx14q2=>?_;obtain⟨ov,nv,f,rfl,hs14,hc1,hc2,hcase⟩:=hx14q2;have hovl:ov.live=true:=by
     rcases hcase with⟨-,-,rfl,-⟩|⟨-,out,st,-,z,-⟩
     ·rfl
     ·exact z.live
    have hnvl:nv.live=true:=by
     rcases hcase with⟨-,-,-,rfl⟩|⟨-,out,st,-,-,z,-⟩
     ·rfl
     ·exact z.live
    have hs_h14q2:Sub h h14q2:=BJ zqC hs14;have hr_h14q2:Sub h13q1 h14q2:=BJ zqC hs14;simp+decide only[ev,putD,VM,VO,Ka,true_and,↓qg,qc,↓QV,QJ,QU,KX,J8,VX,Km,VX,Km,Jr,Nat.reduceAdd,Qu];refine Qi qap (cs:=[.int .i64 0, .int .i64 0, .int .i64 0]) (by rfl) fun k14q7 hk14q7=>?_;have hn_14q7:h14q2 k14q7=none:=by first|assumption|(simp only[V7]at hk14q7;simp only[hk14q7])
    have hf_14q7:h k14q7=none:=Bg hs_h14q2 hn_14q7;simp+decide only[ev,putD,VM,VO,Ka,true_and,↓qd,qb];refine qp (by rfl) (by rfl) zqA QI (by rfl) (by rfl) zqD (Js _) (by rfl) ?_;simp only[Vh,VV];simp+decide only[qa,ev,putD,VO,VN,Ka,setAt,VW,Ki,Jr,Nat.reduceAdd];apply hK;clear hK K;refine qJ ?_;refine awp_rseq [9,11,13,83] (by rfl) fun K hK=>?_;simp+decide only[qa,ev,qI,qG,putD,VM,VO,VN,Ka,true_and,↓qF,qY,qh Xo QI,↓Qo,↓qZ,ZI,evP,Vj,↓qw,ql,qP,cond_false,ZV,qiM,QN,qf,VX,Km,Jr,Nat.reduceAdd,qi,allLive,JS,YY];apply hK;clear hK K;refine qH (b:=_) rfl (fun hb5=>?_) (fun hb5=>?_)
    ·try simp only[decide_eq_false_iff_not,Ji]at hb5
     have hnve:nv= .nilSlice:=by
      rcases hcase with⟨-,-,-,z⟩|⟨z,-⟩
      ·exact z
      ·exact absurd z hb5
     have hnn:∀G,Yr Tryz.prog G 30 nv=⟨True, .int .i64 0⟩:=by rw[hnve];exact qaz (l:=[]) (wz:=wz) (h:=h) .nil
     refine awp_rseq [4] (by rfl) fun K hK=>?_;simp+decide only[ev,qI,qG,putD,VM,VO,Ka,true_and,↓qg,qc,↓Xc,Qv,↓qw,ql,qy,cond_false,qo,XT,hnn]
     (refine YA (by rfl) ?_;refine qM (V:= .bool true) (by rfl) (by rfl) (qfH wz hm _) ?_)
     simp+decide only[qa,ev,qI,qG,putD,VM,VO,VN,Ka,true_and,↓Xa,Qy,Qk,Xv,↓qd,qb,JS];apply hK;clear hK K;refine qL ?_;try simp only[Qg]
     refine Qb h zqC (qR (Qc)) ?_;simp+decide only[VO,if_true,and_true,Qs];all_goals first|rfl|exact⟨rfl,rfl⟩|(simp+decide only[Ka, *];done)|(trace_state;fail)
    ·try simp only[decide_eq_true_eq,VS]at hb5
     obtain⟨out,st,he,hnv,hfew⟩:∃out st,qac true l (qcw m)= .ok out st/\IsL wz h14q2 1 nv (st.names.map qaj)/\st.names.length<=4096:=by
      rcases hcase with⟨z,-⟩|⟨-,out,st,e,-,z1,-,z2⟩
      ·exact absurd (by simpa using hb5) z
      ·exact⟨out,st,e,z1,z2⟩
     obtain⟨f1,f2,f3,f4⟩:=qoY he;refine qN ?_;change Awp _ _ _ _ _ _ _;refine BG (h':=h14q2) (Vg hn_14q7) ?_;refine Va [9,11,13] ?_;exact l_Uses17 wz hm h h14q2 zqB uv (QH 2 mb) nv (ZJ l).1 st.names (qcw m) (hgv.mono (hs13.trans hs14)) hnv (hmem.mono hs14) (by omega) (by omega) (V5 (qoR m) (by omega)) (qkF m) f2 f3 f4
end Go.Proofs.YtlhhaagmakhilaaGreatDoor
namespace Go.Proofs.YtlhhaagmakhilaaGreatDoor
open Go.AM
open Go.ChangeShapes Go.WideShapes Go.ChangeAt Go.RowKit
set_option maxRecDepth 100000
section
variable {H:Type} {enc:TypeId×Value->H} {W:World} {base:Nat} {v:Value} {x:DataW H×List MemPlace}
end
theorem returns_and_shaped{H:Type}{enc:TypeId×Value->H}{a:Assume}{C:Checked}{os:Os}{f:FuncId}{fn:Func}{s:ChangeSpec}{conds:List PathCond}{apart fresh handsOn again:Bool}{X:World->Array Value->Prop}
 (hX:∀(w w':World) (args:Array Value),w.heap=w'.heap->X w args->X w' args)
 (own:ownKnob C.prog.godebug=none) (started:os.Started) (noInit:C.prog.inits.idxOf? f=none) (hfn:C.prog.funcs[f]?=some fn)
 (witness:∃(w:World) (tape:Tape) (i:Input),w.os=os/\(w.forCall tape i).Shaped C.prog/\i.vars=[]/\Input.okWide C.prog (w.forCall tape i) .any w.heap.size f i/\
   ((s.pre enc C.prog fn conds apart (w.forCall tape i).memory i.args/\X (w.forCall tape i).memory i.args)/\sizedMet enc C.prog fn (OpenSpec.ofChange s) apart (w.forCall tape i).memory i.args)/\a.holds C.prog (lone (Frame.enter C.prog f i.args .normal) [] (w.forCall tape i)))
 (contract:∀(W:World) (base:Nat) (args:Array Value) (ds gs:List (DataW H)) (before:List MemPlace),W.ShapedOpen C.prog->
   (∀(j:Nat) t v,fn.params[j]?=some t->args[j]?=some v->Value.okWide C.prog W .any base t v)->
   DataW.Whole enc C.prog fn.params.toList s.vars apart W args.toList ds gs before->
   conds.all (PathCond.test C.prog ⟨fn.params.toList,ds,s.plain.varTypes C.prog,gs⟩)=true->
   (DataW.weightsEach C.prog (fn.params.toList++s.plain.varTypes C.prog) (ds++gs)).all (· <=reachBytes)=true->X W args->
   a.holds C.prog (lone (Frame.enter C.prog f args .normal) [] W)->
   Calls C.prog f args W fun e W'=>∃v,e= .returned v/\s.post enc C.prog fn apart fresh handsOn again W args v W'):
 ReturnsInHanded a C os f .any (fun w args=>(s.pre enc C.prog fn conds apart w args/\X w args)/\sizedMet enc C.prog fn (OpenSpec.ofChange s) apart w args) (s.post enc C.prog fn apart fresh handsOn again):=by
 refine returnsInHanded_of_calls own started noInit witness ?_;intro w tape i _ hsh _ hok hpre hholds;obtain⟨_,_,_,fn',hfn',_,_,_,_,hval⟩:=hok;have e:fn'=fn:=Option.some.inj (hfn'.symm.trans hfn);subst e;obtain⟨⟨⟨ds,gs,before,hw,hc⟩,hx⟩,hz⟩:=hpre;have hw':=DataW.Whole.of_heap (w':=w.forCall tape i) (by rfl) hw;refine(contract (w.forCall tape i) w.heap.size i.args ds gs before hsh hval hw' hc (hz.weights hw) (hX _ _ _ (by rfl) hx) hholds).mono fun e W' ⟨v,he,hp⟩=>?_;subst he;exact ChangeSpec.post_blind hp
end Go.Proofs.YtlhhaagmakhilaaGreatDoor
namespace Go.Proofs.YtlhhaagmakhilaaGreatDoor
open Go.AM
open Go.ChangeShapes Go.WideShapes Go.ChangeAt Go.RowKit
set_option maxRecDepth 100000
theorem maxl_of{W:World}(h:W.ShapedOpen Tryz.prog):MaxL W:=
 cell_of_shapedOpen_int (t:=3) (zero:= #[.int .i64 0]) h (of_decide_eq_true (by kernel_rfl)) (by kernel_rfl) rfl (by kernel_rfl) (by kernel_rfl) Tryz.underlying3
end Go.Proofs.YtlhhaagmakhilaaGreatDoor
namespace Go.AM
open Go.ChangeShapes Go.WideShapes Go.ChangeAt Go.RowKit
section
variable {P:Program} {H:Type} {enc:TypeId×Value->H} {W:World} {α:Type}
structure RowOf(P:Program)(enc:TypeId×Value->H)(W:World)(e:TypeId)(es:Nat)(el:α->List Value)(inv:α->Prop):Prop where
 size:P.cellsOf e=es
 pos:0<es
 len:∀x,(el x).length=es
 live:∀x,inv x->allLive ((el x).map qG)=true
 cell:∀(n:Nat) (cs:List Value) (y:DataW H×List MemPlace),DataW.trod enc P W 0 (fun _=>true) true n e cs=some y->∃x,cs=el x/\inv x
theorem qlj{el:α->List Value}{inv:α->Prop}{es:Nat}{a:Addr}:∀(len:Nat),(∀i,i<len->∃x:α,inv x/\∀j,j<es->W.cell? (a.add (i*es+j))=(el x)[j]?)->
 ∃l:List α,l.length=len/\(∀x∈l,inv x)/\∀i (hi:i<l.length),∀j,j<es->W.cell? (a.add (i*es+j))=(el l[i])[j]?
 |0,_=>⟨[],rfl,by simp,fun i hi=>by simp at hi⟩
 |n+1,h=>by
  obtain⟨l,h1,h2,h3⟩:=qlj n fun i hi=>h i (by omega);obtain⟨x,hx,hc⟩:=h n (by omega);refine⟨l++[x],by simp[h1],?_,fun i hi j hj=>?_⟩
  ·intro y hy
   rcases JI.1 hy with hy|hy
   ·exact h2 y hy
   ·rw[BD.1 hy];exact hx
  ·by_cases hin:i<l.length
   ·rw[List.getElem_append_left hin]
    exact h3 i hin j hj
   ·have e:i=n:=by simp at hi;omega
    subst e;have:(l++[x])[i]=x:=by rw[List.getElem_append_right (by omega)];simp
    rw[this];exact hc j hj
theorem qjT{el:α->List Value}{inv:α->Prop}{es:Nat}(hes:0<es)(hlen:∀x,(el x).length=es)(hlive:∀x,inv x->allLive ((el x).map qG)=true){b o cap:Nat}{l:List α}(hi:∀x∈l,inv x)(hcap:l.length<=cap)
 (hc:∀i (hi:i<l.length),∀j,j<es->W.cell? ((⟨b,o,none⟩:Addr).add (i*es+j))=(el l[i])[j]?):
 IsL W (fun _=>none) es (.slice (.base b) o l.length (.exact cap)) (l.map fun x=>(el x).map qG):=by
 have hw:∀x∈l.map (fun x=>(el x).map qG),x.length=es:=by
  intro x hx;obtain⟨y,_,rfl⟩:=JG.1 hx;rw[Jo,hlen]
 refine .mk _ _ _ _ _ (by rw[Jo]) hw ?_ (Yh.2 fun x hx=>by obtain⟨y,hy,rfl⟩:=JG.1 hx;exact hlive y (hi y hy)) hcap;apply List.ext_getElem?;intro q;by_cases hq:q<l.length*es
 ·rw[qan _ _ _ _ _ _ hq]
  have hm:q%es<es:=Nat.mod_lt _ hes;have hd:q / es<l.length:=Nat.div_lt_of_lt_mul (by rw[EJ];exact hq);have hqe:q=q / es*es+q%es:=by rw[EJ];exact(Nat.div_add_mod q es).symm
  have hcell:=hc (q / es) hd (q%es) hm;rw[<-hqe]at hcell;have ea:(⟨b,o,none⟩:Addr).add q=⟨b,o+q,none⟩:=by by_cases e:q=0<;>simp[Addr.add,e]
  rw[ea,Jz (by rw[hlen];exact hm)]at hcell;have h2:=qeW hw (i:=q / es) (j:=q%es) (by rw[Jo];exact hd) hm;rw[<-hqe]at h2;rw[h2,List.getD_eq_getElem?_getD,Eb,Jz hd,KH,Option.getD_some,Eb,Jz (by rw[hlen];exact hm),KH];have hlt:b<W.heap.size:=qjc hcell;simp only[AM.rd,hlt,if_true,hcell]
 ·rw[Kq (by rw[UJ];omega),Kq (by rw[XG hw,Jo];omega)]
theorem qlf{e t:TypeId}{es:Nat}{el:α->List Value}{inv:α->Prop}(R:RowOf P enc W e es el inv)(ht:P.underlying t=some (.slice e)){n:Nat}{cs:List Value}{y:DataW H×List MemPlace}(h:DataW.trod enc P W 0 (fun _=>true) true n t cs=some y):
 ∃(v:Value) (l:List α),cs=[v]/\IsL W (fun _=>none) es (qG v) (l.map fun x=>(el x).map qG)/\l.length<=9223372036854775807/\∀x∈l,inv x:=by
 rcases DataW.trod_slice ht h with⟨hcs,_⟩|⟨a,len,cap,elems,rest,n',_,hcs,_,_,hlc,hcm,hel,hcell,hspare,_⟩
 ·exact⟨_,[],hcs, .nil,by simp,by simp⟩
 ·have hlen:len<=9223372036854775807:=V5 hlc hcm
  have one:∀(m i:Nat) (q:Option (DataW H×List MemPlace)),(W.cells? 0 (a.add (i*P.cellsOf e)) (P.cellsOf e)).bind (DataW.trod enc P W 0 (fun _=>true) true m e)=q->q.isSome=true->∃x:α,inv x/\∀j,j<es->W.cell? (a.add (i*es+j))=(el x)[j]?:=by
   intro m i q hq hs;cases q with
   |none=>cases hs
   |some z=>
    rw[Option.bind_eq_some_iff]at hq;obtain⟨cs',hcs',hy⟩:=hq;obtain⟨x,rfl,hx⟩:=R.cell _ _ _ hy;rw[R.size]at hcs';refine⟨x,hx,fun j hj=>?_⟩;have:=(World.cells?_some hcs').2.2 j hj;rw[<-this];congr 1;obtain⟨ab,ao,asp⟩:=a;by_cases e1:i*es=0<;>by_cases e2:j=0<;>simp[Addr.add,e1,e2,Nat.add_assoc]
  obtain⟨l,l1,l2,l3⟩:=qlj (W:=W) (el:=el) (inv:=inv) (es:=es) (a:=a) len fun i hi=>one n' i _ (hcell i hi) (by rw[Jz (by omega)];rfl);have spot:∀(x:α),(∀j,j<es->W.cell? (a.add (0*es+j))=(el x)[j]?)->a.spot=none:=by
   intro x hx;have h0:=hx 0 R.pos;rw[Jz (by rw[R.len];exact R.pos)]at h0;have:=World.cell?_spot h0
   rwa [Addr.add,if_pos (by rw[Nat.zero_mul])]at this
  refine⟨.slice (some a) len cap,l,hcs,?_,by omega,l2⟩;subst l1;obtain⟨ab,ao,asp⟩:=a;by_cases hc0:cap=0
  ·have hl0:l=[]:=List.eq_nil_of_length_eq_zero (by omega)
   subst hl0;subst hc0;cases asp with
   |none=>exact qjT (l:=([]:List α)) (inv:=inv) R.pos R.len R.live (fun x hx=>by cases hx) (KJ _) fun i hi=>absurd hi (EH i)
   |some s=>exact qjT (l:=([]:List α)) (inv:=inv) R.pos R.len R.live (fun x hx=>by cases hx) (KJ _) fun i hi=>absurd hi (EH i)
  ·have hs:asp=none:=by
    by_cases hl0:l.length=0
    ·obtain⟨r1,r2⟩:=hspare rfl
     obtain⟨x,_,hx⟩:=one n' l.length _ (r2 0 (by omega)) (by rw[Jz (by omega)];rfl);rw[hl0]at hx;exact spot x hx
    ·exact spot _ (l3 0 (by omega))
   subst hs;exact qjT (inv:=inv) R.pos R.len R.live l2 hlc l3
end
end Go.AM
namespace Go.Proofs.YtlhhaagmakhilaaGreatDoor
open Go.AM
open Go.Cop
open Go.ChangeShapes Go.WideShapes Go.ChangeAt Go.RowKit
set_option maxRecDepth 100000
section
variable {H:Type} {enc:TypeId×Value->H} {W:World} {base:Nat} {v:Value} {x:DataW H×List MemPlace}
def kinV(b:UInt8):List Value:=[.int .u8 b.toNat]
theorem kinV_abs(l:List UInt8):(l.map fun e=>(kinV e).map qG)=l.map qdl:=rfl
theorem kin_row:RowOf Tryz.prog enc W 5 1 kinV (fun _=>True):=by
 refine⟨by kernel_rfl,by decide,fun _=>rfl,fun _ _=>rfl,fun n cs y h=>?_⟩;obtain⟨a,e0,_,w0⟩:=DataW.trod_int Tryz.underlying5 h;subst e0;obtain⟨a0,a1⟩:=wf_u8 w0;refine⟨KC a.toNat,?_,trivial⟩;unfold kinV;have:((KC a.toNat).toNat:Int)=a:=by
  rw[UInt8.toNat_ofNat',Nat.mod_eq_of_lt (by omega)];omega
 rw[this]
theorem qlt{n:Nat}{cs:List Value}{y:DataW H×List MemPlace}(h:DataW.trod enc Tryz.prog W 0 (fun _=>true) true n 23 cs=some y):
 ∃(v:Value) (l:List UInt8),cs=[v]/\IsL W (fun _=>none) 1 (qG v) (l.map qdl)/\l.length<=9223372036854775807:=by
 obtain⟨v',l,hcs,hL,hl,_⟩:=qlf kin_row Tryz.underlying23 h;rw[kinV_abs]at hL;exact⟨v',l,hcs,hL,hl⟩
def LisV(W:World)(q:List UInt8×Value):Prop:=IsL W (fun _=>none) 1 (qG q.2) (q.1.map qdl)/\q.1.length<=9223372036854775807
theorem list_row:RowOf Tryz.prog enc W 23 1 (fun q:List UInt8×Value=>[q.2]) (LisV W):=by
 refine⟨by kernel_rfl,by decide,fun _=>rfl,fun q hq=>?_,fun n cs y h=>?_⟩
 ·simp only[Kc,Vj,AM.allLive,hq.1.live,JS]
 ·obtain⟨v',l,hcs,hL,hl⟩:=qlt h
  exact⟨(l,v'),hcs,hL,hl⟩
theorem arg_L(h:∃fuel,DataW.trod enc Tryz.prog W 0 (fun _=>true) true fuel 23 v.cells.toList=some x)(hv:Value.okWide Tryz.prog W .any base 23 v):
 ∃(l:List UInt8) (y:AVal),VR (fun _=>none) y v/\IsL W (fun _=>none) 1 y (l.map qdl)/\l.length<=9223372036854775807:=by
 obtain⟨fuel,h2⟩:=h;obtain⟨a0,len0,cap0,rfl⟩:=okWide_slice Tryz.underlying23 hv;have h2':DataW.trod enc Tryz.prog W 0 (fun _=>true) true fuel 23 [.slice a0 len0 cap0]=some x:=h2;obtain⟨v',l,hcs,hL,hl⟩:=qlt h2';simp only[List.cons.injEq,and_true]at hcs;subst hcs;exact⟨l,_,qhG _ _,hL,hl⟩
theorem arg_Ls(h:∃fuel,DataW.trod enc Tryz.prog W 0 (fun _=>true) true fuel 24 v.cells.toList=some x)(hv:Value.okWide Tryz.prog W .any base 24 v):
 ∃(m:List (List UInt8)) (y:AVal),VR (fun _=>none) y v/\IsLs W (fun _=>none) y m/\m.length<=9223372036854775807/\∀z∈m,z.length<=9223372036854775807:=by
 obtain⟨fuel,h2⟩:=h;obtain⟨a0,len0,cap0,rfl⟩:=okWide_slice Tryz.underlying24 hv;have h2':DataW.trod enc Tryz.prog W 0 (fun _=>true) true fuel 24 [.slice a0 len0 cap0]=some x:=h2;obtain⟨v',l,hcs,hL,hl,hi⟩:=qlf list_row Tryz.underlying24 h2';simp only[List.cons.injEq,and_true]at hcs;subst hcs;refine⟨l.map (·.1),_,qhG _ _,⟨l.map fun q=>(q.1,qG q.2),?_,?_,?_⟩,by rw[Jo];exact hl,?_⟩
 ·rw[VT];rfl
 ·rw[VT];exact hL
 ·intro q hq
  obtain⟨z,hz,rfl⟩:=JG.1 hq;exact(hi z hz).1
 ·intro z hz
  obtain⟨q,hq,rfl⟩:=JG.1 hz;exact(hi q hq).2
end
end Go.Proofs.YtlhhaagmakhilaaGreatDoor
