/-
  Texts of this proof, joined: CtS, LwR, LwS, LwX, LwL.
  Conditions: none.
-/
import Derived.Test.YtlhhaagmakhilaaGreatDoorVe
import Derived.Test.YtlhhaagmakhilaaGreatDoorVd
import Derived.Test.YtlhhaagmakhilaaGreatDoorProg
import Derived.Test.YtlhhaagmakhilaaGreatDoorVb
import Derived.WalkKit
import Derived.ProofKit
import Derived.OpenShut
import Derived.ShutString
import Derived.ChangeOld
import Derived.Below
import Derived.Deep.Strs
import Derived.Handed
import Derived.HandedShaped
import Derived.Shelf.Vars
import Derived.Test.YtlhhaagmakhilaaGreatDoorRows
import Derived.Lib.LaidTab
import Derived.MakeChecks
set_option linter.unusedSimpArgs false
set_option linter.unnecessarySimpa false
set_option linter.unusedVariables false
open List renaming length_map->Jo,mem_map->JG,any_map->EC,getElem?_map->Eb,getElem?_eq_getElem->Jz,length->BP,length_take->K4,map_cons->Kc,map_nil->Vj,map_append->Ba,mem_append->JI,mem_singleton->BD,length_cons->KX,length_nil->J8,getD_cons_zero->VX,getD_cons_succ->Km,getElem?_eq_none->Kq,map_map->VT
open Nat renaming le_refl->KJ,zero_add->Jr,add_zero->K6,mul_one->BI,le_trans->V5,mul_comm->ED,zero_mul->K7,not_lt_zero->EE
open Go.AM.Slots renaming put->VM,keep->VN,get->VO
open Bool renaming or_eq_true->JV,or_eq_false_iff->VQ,and_eq_true->Kw,not_eq_true'->Ji,and_eq_false_iff->VP,not_eq_false'->VS,and_true->JS
open Go.AM.Sub renaming buf->BH,refl->Vl,trans->BJ
open Go.AM.IsL renaming buf->BF
open Int renaming toNat_natCast->Vq
open Go.AM.AHeap renaming set_none->V7,set_same->Vd
open Option renaming map_some->KH
open UInt8 renaming ofNat->KC
namespace Go.Proofs.YtlhhaagmakhilaaGreatDoor
open Go.AM
open Go.Proofs
open Go.Col (Str FaultC okF sp)
open Go.Tok
open Go.Cop
open Go.RowKit (Below)
set_option maxRecDepth 100000
abbrev RsC:=List (List UInt8×List UInt8)
def Uw(r:RsC):List RepC:=r.map fun q=>⟨lOf q.1,lOf q.2⟩
def qaM(r:RsC):List RepC:=r.map fun q=>⟨lOf q.1,lOf q.1⟩
def qaI(r:RsC):Bool:=r.any fun q=>decide (lOf q.1=[])
theorem push2{B:AHeap}{sb pb tb:Option Buf}(sok:bufOk B 2 sb)(pok:bufOk (Qv B sb) 2 pb)(tok:bufOk (Qv (Qv B sb) pb) 5 tb):
 Qv (Qv (Qv B sb) pb) tb=Qv (Qv (Qv B tb) sb) pb/\bufOk B 5 tb/\bufOk (Qv B tb) 2 sb/\bufOk (Qv (Qv B tb) sb) 2 pb:=by
 obtain⟨a1,a2,a3⟩:=qgH pok tok;obtain⟨b1,b2,b3⟩:=qgH sok a2;rw[b1]at a1 a3;exact⟨a1,b2,b3,a3⟩
structure RlG where
 i:Nat
 B:AHeap
 sb:Option Buf
 pb:Option Buf
 ps:List RepQ
 ss:List RepQ
structure RlOk(wz:World)(h:AHeap)(r:RsC)(s:RlG):Prop where
 sub:Sub h s.B
 sok:bufOk s.B 2 s.sb
 pok:bufOk (Qv s.B s.sb) 2 s.pb
 seq:Ws s.sb=(s.ss.map UC).flatten
 peq:Ws s.pb=(s.ps.map UC).flatten
 ps:s.ps.map (·.1)=Uw r
 ss:s.ss.map (·.1)=qaM r
 pq:∀q∈s.ps,RepOk wz s.B q
 sq:∀q∈s.ss,RepOk wz s.B q
def qnL:TwoQ:=(([], .nilSlice),[], .nilSlice)
section
variable {wz:World} {h:AHeap} {v:AVal}
theorem two_len{qs:List TwoQ}(hv:IsL wz h 2 v (qs.map qmy)):∀H:AHeap,Yn Tryz.prog H 42 v=⟨True, .int .i64 qs.length⟩:=by
 have:=hv.len Tryz.underlying42
 rwa [Jo]at this
theorem qsD{qs:List TwoQ}(hv:IsL wz h 2 v (qs.map qmy))(hn:0<qs.length):∃lc o c,v= .slice lc o qs.length c:=by
 obtain⟨lc,o,c,e⟩:=hv.open (fun e=>by rw[List.map_eq_nil_iff]at e;subst e;simp at hn);rw[Jo]at e;exact⟨lc,o,c,e⟩
theorem qsE{qs:List TwoQ}{lc:AM.Loc}{o:Nat}{c:Cap}(hv:IsL wz h 2 (.slice lc o qs.length c) (qs.map qmy)){i:Nat}(hi:i<qs.length):rd wz h lc (o+i*2)=(qs.getD i qnL).1.2/\rd wz h lc (o+i*2+1)=(qs.getD i qnL).2.2:=by
 have he:=hv.elem (i:=i) (by rw[Jo];exact hi);rw[getD_map qnL hi]at he;simp only[qf,qmy,List.cons.injEq,and_true]at he;exact he
end
theorem rs_lens{r:RsC}(h4:∀q∈r,q.1.length<=4/\q.2.length<=4):(∀x∈Uw r,x.new.length<=56)/\∀x∈qaM r,x.new.length<=56:=by
 constructor
 ·intro x hx
  obtain⟨q,hq,rfl⟩:=JG.1 hx;have:=(qlE q.2).1;have:=(h4 q hq).2;simp only;omega
 ·intro x hx
  obtain⟨q,hq,rfl⟩:=JG.1 hx;have:=(qlE q.1).1;have:=(h4 q hq).1;simp only;omega
theorem qek(r:RsC):(Uw r).any (fun x=>decide (x.old=[]))=qaI r:=by
 unfold Uw qaI;rw[EC];rfl
theorem qjn(r:RsC):(qaM r).any (fun x=>decide (x.old=[]))=qaI r:=by
 unfold qaM qaI;rw[EC];rfl
theorem qjo{rs:List RepC}(h:rs.any (fun x=>decide (x.old=[]))=false):∀x∈rs,x.old≠[]:=by
 intro x hx;rw[List.any_eq_false]at h;have:=h x hx;simpa using this
theorem qmG{l:List TokC}{rs:List RepC}(hl:l.length<=840)(h0:rs.any (fun x=>decide (x.old=[]))=false)(h56:∀x∈rs,x.new.length<=56):UF l rs=(WB rs l,0)/\(WB rs l).length<=47040:=by
 have:=qiH (qjo h0) (k:=56) (by omega) h56 l.length l (KJ _);have h2:(WB rs l).length<=47040:=by omega
 unfold UF;rw[h0,if_neg (by decide),if_neg (by omega)];exact⟨rfl,h2⟩
theorem qrg{l:List TokC}{rs:List RepC}(h0:rs.any (fun x=>decide (x.old=[]))=true):UF l rs=([],1):=by
 unfold UF;rw[h0,if_pos rfl]
set_option maxHeartbeats 4000000 in
theorem l_CopiesReplace(wz:World)(hm:MaxL wz)(h:AHeap)(v:AVal)(x:List UInt8)(hx:IsL wz h 1 v (x.map qcj))(hx63:x.length<=9223372036854775807)(w:AVal)(r:RsC)(hrs:IsRs wz h w r)(hr0:r.length<=9223372036854775807)(hr63:∀y∈r,y.1.length<=9223372036854775807/\y.2.length<=9223372036854775807):
 ACall Tryz.prog wz 4 [v,w] h (fun r _=>r= .bool true):=by
 refine ACall.mono (R:=fun r h'=>r= .bool true/\h'=h) ?_ fun r h' hr=>hr.1;have hlv:=hx.live;have hlen:=hx.len Tryz.underlying23;rw[Jo]at hlen;obtain⟨qs,hmq,hq1,hq2⟩:=hrs;have hwv:=hq1.live;have hqm:qs.length=r.length:=by rw[hmq,Jo]
 have hwlen:=two_len hq1;have hz0:Int.toNat 0=0:=rfl;have hz1:Int.toNat 1=1:=rfl;refine qP (n:=130) (rs:=[.tmp 4]) Tryz.func4 rfl rfl rfl rfl (Nat.le_of_ble_eq_true rfl) ?_;simp only[Qd];refine awp_rseq [0,1] (by rfl) fun K hK=>?_;simp+decide only[qa,ev,qH,qF,putD,VM,VN,Ka,true_and,↓qd,qb,Jr];apply hK;clear hK K;refine qL ?_;refine awp_rseq [0,1,22] (by rfl) fun K hK=>?_;simp+decide only[qa,ev,qH,qF,putD,VM,VO,VN,Ka,true_and,↓qh,qc,↓Xt,QD,↓qA,ql,qC,cond_false,qp,UE,↓Xe,agP,Qt,qJ,qI,Qe,implies_true,↓qaW,qel,qem,↓Xb,XZ,Za,↓QR,Qs,Qg,XO,ZF,hlen,hwlen];apply hK;clear hK K;refine qK (b:=_) rfl (fun hb1=>?_) (fun hb1=>?_)
 ·try simp only[decide_eq_true_eq,JV]at hb1
  refine awp_rseq [4] (by rfl) fun K hK=>?_;refine qM (V:= .bool true) (by rfl) (by rfl) (qeU wz hm _) ?_;simp+decide only[qa,ev,putD,VM,VO,VN,Ka,true_and,↓qd,qb];apply hK;clear hK K;refine qN ?_;try simp only[Qf]
  refine qW h zqC (qR (Qa)) ?_;simp+decide only[VO,if_true,and_true,Ql];all_goals first|rfl|exact⟨rfl,rfl⟩|(simp+decide only[Ka, *];done)|(trace_state;fail)
 ·try simp only[decide_eq_false_iff_not,VQ]at hb1
  have hxl:x.length<=30:=by omega
  have hml:r.length<=4:=by omega
  refine qV ?_;change Awp _ _ _ _ _ _ _;refine awp_rseq [1,5] (by rfl) fun K hK=>?_;simp+decide only[ev,putD,VM,VO,Ka,true_and,↓qh,qc];refine QO (by rfl) (by rfl) (qoZ wz _ v x hx hx63) fun x3q1 h3q1 hx3q1=>?_;obtain⟨tb,hxe,o1,o2,o3⟩:=hx3q1;subst hxe;have hs3:Sub h h3q1:=by rw[o3];exact BH o1
  have hlist:IsL wz h3q1 5 (QH 5 tb) ((lOf x).map QJ):=by rw[o3];exact BF o1 (by decide) o2 Xj (Vl _)
  have htl:=QY 5 tb;have hll:=(qlE x).2;generalize hl0:lOf x=l at hlist hll o2;have hs_h3q1:Sub h h3q1:=BJ zqC hs3;have hr_h3q1:=hs_h3q1;simp+decide only[qa,ev,putD,VM,VO,VN,Ka,true_and,↓qd,qb];apply hK;clear hK K;refine awp_rseq [1,5,6,7] (by rfl) fun K hK=>?_;simp+decide only[qa,ev,qH,qF,putD,VM,VN,Ka,true_and,↓qd,qb];apply hK;clear hK K;refine awp_rseq [1,5,6,7,8] (by rfl) fun K hK=>?_;simp+decide only[qa,ev,qH,qF,putD,VM,VN,Ka,true_and,↓qd,qb];apply hK;clear hK K;refine qL ?_;refine awp_rseq [1,5,6,7,8,9] (by rfl) fun K hK=>?_;simp+decide only[qa,ev,qH,qF,putD,VM,VN,Ka,true_and,↓qd,qb];apply hK;clear hK K;refine Qp ?_;refine XE [1,5,6,7,8,9] (fun s:RlG=>[(1,w),(5,QH 5 tb),(6,QH 2 s.pb),(7,QH 2 s.sb),(8, .bool (qaI (r.take s.i))),(9, .int .i64 s.i)]) (fun s:RlG=>Qv (Qv s.B s.sb) s.pb) (fun s:RlG=>s.i<=qs.length/\RlOk wz h3q1 (r.take s.i) s/\∀q∈r.take s.i,q.1.length<=4/\q.2.length<=4) (fun s:RlG=>qs.length-s.i) ⟨0,h3q1,none,none,[],[]⟩ (by rfl) (Vl _) ⟨Nat.zero_le _,⟨Vl _,trivial,trivial,rfl,rfl,rfl,rfl,fun q hq=>(by cases hq),fun q hq=>(by cases hq)⟩,fun q hq=>(by cases hq)⟩ ?_;rintro⟨i,B,sb,pb,ps,ss⟩ ⟨g1,⟨g2,g3,g4,g5,g6,g7,g8,g9,g10⟩,g11⟩;simp only at g1 g2 g3 g4 g5 g6 g7 g8 g9 g10 g11|-
  have hpl:=QY 2 pb;have hsl:=QY 2 sb;refine qL ?_;refine awp_rseq [1,5,6,7,8,9,29] (by rfl) fun K hK=>?_;simp+decide only[qa,ev,putD,VM,VO,VN,Ka,true_and,↓qh,qc,↓Xt,QD,↓qA,ql,qZ,cond_false,qp,Zc,hwlen];apply hK;clear hK K;refine qK (b:=_) rfl (fun hb2=>?_) (fun hb2=>?_)
  ·try simp only[decide_eq_true_eq]at hb2
   have hi:i<qs.length:=by omega
   obtain⟨lc,o,c,hwe⟩:=qsD hq1 (by omega);obtain⟨y,hy⟩:∃y,y=qs.getD i qnL:=⟨_,rfl⟩
   have hym:y∈qs:=by rw[hy];exact qcF qnL hi
   have hs0:Sub h (Qv (Qv B sb) pb):=((hs3.trans g2).trans (BH g3)).trans (BH g4);have hq1':=hq1.mono hs0;rw[hwe]at hq1';obtain⟨he1,he2⟩:=qsE hq1' hi;rw[<-hy]at he1 he2;obtain⟨hyv,hzv⟩:=hq2 y hym;have hyl:=hyv.live;have hzl:=hzv.live;have hyn:=hyv.len Tryz.underlying23;have hzn:=hzv.len Tryz.underlying23;rw[Jo]at hyn hzn;obtain⟨hy63,hz63⟩:y.1.1.length<=9223372036854775807/\y.2.1.length<=9223372036854775807:=hr63 (y.1.1,y.2.1) (by rw[hmq];exact List.mem_map_of_mem hym);have htk:r.take (i+1)=r.take i++[(y.1.1,y.2.1)]:=by
    rw[List.take_add_one,hmq,Eb,Jz hi,hy,List.getD,Jz hi];rfl
   refine qV ?_;change Awp _ _ _ _ _ _ _;refine qL ?_;refine Qp ?_;refine qL ?_;refine awp_rseq [1,5,6,7,8,9,47] (by rfl) fun K hK=>?_;simp+decide only[qa,ev,qH,qF,putD,VM,VO,VN,Ka,true_and,↓qh,qc,↓QN,Qb,Qh Tryz.underlying42 sz44,qbD Tryz.underlying44 sz23,↓qG,qz ag23,↓Xt,QD,↓qA,ql,qC,cond_false,qp,UE,↓Xe,agP,Qt,qJ,qI,Qe,implies_true,↓Yh,Zd,Ud,agL_il2,agL_ir2,↓Zy,qce,↓qaW,qel,qem,↓Xb,XZ,Za,↓QR,Qs,Qg,XO,ZF,hwe,he1,he2,hyl,hzl,hyn,hzn,Vq,K6,hz0,hz1,BI];repeat (with_reducible refine And.intro ?_ ?_;· first|trivial|omega|(intro hg;simp only[Kw,JV,Ji,VP,VQ,VS,decide_eq_true_eq,decide_eq_false_iff_not,XT]at hg;omega))
   apply hK;clear hK K;refine qK (b:=_) rfl (fun hb3=>?_) (fun hb3=>?_)
   ·try simp only[decide_eq_true_eq,JV]at hb3
    refine awp_rseq [4] (by rfl) fun K hK=>?_;refine qM (V:= .bool true) (by rfl) (by rfl) (qeU wz hm _) ?_;simp+decide only[qa,ev,putD,VM,VO,VN,Ka,true_and,↓qd,qb];apply hK;clear hK K;refine qN ?_;try simp only[Qf,Qu]
    refine qW h zqC (qR (Qa)) ?_;simp+decide only[VO,if_true,and_true,Ql];all_goals first|rfl|exact⟨rfl,rfl⟩|(simp+decide only[Ka, *];done)|(trace_state;fail)
   ·try simp only[decide_eq_false_iff_not,VQ]at hb3
    have h4:y.1.1.length<=4/\y.2.1.length<=4:=by omega
    refine qV ?_;change Awp _ _ _ _ _ _ _;refine awp_rseq [1,5,6,7,8,9,10] (by rfl) fun K hK=>?_;simp+decide only[ev,qH,qF,putD,VM,VO,Ka,true_and,↓qh,qc,↓QN,Qb,Qh Tryz.underlying42 sz44,qbD Tryz.underlying44 sz23,↓qG,qz ag23,he1,hyl,Vq,K6,hz0,BI];repeat (with_reducible refine And.intro ?_ ?_;· first|trivial|omega|(intro hg;simp only[Kw,JV,Ji,VP,VQ,VS,decide_eq_true_eq,decide_eq_false_iff_not,XT]at hg;omega))
    refine QO (by rfl) (by rfl) (qoZ wz _ _ y.1.1 (hyv.mono hs0) hy63) fun x11q5 h11q5 hx11q5=>?_;obtain⟨t1,hxe,p1,p2,p3⟩:=hx11q5;subst hxe;have hs11:Sub (Qv (Qv B sb) pb) h11q5:=by rw[p3];exact BH p1
    obtain⟨e1,e2,e3,e4⟩:=push2 g3 g4 p1;have ht1:=QY 5 t1;have hs_h11q5:Sub h h11q5:=BJ zqC hs11;have hr_h11q5:=hs_h11q5;simp+decide only[qa,ev,putD,VM,VO,VN,Ka,true_and,↓qd,qb];apply hK;clear hK K;have hh11:h11q5=Qv (Qv (Qv B t1) sb) pb:=p3.trans e1;obtain⟨he1',he2'⟩:=qsE (by rw[<-hwe];exact hq1.mono (hs0.trans hs11)) hi;rw[<-hy]at he1' he2';refine awp_rseq [1,5,6,7,8,9,10] (by rfl) fun K hK=>?_;simp+decide only[ev,qH,qF,putD,VM,VO,Ka,true_and,↓qh,qc,↓QN,Qb,Qh Tryz.underlying42 sz44,qbD Tryz.underlying44 sz23,↓qG,qz ag23,he2',hzl,Vq,hz1,BI];repeat (with_reducible refine And.intro ?_ ?_;· first|trivial|omega|(intro hg;simp only[Kw,JV,Ji,VP,VQ,VS,decide_eq_true_eq,decide_eq_false_iff_not,XT]at hg;omega))
    refine QO (by rfl) (by rfl) (qoZ wz _ _ y.2.1 (hzv.mono (hs0.trans hs11)) hz63) fun x12q7 h12q7 hx12q7=>?_;obtain⟨t2,hxe,r1,r2,r3⟩:=hx12q7;subst hxe;have hs12:Sub h11q5 h12q7:=by rw[r3];exact BH r1
    rw[hh11]at r1 r3;obtain⟨f1,f2,f3,f4⟩:=push2 e3 e4 r1;have hh12:h12q7=Qv (Qv (Qv (Qv B t1) t2) sb) pb:=r3.trans f1;have ht2:=QY 5 t2;have hc1:=WF 5 t1;have hc2:=WF 5 t2;have hC1:=qpT 5 t1;have hC2:=qpT 5 t2;have hpsl:ps.length<=4:=by
     have:=congrArg BP g7;rw[Jo,Uw,Jo,K4]at this;omega
    have hssl:ss.length<=4:=by
     have:=congrArg BP g8;rw[Jo,qaM,Jo,K4]at this;omega
    have hs_h12q7:Sub h h12q7:=BJ zqC hs12;have hr_h12q7:Sub h11q5 h12q7:=BJ zqC hs12;simp+decide only[ev,qH,qF,putD,VM,VO,Ka,true_and,↓Qr,↓qY,qhr,evP,Kc,Vj,hC1,hC2];refine Qn (cs:=[QH 5 t1,QH 5 t2]) (by rfl) fun k12q9 hk12q9=>?_;have hn_12q9:h12q7 k12q9=none:=by first|assumption|(simp only[V7]at hk12q9;simp only[hk12q9])
    have hf_12q9:h k12q9=none:=Sub.none hs_h12q7 hn_12q9;refine Xw (es:=2) (zs:=ps.map UC) (xs:=[[QH 5 t1,QH 5 t2]]) (hZ:=Qv (Qv (Qv B t1) t2) sb) (b:=pb) (by rfl) (by rfl) Tryz.underlying43 Tryz.underlying43 (fun k e=>by cases e) qcr by46 qpY (by rfl) (by decide) (by rfl) f4 g6 qat (by rw[<-hh12];exact Sub.set (by assumption)) (by rfl) (IsL.own (Vd _ _ _) (by simp) (by rfl) (by simp[AM.allLive,ht1,ht2]) (.exact 1) (KJ _)) (by simp[QG,hc1,hc2]) (by simp;omega) (by simp;omega) fun pb2 h12 q1 q2 q3=>?_;obtain⟨u1,u2,u3⟩:=qgH f3 q1;have hpl2:=QY 2 pb2;simp+decide only[qa,ev,putD,VM,VO,VN,Ka,true_and,↓qd,qb];apply hK;clear hK K;have hs_h12:Sub h h12:=((((hs3.trans g2).trans (BH e2)).trans (BH f2)).trans (BH f3)).trans ((BH q1).trans q3);refine awp_rseq [1,5,6,7,8,9,10] (by rfl) fun K hK=>?_;simp+decide only[ev,qH,qF,putD,VM,VO,Ka,true_and,↓qh,qc,↓Qr,↓qY,qhr,evP,Kc,Vj,hC1];refine Qn (cs:=[QH 5 t1,QH 5 t1]) (by rfl) fun k13q4 hk13q4=>?_;have hn_13q4:h12 k13q4=none:=by first|assumption|(simp only[V7]at hk13q4;simp only[hk13q4])
    have hf_13q4:h k13q4=none:=Sub.none hs_h12 hn_13q4;refine Xw (es:=2) (zs:=ss.map UC) (xs:=[[QH 5 t1,QH 5 t1]]) (hZ:=Qv (Qv (Qv B t1) t2) pb2) (b:=sb) (by rfl) (by rfl) Tryz.underlying43 Tryz.underlying43 (fun k e=>by cases e) qcr by46 qpY (by rfl) (by decide) (by rfl) u3 g5 qat (by rw[<-u1];exact q3.trans (Sub.set (by assumption))) (by rfl) (IsL.own (Vd _ _ _) (by simp) (by rfl) (by simp[AM.allLive,ht1]) (.exact 1) (KJ _)) (by simp[QG,hc1]) (by simp;omega) (by simp;omega) fun sb2 h13 x1 x2 x3=>?_;obtain⟨y1,y2,y3⟩:=qgH u2 x1;rw[y1]at x3;have hsl2:=QY 2 sb2;have hold:IsL wz (Qv (Qv B t1) t2) 5 (QH 5 t1) ((lOf y.1.1).map QJ):=BF e2 (by decide) p2 Xj (BH f2);have hnew:IsL wz (Qv (Qv B t1) t2) 5 (QH 5 t2) ((lOf y.2.1).map QJ):=BF f2 (by decide) r2 Xj (Vl _);have holn:=Ze hold;have hsB:Sub B (Qv (Qv B t1) t2):=(BH e2).trans (BH f2);have hem:qaI (r.take (i+1))=(qaI (r.take i)||decide (lOf y.1.1=[])):=by
     rw[htk];simp[qaI]
    simp+decide only[qa,ev,putD,VM,VO,VN,Ka,true_and,↓qd,qb];apply hK;clear hK K;have hs_h13:Sub h h13:=((((hs3.trans g2).trans (BH e2)).trans (BH f2)).trans (BH y2)).trans ((BH y3).trans x3);refine XL [1,5,6,7,8,9] (by rfl) ?_;simp+decide only[qa,ev,qH,qF,putD,VM,VO,VN,Ka,true_and,↓qh,qc,↓Xe,agP,Qt,qJ,qI,Qe,implies_true,↓qaW,QD,qel,qem,↓Xb,ql,qC,cond_false,XZ,Za,qp,XH,↓QR,Qs,Qg,XO,ZF,↓qd,qb,holn];change Awp _ _ _ _ _ _ _;refine XL [1,5,6,7,8,9] (by rfl) ?_;simp+decide only[qa,ev,qH,qF,putD,VM,VO,VN,Ka,true_and,↓qh,qc,↓qA,ql,qC,cond_false,qp,Xc,↓qd,qb];try simp(disch:=omega)only[wrap_i64]
    try simp only[Qi]
    refine⟨⟨i+1,Qv (Qv B t1) t2,sb2,pb2,ps++[(⟨lOf y.1.1,lOf y.2.1⟩,QH 5 t1,QH 5 t2)],ss++[(⟨lOf y.1.1,lOf y.1.1⟩,QH 5 t1,QH 5 t1)]⟩,(by rw[hwe,hem];cases qaI (r.take i)<;>simp[List.length_eq_zero_iff]<;>rfl),x3,⟨hi,⟨g2.trans hsB,y2,y3,by rw[x2,Ba];rfl,by rw[q2,Ba];rfl,by rw[Ba,g7,htk];simp[Uw],by rw[Ba,g8,htk];simp[qaM],fun q hq=>?_,fun q hq=>?_⟩,fun q hq=>?_⟩,by simp only;omega⟩
    ·rcases JI.1 hq with z|z
     ·exact(g9 q z).mono hsB
     ·obtain rfl:=BD.1 z
      exact⟨hold,hnew⟩
    ·rcases JI.1 hq with z|z
     ·exact(g10 q z).mono hsB
     ·obtain rfl:=BD.1 z
      exact⟨hold,hold⟩
    ·rw[htk]at hq
     rcases JI.1 hq with z|z
     ·exact g11 q z
     ·obtain rfl:=BD.1 z
      exact h4
  ·try simp only[decide_eq_false_iff_not]at hb2
   have hri:r.take i=r:=List.take_of_length_le (by omega);rw[hri]at g7 g8 g11|-
   obtain⟨hl1,hl2⟩:=rs_lens g11;have hs15:Sub h (Qv (Qv B sb) pb):=((hs3.trans g2).trans (BH g3)).trans (BH g4);have hBs:Sub B (Qv (Qv B sb) pb):=(BH g3).trans (BH g4);have hrp:IsReps wz (Qv (Qv B sb) pb) (QH 2 pb) (Uw r):=⟨ps,g7.symm,BF g4 (by decide) g6 qat (Vl _),fun q hq=>(g9 q hq).mono hBs⟩
   have hrq:IsReps wz (Qv (Qv B sb) pb) (QH 2 sb) (qaM r):=⟨ss,g8.symm,BF g3 (by decide) g5 qat (BH g4),fun q hq=>(g10 q hq).mono hBs⟩
   have hl15:=hlist.mono (g2.trans hBs);have hpn:(Uw r).length<=4:=by rw[Uw,Jo];exact hml
   have hsn:(qaM r).length<=4:=by rw[qaM,Jo];exact hml
   refine XJ ?_;change Awp _ _ _ _ _ _ _;refine awp_rseq [5,6,7,8,11,12] (by rfl) fun K hK=>?_;simp+decide only[ev,putD,VM,VO,Ka,true_and,↓qh,qc];refine QO (by rfl) (by rfl) (qcn wz _ (QH 5 tb) (QH 2 pb) l (Uw r) hl15 hrp (by omega) (by omega) (fun q hq=>V5 (hl1 q hq) (by omega))) fun x15q2 h15q2 hx15q2=>?_;obtain⟨ov,rfl,hO⟩:=hx15q2;obtain⟨hg1,hgc,hs15b⟩:=hO.toks (wz:=wz);have hgl:=hg1.live;have hgn:=Ze hg1;have hgcap:=capL_cap hg1 hgc Tryz.underlying26;rw[Jo]at hgcap;have hs_h15q2:Sub h h15q2:=BJ zqC hs15b;have hr_h15q2:=hs_h15q2;simp+decide only[qa,ev,putD,VM,VO,VN,Ka,true_and,↓qh,qc,↓QV,QI,QT,KX,J8,VX,Km,↓qd,qb,VX,Km,Jr,Nat.reduceAdd];apply hK;clear hK K;refine qL ?_;refine awp_rseq [5,6,7,11,12,84] (by rfl) fun K hK=>?_;simp+decide only[qa,ev,putD,VM,VO,VN,Ka,true_and,↓qh,qc];apply hK;clear hK K;refine qK (b:=_) rfl (fun hb4=>?_) (fun hb4=>?_)
   ·skip
    have hR:=qrg (l:=l) (rs:=Uw r) (by rw[qek];exact hb4);refine awp_rseq [4] (by rfl) fun K hK=>?_;simp+decide only[ev,qH,qF,putD,VM,VO,Ka,true_and,↓qh,qc,↓qA,ql,qC,cond_false,qp,XH,↓Xe,agP,Qt,qJ,qI,qy,implies_true,decide_true,Qy,JS,↓qaW,QD,↓Xb,↓QR,Qs,Qg,Xp,JS,hR,hgn,J8]
    (refine ZY (by rfl) ?_;refine qM (V:= .bool true) (by rfl) (by rfl) (qeU wz hm _) ?_)
    simp+decide only[qa,ev,qH,qF,putD,VM,VO,VN,Ka,true_and,↓QR,Qs,Qg,Xp,↓qd,qb,JS];apply hK;clear hK K;refine qN ?_;try simp only[Qf]
    refine qW h zqC (qR (Qa)) ?_;simp+decide only[VO,if_true,and_true,Ql];all_goals first|rfl|exact⟨rfl,rfl⟩|(simp+decide only[Ka, *];done)|(trace_state;fail)
   ·skip
    have hem0:qaI r=false:=by simpa using hb4
    obtain⟨hR,hRl⟩:=qmG hll (by rw[qek];exact hem0) hl1;obtain⟨hS,hSl⟩:=qmG hll (by rw[qjn];exact hem0) hl2;refine qV ?_;change Awp _ _ _ _ _ _ _;refine awp_rseq [5,6,11,12,13,14] (by rfl) fun K hK=>?_;simp+decide only[ev,putD,VM,VO,Ka,true_and,↓qh,qc];refine QO (by rfl) (by rfl) (qcn wz _ (QH 5 tb) (QH 2 sb) l (qaM r) (hl15.mono hs15b) (hrq.mono hs15b) (by omega) (by omega) (fun q hq=>V5 (hl2 q hq) (by omega))) fun x18q2 h18q2 hx18q2=>?_;obtain⟨av,rfl,hO2⟩:=hx18q2;obtain⟨ha1,hac,hs18b⟩:=hO2.toks (wz:=wz);have hal:=ha1.live;have hs_h18q2:Sub h h18q2:=BJ zqC hs18b;have hr_h18q2:Sub h15q2 h18q2:=BJ zqC hs18b;simp+decide only[qa,ev,putD,VM,VO,VN,Ka,true_and,↓qh,qc,↓QV,QI,QT,KX,J8,VX,Km,↓qd,qb,VX,Km,Jr,Nat.reduceAdd];apply hK;clear hK K;refine awp_rseq [4] (by kernel_rfl) fun K hK=>?_;simp+decide only[ev,qH,qF,putD,VM,VO,Ka,true_and,↓qh,qc,↓qA,ql,qC,cond_false,qp,XH,↓Xe,agP,Qt,qJ,qI,qy,implies_true,decide_true,Qy,JS,↓Xb,↓QR,Qs,Qg,Xp,JS,hR,hS];refine ZY (by rfl) ?_;refine QO (by rfl) (by rfl) (qnz wz (Uw r) (qjo (by rw[qek];exact hem0)) (by omega) l.length _ (QH 5 tb) (QH 2 pb) l rfl (by omega) (by omega) (hl15.mono (hs15b.trans hs18b)) (hrp.mono (hs15b.trans hs18b))) fun x19q10 h19q10 hx19q10=>?_;obtain⟨hw1,hs19b⟩:=hx19q10;have hwl:=hw1.live;rw[hR]at hg1;rw[hS]at ha1;have hsame:qaZ (WB (qaM r) l) l=true:=by
     rw[qfk];refine qgT (qjo (by rw[qjn];exact hem0)) (fun q hq=>?_) l.length l (KJ _);obtain⟨z,_,rfl⟩:=JG.1 hq;rfl
    have hs_h19q10:Sub h h19q10:=BJ zqC hs19b;have hr_h19q10:Sub h18q2 h19q10:=BJ zqC hs19b;try simp+decide only[putD,VM,if_false]
    (refine ZY (by rfl) ?_;refine qM (V:= .int .i64 0) (by rfl) (by rfl) (qsf wz _ ov x19q10 (WB (Uw r) l) (hg1.mono (hs18b.trans hs19b)) hw1 (by omega)) ?_)
    simp+decide only[ev,qH,qF,putD,VM,VO,Ka,true_and,qJ,qy,↓Xb,ql,agP,Qt,qI,implies_true,decide_true,Qy,JS,qC,cond_false,qp,XH,↓QR,Qs,Qg,Xp,↓qh,qc,↓Xe,↓ag_cap,pop_cap,↓qaW,QD,qZ,JS,hgn,hgcap,hR]
    (refine ZY (by rfl) ?_;refine qM (V:= .bool true) (by rfl) (by rfl) (by rw[<-hsame];exact c_Same wz _ av (QH 5 tb) (WB (qaM r) l) l (ha1.mono hs19b) (hl15.mono ((hs15b.trans hs18b).trans hs19b)) (by omega)) ?_)
    simp+decide only[ev,qH,qF,putD,VM,VO,Ka,true_and,↓QR,Qs,Qg,Xp,↓qh,qc,JS]
    (refine ZY (by rfl) ?_;refine qM (V:= .bool true) (by rfl) (by rfl) (qeU wz hm _) ?_)
    simp+decide only[qa,ev,qH,qF,putD,VM,VO,VN,Ka,true_and,↓QR,Qs,Qg,Xp,↓qd,qb,JS];apply hK;clear hK K;refine qN ?_;refine qW h zqC (qR (Qa)) ?_;simp+decide only[VO,if_true,and_true,Ql];all_goals first|rfl|exact⟨rfl,rfl⟩|(simp+decide only[Ka, *];done)|(trace_state;fail)
end Go.Proofs.YtlhhaagmakhilaaGreatDoor
namespace Go.Proofs.YtlhhaagmakhilaaGreatDoor
open Go.AM
open Go.ChangeShapes Go.WideShapes Go.ChangeAt Go.RowKit
set_option maxRecDepth 100000
section
variable {H:Type} {enc:TypeId×Value->H} {W:World} {base:Nat} {v:Value} {x:DataW H×List MemPlace}
end
theorem returns_and_shaped{H:Type}{enc:TypeId×Value->H}{a:Assume}{C:Checked}{os:Os}{f:FuncId}{fn:Func}{s:ChangeSpec}{conds:List PathCond}{apart fresh handsOn again:Bool}{X:World->Array Value->Prop}
 (hX:∀(w w':World) (args:Array Value),w.heap=w'.heap->X w args->X w' args)
 (own:ownKnob C.prog.godebug=none) (started:os.Started) (noInit:C.prog.inits.idxOf? f=none) (hfn:C.prog.funcs[f]?=some fn)
 (witness:∃(w:World) (tape:Tape) (i:Input),w.os=os/\(w.forCall tape i).Shaped C.prog/\i.vars=[]/\Input.okWide C.prog (w.forCall tape i) .any w.heap.size f i/\
   ((s.pre enc C.prog fn conds apart (w.forCall tape i).memory i.args/\X (w.forCall tape i).memory i.args)/\sizedMet enc C.prog fn (OpenSpec.ofChange s) apart (w.forCall tape i).memory i.args)/\a.holds C.prog (lone (Frame.enter C.prog f i.args .normal) [] (w.forCall tape i)))
 (contract:∀(W:World) (base:Nat) (args:Array Value) (ds gs:List (DataW H)) (before:List MemPlace),W.ShapedOpen C.prog->
   (∀(j:Nat) t v,fn.params[j]?=some t->args[j]?=some v->Value.okWide C.prog W .any base t v)->
   DataW.Whole enc C.prog fn.params.toList s.vars apart W args.toList ds gs before->
   conds.all (PathCond.test C.prog ⟨fn.params.toList,ds,s.plain.varTypes C.prog,gs⟩)=true->
   (DataW.weightsEach C.prog (fn.params.toList++s.plain.varTypes C.prog) (ds++gs)).all (· <=reachBytes)=true->X W args->
   a.holds C.prog (lone (Frame.enter C.prog f args .normal) [] W)->
   Calls C.prog f args W fun e W'=>∃v,e= .returned v/\s.post enc C.prog fn apart fresh handsOn again W args v W'):
 ReturnsInHanded a C os f .any (fun w args=>(s.pre enc C.prog fn conds apart w args/\X w args)/\sizedMet enc C.prog fn (OpenSpec.ofChange s) apart w args) (s.post enc C.prog fn apart fresh handsOn again):=by
 refine returnsInHanded_of_calls own started noInit witness ?_;intro w tape i _ hsh _ hok hpre hholds;obtain⟨_,_,_,fn',hfn',_,_,_,_,hval⟩:=hok;have e:fn'=fn:=Option.some.inj (hfn'.symm.trans hfn);subst e;obtain⟨⟨⟨ds,gs,before,hw,hc⟩,hx⟩,hz⟩:=hpre;have hw':=DataW.Whole.of_heap (w':=w.forCall tape i) (by rfl) hw;refine(contract (w.forCall tape i) w.heap.size i.args ds gs before hsh hval hw' hc (hz.weights hw) (hX _ _ _ (by rfl) hx) hholds).mono fun e W' ⟨v,he,hp⟩=>?_;subst he;exact ChangeSpec.post_blind hp
end Go.Proofs.YtlhhaagmakhilaaGreatDoor
namespace Go.Proofs.YtlhhaagmakhilaaGreatDoor
open Go.AM
open Go.ChangeShapes Go.WideShapes Go.ChangeAt Go.RowKit
set_option maxRecDepth 100000
theorem maxl_of{W:World}(h:W.ShapedOpen Tryz.prog):MaxL W:=
 cell_of_shapedOpen_int (t:=3) (zero:= #[.int .i64 0]) h (of_decide_eq_true (by kernel_rfl)) (by kernel_rfl) rfl (by kernel_rfl) (by kernel_rfl) Tryz.underlying3
end Go.Proofs.YtlhhaagmakhilaaGreatDoor
namespace Go.AM
open Go.ChangeShapes Go.WideShapes Go.ChangeAt Go.RowKit
section
variable {P:Program} {H:Type} {enc:TypeId×Value->H} {W:World} {α:Type}
structure RowOf(P:Program)(enc:TypeId×Value->H)(W:World)(e:TypeId)(es:Nat)(el:α->List Value)(inv:α->Prop):Prop where
 size:P.cellsOf e=es
 pos:0<es
 len:∀x,(el x).length=es
 live:∀x,inv x->allLive ((el x).map qF)=true
 cell:∀(n:Nat) (cs:List Value) (y:DataW H×List MemPlace),DataW.trod enc P W 0 (fun _=>true) true n e cs=some y->∃x,cs=el x/\inv x
theorem qkr{el:α->List Value}{inv:α->Prop}{es:Nat}{a:Addr}:∀(len:Nat),(∀i,i<len->∃x:α,inv x/\∀j,j<es->W.cell? (a.add (i*es+j))=(el x)[j]?)->
 ∃l:List α,l.length=len/\(∀x∈l,inv x)/\∀i (hi:i<l.length),∀j,j<es->W.cell? (a.add (i*es+j))=(el l[i])[j]?
 |0,_=>⟨[],rfl,by simp,fun i hi=>by simp at hi⟩
 |n+1,h=>by
  obtain⟨l,h1,h2,h3⟩:=qkr n fun i hi=>h i (by omega);obtain⟨x,hx,hc⟩:=h n (by omega);refine⟨l++[x],by simp[h1],?_,fun i hi j hj=>?_⟩
  ·intro y hy
   rcases JI.1 hy with hy|hy
   ·exact h2 y hy
   ·rw[BD.1 hy];exact hx
  ·by_cases hin:i<l.length
   ·rw[List.getElem_append_left hin]
    exact h3 i hin j hj
   ·have e:i=n:=by simp at hi;omega
    subst e;have:(l++[x])[i]=x:=by rw[List.getElem_append_right (by omega)];simp
    rw[this];exact hc j hj
theorem qjf{el:α->List Value}{inv:α->Prop}{es:Nat}(hes:0<es)(hlen:∀x,(el x).length=es)(hlive:∀x,inv x->allLive ((el x).map qF)=true){b o cap:Nat}{l:List α}(hi:∀x∈l,inv x)(hcap:l.length<=cap)
 (hc:∀i (hi:i<l.length),∀j,j<es->W.cell? ((⟨b,o,none⟩:Addr).add (i*es+j))=(el l[i])[j]?):
 IsL W (fun _=>none) es (.slice (.base b) o l.length (.exact cap)) (l.map fun x=>(el x).map qF):=by
 have hw:∀x∈l.map (fun x=>(el x).map qF),x.length=es:=by
  intro x hx;obtain⟨y,_,rfl⟩:=JG.1 hx;rw[Jo,hlen]
 refine .mk _ _ _ _ _ (by rw[Jo]) hw ?_ (Yc.2 fun x hx=>by obtain⟨y,hy,rfl⟩:=JG.1 hx;exact hlive y (hi y hy)) hcap;apply List.ext_getElem?;intro q;by_cases hq:q<l.length*es
 ·rw[UU _ _ _ _ _ _ hq]
  have hm:q%es<es:=Nat.mod_lt _ hes;have hd:q / es<l.length:=Nat.div_lt_of_lt_mul (by rw[ED];exact hq);have hqe:q=q / es*es+q%es:=by rw[ED];exact(Nat.div_add_mod q es).symm
  have hcell:=hc (q / es) hd (q%es) hm;rw[<-hqe]at hcell;have ea:(⟨b,o,none⟩:Addr).add q=⟨b,o+q,none⟩:=by by_cases e:q=0<;>simp[Addr.add,e]
  rw[ea,Jz (by rw[hlen];exact hm)]at hcell;have h2:=qef hw (i:=q / es) (j:=q%es) (by rw[Jo];exact hd) hm;rw[<-hqe]at h2;rw[h2,List.getD_eq_getElem?_getD,Eb,Jz hd,KH,Option.getD_some,Eb,Jz (by rw[hlen];exact hm),KH];have hlt:b<W.heap.size:=qil hcell;simp only[AM.rd,hlt,if_true,hcell]
 ·rw[Kq (by rw[Ur];omega),Kq (by rw[Zp hw,Jo];omega)]
theorem qkm{e t:TypeId}{es:Nat}{el:α->List Value}{inv:α->Prop}(R:RowOf P enc W e es el inv)(ht:P.underlying t=some (.slice e)){n:Nat}{cs:List Value}{y:DataW H×List MemPlace}(h:DataW.trod enc P W 0 (fun _=>true) true n t cs=some y):
 ∃(v:Value) (l:List α),cs=[v]/\IsL W (fun _=>none) es (qF v) (l.map fun x=>(el x).map qF)/\l.length<=9223372036854775807/\∀x∈l,inv x:=by
 rcases DataW.trod_slice ht h with⟨hcs,_⟩|⟨a,len,cap,elems,rest,n',_,hcs,_,_,hlc,hcm,hel,hcell,hspare,_⟩
 ·exact⟨_,[],hcs, .nil,by simp,by simp⟩
 ·have hlen:len<=9223372036854775807:=V5 hlc hcm
  have one:∀(m i:Nat) (q:Option (DataW H×List MemPlace)),(W.cells? 0 (a.add (i*P.cellsOf e)) (P.cellsOf e)).bind (DataW.trod enc P W 0 (fun _=>true) true m e)=q->q.isSome=true->∃x:α,inv x/\∀j,j<es->W.cell? (a.add (i*es+j))=(el x)[j]?:=by
   intro m i q hq hs;cases q with
   |none=>cases hs
   |some z=>
    rw[Option.bind_eq_some_iff]at hq;obtain⟨cs',hcs',hy⟩:=hq;obtain⟨x,rfl,hx⟩:=R.cell _ _ _ hy;rw[R.size]at hcs';refine⟨x,hx,fun j hj=>?_⟩;have:=(World.cells?_some hcs').2.2 j hj;rw[<-this];congr 1;obtain⟨ab,ao,asp⟩:=a;by_cases e1:i*es=0<;>by_cases e2:j=0<;>simp[Addr.add,e1,e2,Nat.add_assoc]
  obtain⟨l,l1,l2,l3⟩:=qkr (W:=W) (el:=el) (inv:=inv) (es:=es) (a:=a) len fun i hi=>one n' i _ (hcell i hi) (by rw[Jz (by omega)];rfl);have spot:∀(x:α),(∀j,j<es->W.cell? (a.add (0*es+j))=(el x)[j]?)->a.spot=none:=by
   intro x hx;have h0:=hx 0 R.pos;rw[Jz (by rw[R.len];exact R.pos)]at h0;have:=World.cell?_spot h0
   rwa [Addr.add,if_pos (by rw[K7])]at this
  refine⟨.slice (some a) len cap,l,hcs,?_,by omega,l2⟩;subst l1;obtain⟨ab,ao,asp⟩:=a;by_cases hc0:cap=0
  ·have hl0:l=[]:=List.eq_nil_of_length_eq_zero (by omega)
   subst hl0;subst hc0;cases asp with
   |none=>exact qjf (l:=([]:List α)) (inv:=inv) R.pos R.len R.live (fun x hx=>by cases hx) (KJ _) fun i hi=>absurd hi (EE i)
   |some s=>exact qjf (l:=([]:List α)) (inv:=inv) R.pos R.len R.live (fun x hx=>by cases hx) (KJ _) fun i hi=>absurd hi (EE i)
  ·have hs:asp=none:=by
    by_cases hl0:l.length=0
    ·obtain⟨r1,r2⟩:=hspare rfl
     obtain⟨x,_,hx⟩:=one n' l.length _ (r2 0 (by omega)) (by rw[Jz (by omega)];rfl);rw[hl0]at hx;exact spot x hx
    ·exact spot _ (l3 0 (by omega))
   subst hs;exact qjf (inv:=inv) R.pos R.len R.live l2 hlc l3
end
end Go.AM
namespace Go.Proofs.YtlhhaagmakhilaaGreatDoor
open Go.AM
open Go.Cop
open Go.ChangeShapes Go.WideShapes Go.ChangeAt Go.RowKit
set_option maxRecDepth 100000
section
variable {H:Type} {enc:TypeId×Value->H} {W:World} {base:Nat} {v:Value} {x:DataW H×List MemPlace}
def kinV(b:UInt8):List Value:=[.int .u8 b.toNat]
theorem kinV_abs(l:List UInt8):(l.map fun e=>(kinV e).map qF)=l.map qcj:=rfl
theorem kin_row:RowOf Tryz.prog enc W 5 1 kinV (fun _=>True):=by
 refine⟨by kernel_rfl,by decide,fun _=>rfl,fun _ _=>rfl,fun n cs y h=>?_⟩;obtain⟨a,e0,_,w0⟩:=DataW.trod_int Tryz.underlying5 h;subst e0;obtain⟨a0,a1⟩:=wf_u8 w0;refine⟨KC a.toNat,?_,trivial⟩;unfold kinV;have:((KC a.toNat).toNat:Int)=a:=by
  rw[UInt8.toNat_ofNat',Nat.mod_eq_of_lt (by omega)];omega
 rw[this]
theorem qhb{n:Nat}{cs:List Value}{y:DataW H×List MemPlace}(h:DataW.trod enc Tryz.prog W 0 (fun _=>true) true n 23 cs=some y):
 ∃(v:Value) (l:List UInt8),cs=[v]/\IsL W (fun _=>none) 1 (qF v) (l.map qcj)/\l.length<=9223372036854775807:=by
 obtain⟨v',l,hcs,hL,hl,_⟩:=qkm kin_row Tryz.underlying23 h;rw[kinV_abs]at hL;exact⟨v',l,hcs,hL,hl⟩
def LisV(W:World)(q:List UInt8×Value):Prop:=IsL W (fun _=>none) 1 (qF q.2) (q.1.map qcj)/\q.1.length<=9223372036854775807
theorem two_row:RowOf Tryz.prog enc W 44 2 (fun q:(List UInt8×Value)×List UInt8×Value=>[q.1.2,q.2.2]) (fun q=>LisV W q.1/\LisV W q.2):=by
 refine⟨by kernel_rfl,by decide,fun _=>rfl,fun q hq=>?_,fun n cs y h=>?_⟩
 ·simp only[Kc,Vj,AM.allLive,hq.1.1.live,hq.2.1.live,JS]
 ·obtain⟨xs,m,_,_,hl,hn,hc⟩:=DataW.trod_array Tryz.underlying44 h
  have c3:Tryz.prog.cellsOf 23=1:=by kernel_rfl
  rw[show Tryz.prog.cellsOf 44=2 by kernel_rfl]at hl;have h0:=hc 0 (by omega);have h1:=hc 1 (by omega);match cs,hl with
  |[c0,c1],_=>
   match xs,hn with
   |[y0,y1],_=>
    simp only[c3,K7,Nat.one_mul,List.drop_zero,List.drop_succ_cons,List.take_succ_cons,List.take_zero,List.getElem?_cons_zero,List.getElem?_cons_succ]at h0 h1;obtain⟨v0,l0,e0,hL0,hl0⟩:=qhb h0;obtain⟨v1,l1,e1,hL1,hl1⟩:=qhb h1;simp only[List.cons.injEq,and_true]at e0 e1;subst e0 e1;exact⟨((l0,c0),l1,c1),rfl,⟨hL0,hl0⟩,hL1,hl1⟩
theorem arg_L(h:∃fuel,DataW.trod enc Tryz.prog W 0 (fun _=>true) true fuel 23 v.cells.toList=some x)(hv:Value.okWide Tryz.prog W .any base 23 v):
 ∃(l:List UInt8) (y:AVal),VR (fun _=>none) y v/\IsL W (fun _=>none) 1 y (l.map qcj)/\l.length<=9223372036854775807:=by
 obtain⟨fuel,h2⟩:=h;obtain⟨a0,len0,cap0,rfl⟩:=okWide_slice Tryz.underlying23 hv;have h2':DataW.trod enc Tryz.prog W 0 (fun _=>true) true fuel 23 [.slice a0 len0 cap0]=some x:=h2;obtain⟨v',l,hcs,hL,hl⟩:=qhb h2';simp only[List.cons.injEq,and_true]at hcs;subst hcs;exact⟨l,_,qgO _ _,hL,hl⟩
theorem arg_Rs(h:∃fuel,DataW.trod enc Tryz.prog W 0 (fun _=>true) true fuel 42 v.cells.toList=some x)(hv:Value.okWide Tryz.prog W .any base 42 v):
 ∃(r:List (List UInt8×List UInt8)) (y:AVal),VR (fun _=>none) y v/\IsRs W (fun _=>none) y r/\r.length<=9223372036854775807/\∀z∈r,z.1.length<=9223372036854775807/\z.2.length<=9223372036854775807:=by
 obtain⟨fuel,h2⟩:=h;obtain⟨a0,len0,cap0,rfl⟩:=okWide_slice Tryz.underlying42 hv;have h2':DataW.trod enc Tryz.prog W 0 (fun _=>true) true fuel 42 [.slice a0 len0 cap0]=some x:=h2;obtain⟨v',l,hcs,hL,hl,hi⟩:=qkm two_row Tryz.underlying42 h2';simp only[List.cons.injEq,and_true]at hcs;subst hcs;refine⟨l.map (fun q=>(q.1.1,q.2.1)),_,qgO _ _,⟨l.map fun q=>((q.1.1,qF q.1.2),(q.2.1,qF q.2.2)),?_,?_,?_⟩,by rw[Jo];exact hl,?_⟩
 ·rw[VT];rfl
 ·rw[VT];exact hL
 ·intro q hq
  obtain⟨z,hz,rfl⟩:=JG.1 hq;exact⟨(hi z hz).1.1,(hi z hz).2.1⟩
 ·intro z hz
  obtain⟨q,hq,rfl⟩:=JG.1 hz;exact⟨(hi q hq).1.2,(hi q hq).2.2⟩
end
end Go.Proofs.YtlhhaagmakhilaaGreatDoor
