/-
  Texts of this proof, joined: SxE, SxH, LwR, LwS, LwK.
  Conditions: none.
-/
import Derived.Test.YtgiadjbiimkbiaaGreatDoorKe
import Derived.Test.YtgiadjbiimkbiaaGreatDoorKd
import Derived.Test.YtgiadjbiimkbiaaGreatDoorProg
import Derived.Test.YtgiadjbiimkbiaaGreatDoorKb
import Derived.WalkKit
import Derived.ProofKit
import Derived.OpenShut
import Derived.ShutString
import Derived.ChangeOld
import Derived.Below
import Derived.Deep.Strs
import Derived.Handed
import Derived.HandedShaped
import Derived.Shelf.Vars
import Derived.Test.YtgiadjbiimkbiaaGreatDoorRows
import Derived.Lib.LaidTab
import Derived.MakeChecks
set_option linter.unusedSimpArgs false
set_option linter.unnecessarySimpa false
set_option linter.unusedVariables false
open UInt8 renaming ofNat->KD
open Int renaming tdiv->Dt,natCast_nonneg->Vv,tmod->Ew,toNat_natCast->VD
open List renaming length_map->Jn,length_append->Jb,mem_map->JK,mem_singleton->V4,range->KP,map_append->JI,mem_append->JV,map_singleton->Dv,all_eq_true->Jz,mem_range->JA
open Go.AM.IsL renaming own->Bz
open Nat renaming le_refl->KL,zero_le->Jq,le_trans->Ve,div_le_self->Du
open Go.AM.Sub renaming refl->Vi,none->Be,set->Vj,trans->Br
open Go.AM.AHeap renaming set_none->Bd,set_set->Bg,ne_some->Bf,set_same->Vh
open Go.AM.AVal renaming cells->BL
open Bool renaming true_and->VN
open Go.AM.Awp renaming forget->BO
namespace Go.AM
theorem keep_uniL{p p' q q':AHeap}(hk:Keep p p')(hs:Sub q q')(hd:disj p' q'):Keep (Wl [p,q]) (Wl [p',q']):=fun k b hb=>by
 simp only[Wl]at hb|-
 cases e:p k with
 |some c=>
  rw[qcv e]at hb;cases hb;obtain⟨b',h1,h2⟩:=hk k _ e;exact⟨b',qcv h1,h2⟩
 |none=>
  rw[qcw e]at hb;have hq:q k=some b:=by
   cases e2:q k with
   |some c=>rw[qcv e2]at hb;exact hb
   |none=>rw[qcw e2]at hb;cases hb
  have hq':=hs k b hq;have hp:p' k=none:=(hd k).resolve_right fun z=>by rw[z]at hq';cases hq'
  exact⟨b,by rw[qcw hp,qcv hq'],fun _ _=>rfl⟩
end Go.AM
namespace Go.Proofs.YtgiadjbiimkbiaaGreatDoor
open Go.AM
open Go.Proofs
open Go.Col (Str FaultC okF)
open Go.Tok (TokC)
open Go.Stm
open Go.RowKit (Below)
set_option maxRecDepth 100000
theorem YsV.keep{w0:World}{h h':AHeap}{v:AVal}{l:List YC}(hp:YsV w0 h v l)(hs:Keep h h'):YsV w0 h' v l:=by
 obtain⟨qs,e,a,b⟩:=hp;exact⟨qs,e,a.keep hs,fun q hq=>(b q hq).keep hs⟩
theorem ZsV.keep{w0:World}{h h':AHeap}{S S':AVal->List XC->Prop}{v:AVal}{l:List ZC}(hp:ZsV w0 S h v l)(hs:Keep h h')(hS:∀v l,S v l->S' v l):ZsV w0 S' h' v l:=by
 obtain⟨qs,e,a,b⟩:=hp;exact⟨qs,e,a.keep hs,fun q hq=>⟨(b q hq).1.keep hs,hS _ _ (b q hq).2⟩⟩
theorem XsV.keep{w0:World}{h h':AHeap}(hs:Keep h h'):∀{d:Nat} {v:AVal} {l:List XC},XsV w0 d h v l->XsV w0 d h' v l
 |0,_,_,hp=>⟨hp.1,hp.2.keep hs⟩
 |d+1,_,_,⟨qs,e,a,b⟩=>⟨qs,e,a.keep hs,fun q hq=>⟨(b q hq).1.keep hs,(b q hq).2.keep hs fun _ _=>XsV.keep hs⟩⟩
theorem qcY(m:Nat):IntKind.u8.wrap (m:Int)=((KD m).toNat:Int):=by
 unfold IntKind.wrap;simp[IntKind.bits,IntKind.signed]
theorem tdivN(a b:Nat):Dt (a:Int) (b:Int)=((a / b:Nat):Int):=by
 rw[Int.tdiv_eq_ediv_of_nonneg (Vv a)];exact(Int.natCast_ediv a b).symm
theorem tmodN(a b:Nat):Ew (a:Int) (b:Int)=((a%b:Nat):Int):=by
 rw[Int.tmod_eq_emod_of_nonneg (Vv a)];exact(Int.natCast_emod a b).symm
theorem wN(m:Nat)(h:m<=1000000000):IntKind.i64.wrap (m:Int)=(m:Int):=wrap_i64 (by omega) (by omega)
def xB(n:Nat)(pv bv:AVal)(c:Bool):Blk:=⟨[.int .u8 (KD n).toNat,pv,bv, .bool c],0⟩
def yB(q:YC×AVal):Blk:=⟨yC q,0⟩
def zB(f:UInt8)(ov lv:AVal)(s:UInt8):Blk:=⟨[.int .u8 f.toNat,ov,lv, .int .u8 s.toNat],0⟩
structure KnG where
 i:Nat
 pv:AVal
 GP:AHeap
 bv:AVal
 bp:AHeap
 E:AHeap
 qs:List (YC×AVal)
 zs:List (ZC×AVal×AVal)
 H:AHeap
structure KnI(w0:World)(H0:AHeap)(kx n k:Nat)(c:Bool)(g:KnG):Prop where
 le:g.i<=4
 sep:AM.Sep [H0,one kx (xB n g.pv g.bv c),g.GP,g.bp,g.E] g.H
 row:RowX 3 g.pv g.GP (g.qs.map yC)
 qsE:g.qs.map (·.1)=pS4 k g.i
 qsO:∀q∈g.qs,IsL w0 g.E 1 q.2 (q.1.ops.map u8C)
 brow:GrowV 4 g.bv g.bp (g.zs.map zC)
 zsE:g.zs.map (·.1)=bS4 k g.i
 zsO:∀q∈g.zs,IsL w0 g.E 1 q.2.1 (q.1.2.1.map u8C)/\XsV w0 1 (Wl [g.GP,g.E]) q.2.2 q.1.2.2.1
structure LnG where
 j:Nat
 lv:AVal
 lp:AHeap
 ws:List (XC×AVal×AVal)
 H:AHeap
theorem yC_scal(q:YC×AVal)(h:q.2.scal=true):Qt [yC q].flatten=true:=by
 show(true && (q.2.scal && (true && true)))=true
 rw[h];rfl
theorem yC_live(q:YC×AVal)(h:q.2.live=true):allLive [yC q].flatten=true:=by
 show(true && (q.2.live && (true && true)))=true
 rw[h];rfl
theorem qnj{α β:Type}{qs:List (α×β)}{l:List α}(h:qs.map (·.1)=l):qs.length=l.length:=by rw[<-h,Jn]
theorem pS4_len(k:Nat):∀i,(pS4 k i).length=i
 |0=>rfl
 |i+1=>by rw[pS4,Jb,pS4_len k i];rfl
theorem bS4_len(k:Nat):∀i,(bS4 k i).length=i
 |0=>rfl
 |i+1=>by rw[bS4,Jb,bS4_len k i];rfl
theorem ops_slice(w0:World)(k n:Nat)(hn:n<=2):Wm Tryz.prog 32 (.slice (.own k) 0 2 (.exact 2)) none (some (.int .i64 (n:Int))) none=⟨True, .slice (.own k) 0 n (.exact 2)⟩:=by
 have hr:IsL w0 (one k ⟨[.int .u8 0, .int .u8 0],0⟩) 1 (.slice (.own k) 0 2 (.exact 2)) [[.int .u8 0],[.int .u8 0]]:=Bz (xs:=[[AVal.int .u8 0],[.int .u8 0]]) (one_at _ _) (by simp) rfl rfl (.exact 2) (KL _);have:=hr.slice Tryz.underlying32 sz5 none (some (.int .i64 (n:Int))) (l:=0) (r:=(n:Int)) rfl (by rw[qbI]) (by omega) (by omega) (by simp only[QF];omega);rw[this];simp[qgL]
theorem ops_row{w0:World}{h:AHeap}{k kc:Nat}(hk:h k=some ⟨[.int .u8 (KD kc).toNat, .int .u8 (KD (kc / 3)).toNat],0⟩):IsL w0 h 1 (.slice (.own k) 0 (kc%3) (.exact 2)) ((opsKn kc).map u8C):=by
 have hr:IsL w0 h 1 (.slice (.own k) 0 2 (.exact 2)) ([KD kc,KD (kc / 3)].map u8C):=Bz (xs:=[KD kc,KD (kc / 3)].map u8C) hk (fun x hx=>by obtain⟨b,_,rfl⟩:=JK.1 hx;rfl) rfl rfl (.exact 2) (KL _);have:=hr.sub (i:=0) (j:=kc%3) (Jq _) (by simp only[QF,Jn];omega);unfold opsKn;rw[List.map_take];simpa[qgL]using this
theorem xs_one{w0:World}{h:AHeap}{d k:Nat}{x:XC}{pv bv:AVal}(hk:h k=some ⟨xC (x,pv,bv),0⟩)(hp:YsV w0 h pv x.p)(hb:ZsV w0 (XsV w0 d h) h bv x.b):XsV w0 (d+1) h (.slice (.own k) 0 1 (.exact 1)) [x]:=by
 have hl:AM.allLive (xC (x,pv,bv))=true:=by
  show(true && (pv.live && (bv.live && (true && true))))=true
  rw[hp.shape.1,hb.shape.1];rfl
 refine⟨[(x,pv,bv)],rfl,?_,fun q hq=>by rw[V4.1 hq];exact⟨hp,hb⟩⟩;exact Bz (xs:=[xC (x,pv,bv)]) hk (fun x hx=>by rw[V4.1 hx];rfl) rfl (by simpa using hl) (.exact 1) (KL _)
theorem ys_nil{w0:World}{h:AHeap}:YsV w0 h .nilSlice []:=⟨[],rfl, .nil,fun q hq=>by cases hq⟩
theorem zs_nil{w0:World}{h:AHeap}{S:AVal->List XC->Prop}:ZsV w0 S h .nilSlice []:=⟨[],rfl, .nil,fun q hq=>by cases hq⟩
structure NnG where
 n:Nat
 H:AHeap
set_option maxHeartbeats 32000000 in
theorem l_Known2(w0:World)(hm:MaxL w0)(ha:Asp w0)(h H0:AHeap)(hs_H0:AM.Sub h H0):
 Awp Tryz.prog w0 206 (Wv 5 (qbV Tryz.f3)) (qcU Tryz.prog w0 [.tmp 0] (fun r h'=>r= .bool true/\AM.Sub h h')) [] (H0):=by
 change Awp _ _ _ (Code.seq _ _) _ _ _;refine awp_rseq [4] (by rfl) fun K hK=>?_;simp+decide only[qP,↓qa];apply hK;clear hK K;refine qi ?_;refine awp_rseq [4,5] (by rfl) fun K hK=>?_;simp+decide only[qP,↓qa];apply hK;clear hK K;refine qI ?_;refine Qj [4,5] (fun g:NnG=>[(4, .int .i64 (kAt g.n)),(5, .int .i64 g.n)]) (fun g:NnG=>g.H) (fun g:NnG=>g.n<=40/\AM.Sub h g.H) (fun g:NnG=>40-g.n) ⟨0,H0⟩ (by rfl) (Vi _) ⟨Jq _,hs_H0⟩ ?_;rintro⟨n,H⟩ ⟨hn,hs_H⟩;simp only at hn hs_H|-
 obtain⟨k,hk⟩:∃k,k=kAt n:=⟨_,rfl⟩
 have hk5:k<100003:=by rw[hk];exact kAt_lt n
 rw[<-hk];refine qi ?_;refine awp_rseq [4,5,75] (by rfl) fun K hK=>?_;simp+decide only[QK,qK,QY,↓qc,↓qd];apply hK;clear hK K;refine qz (b:=_) rfl (fun hb1=>?_) (fun hb1=>?_)
 ·try simp only[qG]at hb1
  have hn':n<40:=by omega
  have hcase:=known_law n hn';have hnu:=qcY n;have hwn:IntKind.i64.wrap ((n:Int)+1)=((n+1:Nat):Int):=by rw[wrap_i64 (by omega) (by omega)];omega
  refine qF ?_;change Awp _ _ _ _ _ _ _;refine qi ?_;refine qI ?_;refine awp_rseq [4,5,6] (by rfl) fun K hK=>?_;refine Qp ze31 (cs:=[.int .u8 0, .nilSlice, .nilSlice, .bool false]) (by rfl) fun k14q0 hk14q0=>?_;have hn_14q0:H k14q0=none:=by first|assumption|(simp only[Bd]at hk14q0;simp only[hk14q0])
  have hf_14q0:h k14q0=none:=Be hs_H hn_14q0;simp+decide only[qV];apply hK;clear hK K;refine awp_rseq [4,5,6] (by rfl) fun K hK=>?_;simp+decide only[Qe,qY,XM,↓qc,↓ZZ _ _ _ (Uo Tryz.underlying3 Tryz.underlying5),ZA Tryz.underlying3 Tryz.underlying5,↓qh,fa31_0,hnu];refine qN (by rfl) (by rfl) zqA sz5 (by rfl) (by rfl) zqD (Jq _) (by first|rfl|(simp+decide only[QI,BL,Yk,VN,YW,qaA,Qt,qgO])) ?_;simp only[QT,Bg];simp+decide only[qV];apply hK;clear hK K;refine qi ?_;have hS16:=(Sep.lay (ps:=[H]) ⟨fun p hp=>by rw[V4.1 hp];exact Vi _,by simp⟩ hk14q0 (xB n .nilSlice .nilSlice false)).emp.emp.emp;simp only[Xf]at hS16;obtain⟨H16,hH16⟩:∃H16,H16=H.set k14q0 (xB n .nilSlice .nilSlice false):=⟨_,rfl⟩
  rw[<-hH16]at hS16;refine BO (h':=H16) (by rw[hH16];exact Vi _) ?_;have eb_14q0:H16 k14q0=some _:=hS16.at_ (i:=1) rfl;have hs_H16:AM.Sub h H16:=hs_H.trans (hS16.in_ (i:=0) rfl);refine awp_rseq [4,5,6,7] (by rfl) fun K hK=>?_;simp+decide only[qP,↓qa];apply hK;clear hK K;refine qI ?_;refine Qj [4,5,6,7] (fun g:KnG=>[(4, .int .i64 (kS k g.i)),(5, .int .i64 n),(6, .ptr (.own k14q0) 0),(7, .int .i64 g.i)]) (fun g:KnG=>g.H) (fun g:KnG=>KnI w0 H k14q0 n k false g) (fun g:KnG=>4-g.i) ⟨0, .nilSlice,emp, .nilSlice,emp,emp,[],[],H16⟩ (by rfl) (Vi _) ⟨Jq _,hS16, .nil,rfl,(fun q hq=>by cases hq), .nil,rfl,fun q hq=>by cases hq⟩ ?_;rintro⟨i,pv,GP,bv,bp,E,qs,zs,H1⟩ hI;have hS:=hI.sep;have hi:=hI.le;simp only at hS hi|-
  obtain⟨kc,hkc⟩:∃kc,kc=kS k i:=⟨_,rfl⟩
  have hkc5:kc<100003:=by rw[hkc];exact kS_lt hk5 i
  rw[<-hkc];have eb_14q0:H1 k14q0=some _:=hS.at_ (i:=1) rfl;have hs_H1:AM.Sub h H1:=hs_H.trans (hS.in_ (i:=0) rfl);have hpvl:pv.live=true:=hI.row.live;have hbvl:bv.live=true:=hI.brow.live;have hbvs:bv.scal=true:=hI.brow.scal;have hpvs:pv.scal=true:=hI.row.scal;have hpvc:pv.cells=[pv]:=hI.row.cells;have hbvc:bv.cells=[bv]:=hI.brow.cells;refine qi ?_;refine awp_rseq [4,5,6,7,82] (by rfl) fun K hK=>?_;simp+decide only[QK,qK,QY,↓qc,↓qd];apply hK;clear hK K;refine qz (b:=_) rfl (fun hb2=>?_) (fun hb2=>?_)
  ·try simp only[qG]at hb2
   have hi4:i<4:=by omega
   have hq7:Dt (kc:Int) 7=((kc / 7:Nat):Int):=tdivN kc 7;have hq5:Dt (kc:Int) 5=((kc / 5:Nat):Int):=tdivN kc 5;have hq3:Dt (kc:Int) 3=((kc / 3:Nat):Int):=tdivN kc 3;have hm3:Ew (kc:Int) 3=((kc%3:Nat):Int):=tmodN kc 3;have hm2:Ew (kc:Int) 2=((kc%2:Nat):Int):=tmodN kc 2;have hw7:=wN (kc / 7) (Ve (Du kc 7) (by omega));have hw5:=wN (kc / 5) (Ve (Du kc 5) (by omega));have hw3:=wN (kc / 3) (Ve (Du kc 3) (by omega));have hwm3:=wN (kc%3) (by omega);have hwm2:=wN (kc%2) (by omega);have hkc32:kc%3<=2:=by omega
   have hsl:=fun k:Nat=>ops_slice w0 k (kc%3) hkc32;have hqn:qs.length=i:=by rw[qnj hI.qsE,pS4_len]
   have hzn:zs.length=i:=by rw[qnj hI.zsE,bS4_len]
   refine qF ?_;change Awp _ _ _ _ _ _ _;refine qi ?_;refine qI ?_;refine awp_rseq [4,5,6,7,8] (by rfl) fun K hK=>?_;simp+decide only[QK,qK,XM,↓qc,↓qd,qig,↓ZZ _ _ _ (Uo Tryz.underlying3 Tryz.underlying5),ZA Tryz.underlying3 Tryz.underlying5,hq7,hw7,hq3,hw3,qcY];refine qO (cs:=[.int .u8 (KD kc).toNat, .int .u8 (KD (kc / 3)).toNat]) (by kernel_rfl) fun k19q8 hk19q8=>?_;have hn_19q8:H1 k19q8=none:=by first|assumption|(simp only[Bd]at hk19q8;simp only[hk19q8])
   have hf_19q8:h k19q8=none:=Be hs_H1 hn_19q8;have ne_19q8_14q0:k19q8≠k14q0:=Bf hn_19q8 eb_14q0;simp+decide only[QK,qK,QW,Zo,XM,qad,qal,↓qc,↓qd,↓qbJ,evO,pSlice_ex Tryz.underlying32 sz5,pSliceE,qmS,qbI,↓ZZ _ _ _ (Uo Tryz.underlying3 Tryz.underlying5),ZA Tryz.underlying3 Tryz.underlying5,↓XO,↓QN,qra,hm3,qcY];repeat (with_reducible refine zqP ?_)
   refine Qp ze34 (cs:=[.int .u8 0, .nilSlice, .int .u8 0]) (by rfl) fun k19q15 hk19q15=>?_;have ne_19q15_19q8:k19q15≠k19q8:=by simp only[Bd]at hk19q15;simp only[Yv,hk19q15]
   have hn_19q15:H1 k19q15=none:=by first|assumption|(simp only[Bd]at hk19q15;simp only[hk19q15])
   have hf_19q15:h k19q15=none:=Be hs_H1 hn_19q15;have ne_19q15_14q0:k19q15≠k14q0:=Bf hn_19q15 eb_14q0;refine qN (by rfl) (by rfl) zqA qrC (by rfl) (by rfl) zqD (Jq _) (by first|rfl|(simp+decide only[QI,BL,Yk,VN,YW,qaA,Qt,qgO])) ?_;simp only[QT,Bg];simp+decide only[qV,Nat.reduceAdd];apply hK;clear hK K;obtain⟨E1,hE1⟩:∃E1,E1=E.set k19q8 ⟨[.int .u8 (KD kc).toNat, .int .u8 (KD (kc / 3)).toNat],0⟩:=⟨_,rfl⟩
   obtain⟨q,hq⟩:∃q:YC×AVal,q=(yK kc, .slice (.own k19q8) 0 (kc%3) (.exact 2)):=⟨_,rfl⟩
   have hEn:E k19q8=none:=(hS.in_ (i:=4) rfl).none hk19q8;have hEE:AM.Sub E E1:=by rw[hE1];exact Vj hEn
   have hS19:=(hS.setIn (i:=4) rfl (fun j q _ hq=>(hS.in_ hq).none hk19q8) (⟨[.int .u8 (KD kc).toNat, .int .u8 (KD (kc / 3)).toNat],0⟩:Blk)).lay hk19q15 (yB q);simp only[Xo,Xf,<-hE1]at hS19;obtain⟨H19,hH19⟩:∃H19,H19=(H1.set k19q8 ⟨[.int .u8 (KD kc).toNat, .int .u8 (KD (kc / 3)).toNat],0⟩).set k19q15 (yB q):=⟨_,rfl⟩
   rw[<-hH19]at hS19;refine BO (h':=H19) (by rw[hH19,hq];exact Vi _) ?_;have eb_14q0:H19 k14q0=some _:=hS19.at_ (i:=1) rfl;have eb_19q15:H19 k19q15=some _:=hS19.at_ (i:=5) rfl;have hs_H19:AM.Sub h H19:=hs_H.trans (hS19.in_ (i:=0) rfl);have ne_19q15_14q0:k19q15≠k14q0:=hS19.ne (i:=5) (j:=1) rfl rfl (by decide);have hops:IsL w0 E1 1 q.2 (q.1.ops.map u8C):=by rw[hq,hE1];exact ops_row (Vh _ _ _)
   have hql:=hops.live;have hqs:=hops.scal;have hqc:=hops.cells;have hqS:Sc q.2=True:=qnh hops;refine awp_rseq [4,5,6,7,8] (by rfl) fun K hK=>?_;simp+decide only[qV,QU,qdl,↓qh,↓qo,qf qok,Qa ag34 qrC,Qm eb_14q0,Qm eb_19q15,Nat.reduceAdd,xB,yB,yC,hpvl,hql];refine qO (cs:=yC q) (by kernel_rfl) fun k20q3 hk20q3=>?_;have hn_20q3:H19 k20q3=none:=by first|assumption|(simp only[Bd]at hk20q3;simp only[hk20q3])
   have hf_20q3:h k20q3=none:=Be hs_H19 hn_20q3;have ne_20q3_14q0:k20q3≠k14q0:=Bf hn_20q3 eb_14q0;have ne_20q3_19q15:k20q3≠k19q15:=Bf hn_20q3 eb_19q15;refine qtl (es:=3) (v:=pv) (p:=GP) (xs:=qs.map yC) (ys:=[yC q]) (i:=2) (by rfl) (by rfl) Tryz.underlying28 Tryz.underlying28 (fun k e=>by cases e) qrC by34 ze34 (by rfl) (by decide) (by rfl) hI.row rfl (hS19.forget (Vj hk20q3)) (by rfl) (Bz (Vh _ _ _) (fun x hx=>by rw[V4.1 hx];rfl) (by simp) (yC_live q hql) (.exact 1) (KL _)) (yC_scal q hqs) (by simp) (by simp only[Zn];omega) (by simp only[Zn];omega) fun pv1 GP1 h20 hrow1 hkeep1 hS20=>?_;simp only[Xo]at hS20;simp+decide only[qV,qY,qdl,↓qh];refine qN (v:=pv1) (by rfl) (by rfl) (hS20.at_ (i:=1) rfl) sz28 hrow1.live (by rw[hrow1.cells];rfl) (by simp only[QF,xB];omega) (Jq _) (by rw[hrow1.cells];simp[Qt,hrow1.scal]) ?_;simp only[Xo,WB,hrow1.cells,xB];have hS20b:=hS20.put (i:=1) rfl (xB n pv1 bv false);simp only[Xo]at hS20b;simp+decide only[qV];apply hK;clear hK K;refine Awp.rowX (H:=h20.set k14q0 (xB n pv1 bv false)) hrow1 (by decide) hS20b (i:=2) (j:=1) (ci:=1) rfl rfl (by decide) (show 1<4 by decide) rfl fun pv2 GP2 H20 hrow2 hkeep2 hS21=>?_;simp only[Xo]at hS21;have eb_14q0:H20 k14q0=some _:=hS21.at_ (i:=1) rfl;have eb_19q15:H20 k19q15=some _:=hS21.at_ (i:=5) rfl;have hs_H20:AM.Sub h H20:=hs_H.trans (hS21.in_ (i:=0) rfl);have hkeep:=hkeep1.trans hkeep2;have hpl2:=hrow2.live;have hps2:=hrow2.scal;have hpc2:=hrow2.cells;have hpS:Sc pv2=True:=qnh (hrow2.isL (w0:=w0) (Vi GP2));refine awp_rseq [4,5,6,7,9] (by rfl) fun K hK=>?_;simp+decide only[QK,XI,QW,Zo,XM,↓qc,↓qd,qig,↓ZZ _ _ _ (Uo Tryz.underlying3 Tryz.underlying5),ZA Tryz.underlying3 Tryz.underlying5,↓qh,qsI,↓qo,qf ag32,↓XO,↓QN,qpZ,Qm eb_19q15,yB,yC,hq5,hw5,hq3,hw3,qcY,hql,hqS];refine Qp ze37 (cs:=[.int .u8 0, .nilSlice, .nilSlice, .int .u8 0]) (by rfl) fun k21q9 hk21q9=>?_;have hn_21q9:H20 k21q9=none:=by first|assumption|(simp only[Bd]at hk21q9;simp only[hk21q9])
   have hf_21q9:h k21q9=none:=Be hs_H20 hn_21q9;have ne_21q9_14q0:k21q9≠k14q0:=Bf hn_21q9 eb_14q0;have ne_21q9_19q15:k21q9≠k19q15:=Bf hn_21q9 eb_19q15;refine qN (by rfl) (by rfl) zqA qoz (by rfl) (by rfl) zqD (Jq _) (by first|rfl|(simp+decide only[QI,BL,Yk,VN,qaA,Qt,hqs])) ?_;simp only[QT,Bg];simp+decide only[qV,Nat.reduceAdd];apply hK;clear hK K;refine qi ?_;have hS22:=(hS21.lay hk21q9 (zB (KD (kc / 5)) q.2 .nilSlice (KD (kc / 3)))).emp;simp only[Xf]at hS22;obtain⟨H21,hH21⟩:∃H21,H21=H20.set k21q9 (zB (KD (kc / 5)) q.2 .nilSlice (KD (kc / 3))):=⟨_,rfl⟩
   rw[<-hH21]at hS22;refine BO (h':=H21) (by rw[hH21];exact Vi _) ?_;have eb_14q0:H21 k14q0=some _:=hS22.at_ (i:=1) rfl;have eb_21q9:H21 k21q9=some _:=hS22.at_ (i:=6) rfl;have hs_H21:AM.Sub h H21:=hs_H.trans (hS22.in_ (i:=0) rfl);obtain⟨P2,hP2⟩:∃P2,P2=pS4 k (i+1):=⟨_,rfl⟩
   refine awp_rseq [4,5,6,7,9,10] (by rfl) fun K hK=>?_;simp+decide only[qP,↓qa];apply hK;clear hK K;refine qI ?_;refine Qj [4,5,6,7,9,10] (fun g:LnG=>[(4, .int .i64 kc),(5, .int .i64 n),(6, .ptr (.own k14q0) 0),(7, .int .i64 i),(9, .ptr (.own k21q9) 0),(10, .int .i64 g.j)]) (fun g:LnG=>g.H) (fun g:LnG=>g.j<=kc%3/\AM.Sep [H,one k14q0 (xB n pv2 bv false),GP2,bp,E1,one k19q15 (yB q),one k21q9 (zB (KD (kc / 5)) q.2 g.lv (KD (kc / 3))),g.lp] g.H/\GrowV 4 g.lv g.lp (g.ws.map xC)/\g.ws.map (·.1)=(KP g.j).map (qip kc P2)/\∀w∈g.ws,w.2.1=pv2/\w.2.2= .nilSlice) (fun g:LnG=>kc%3-g.j) ⟨0, .nilSlice,emp,[],H21⟩ (by rfl) (Vi _) ⟨Jq _,hS22, .nil,rfl,fun w hw=>by cases hw⟩ ?_;rintro⟨j,lv,lp,ws,H2⟩ ⟨hj,hS2,hlrow,hws,hwo⟩;simp only at hj hS2 hlrow hws hwo|-
   have eb_14q0:H2 k14q0=some _:=hS2.at_ (i:=1) rfl;have eb_21q9:H2 k21q9=some _:=hS2.at_ (i:=6) rfl;have hs_H2:AM.Sub h H2:=hs_H.trans (hS2.in_ (i:=0) rfl);have ne_21q9_14q0:k21q9≠k14q0:=hS2.ne (i:=6) (j:=1) rfl rfl (by decide);have hlvl:lv.live=true:=hlrow.live;have hlvs:lv.scal=true:=hlrow.scal;have hlvc:lv.cells=[lv]:=hlrow.cells;have hwn2:ws.length=j:=by rw[qnj hws,Jn,List.length_range]
   refine qi ?_;refine awp_rseq [4,5,6,7,9,10,118] (by rfl) fun K hK=>?_;simp+decide only[QK,qK,qj,QY,qad,↓qc,↓qd,hm3];apply hK;clear hK K;refine qz (b:=_) rfl (fun hb3=>?_) (fun hb3=>?_)
   ·try simp only[qG]at hb3
    have hj3:j<kc%3:=by omega
    have hwj2:IntKind.i64.wrap ((j:Int)+2)=((j+2:Nat):Int):=by rw[wrap_i64 (by omega) (by omega)];omega
    have hqj:Dt (kc:Int) ((j+2:Nat):Int)=((kc / (j+2):Nat):Int):=tdivN kc (j+2);have hwq:=wN (kc / (j+2)) (Ve (Du kc (j+2)) (by omega));have hj0:(((j+2:Nat):Int)=0)=False:=eq_false (by omega);have hwj:IntKind.i64.wrap ((j:Int)+1)=((j+1:Nat):Int):=by rw[wrap_i64 (by omega) (by omega)];omega
    have hke:decide (((kc%2:Nat):Int)=0)=decide (kc%2=0):=by
     by_cases e:kc%2=0
     ·rw[decide_eq_true e,decide_eq_true (by omega)]
     ·rw[decide_eq_false e,decide_eq_false (by omega)]
    obtain⟨w,hw⟩:∃w:XC×AVal×AVal,w=(qip kc P2 j,pv2, .nilSlice):=⟨_,rfl⟩
    have hwc:xC w=[.int .u8 (KD (kc / (j+2))).toNat,pv2, .nilSlice, .bool (decide (kc%2=0))]:=by rw[hw];rfl
    refine qF ?_;change Awp _ _ _ _ _ _ _;refine qi ?_;refine qI ?_;refine qeA 14 [] mixed (by kernel_rfl) (by rfl) ?_;simp only[List.take_succ_cons,List.take_zero,List.drop_succ_cons,List.drop_zero];simp+decide only[QK,qK,qY,qj,XJ,QW,XA,Zo,ZJ,XM,qad,qdl,↓YP,qkT,↓qaO,qf ag35,↓qaN,↓qfg,qig,↓qkL _ _ _ (Uo Tryz.underlying3 Tryz.underlying5),ZA Tryz.underlying3 Tryz.underlying5,qf qok,↓qhl,↓QN,qrb,Qm eb_14q0,Qm eb_21q9,xB,yB,zB,yC,hwj2,hqj,hwq,hj0,qcY,hm2,hke,hpS,hpl2,hlvl];refine UO (by rfl) ?_;refine qO (cs:=[.int .u8 (KD (kc / (j+2))).toNat,pv2, .nilSlice, .bool (decide (kc%2=0))]) (by kernel_rfl) fun k25q13 hk25q13=>?_;have hn_25q13:H2 k25q13=none:=by first|assumption|(simp only[Bd]at hk25q13;simp only[hk25q13])
    have hf_25q13:h k25q13=none:=Be hs_H2 hn_25q13;have ne_25q13_14q0:k25q13≠k14q0:=Bf hn_25q13 eb_14q0;have ne_25q13_21q9:k25q13≠k21q9:=Bf hn_25q13 eb_21q9;rw[QB];try simp only[Un,Uf]
    refine ZM (es:=4) (v:=lv) (p:=lp) (xs:=ws.map xC) (ys:=[[.int .u8 (KD (kc / (j+2))).toNat,pv2, .nilSlice, .bool (decide (kc%2=0))]]) (i:=7) (by rfl) (by rfl) Tryz.underlying35 Tryz.underlying35 (fun k e=>by cases e) qng by31 ze31 (by rfl) (by decide) (by rfl) hlrow rfl (hS2.forget (Vj hk25q13)) (by rfl) (Bz (Vh _ _ _) (fun x hx=>by rw[V4.1 hx];rfl) (by rfl) (by show(true && (pv2.live && (true && (true && true))))=true;rw[hpl2];rfl) (.exact 1) (KL _)) (by show(true && (pv2.scal && (true && (true && true))))=true;rw[hps2];rfl) (by simp) (by simp only[Zn];omega) (by simp only[Zn];omega) fun lv1 lp1 h25 hlrow1 _ hS25=>?_;simp only[Xo]at hS25;simp+decide only[qV,qY,↓qh,qkT];refine qN (v:=lv1) (by rfl) (by rfl) (hS25.at_ (i:=6) rfl) sz35 hlrow1.live (by rw[hlrow1.cells];rfl) (by simp only[QF,zB];omega) (Jq _) (by rw[hlrow1.cells];simp[Qt,hlrow1.scal]) ?_;simp only[Xo,WB,hlrow1.cells,zB];have hS25b:=hS25.put (i:=6) rfl (zB (KD (kc / 5)) q.2 lv1 (KD (kc / 3)));simp only[Xo]at hS25b;have hws1:(ws++[w]).map (·.1)=(KP (j+1)).map (qip kc P2):=by rw[JI,hws,List.range_succ,JI,hw];rfl
    have hwo1:∀w'∈ws++[w],w'.2.1=pv2/\w'.2.2= .nilSlice:=fun w' hw'=>by
     rcases JV.1 hw' with z|z
     ·exact hwo w' z
     ·rw[V4.1 z,hw];exact⟨rfl,rfl⟩
    have hlrow2:GrowV 4 lv1 lp1 ((ws++[w]).map xC):=by rw[JI,Dv,hwc];exact hlrow1
    simp+decide only[qV];change Awp _ _ _ _ _ _ _;refine Qv [4,5,6,7,9,10] (by rfl) ?_;simp+decide only[XD,Xi,↓qc,↓qd,↓qa,hwj];try simp only[QL]
    exact⟨⟨j+1,lv1,lp1,ws++[w],_⟩,rfl,Vi _,⟨hj3,hS25b,hlrow2,hws1,hwo1⟩,by simp only;omega⟩
   ·try simp only[qG]at hb3
    have hj3:j=kc%3:=by omega
    rw[hj3]at hws;have hwi:IntKind.i64.wrap ((i:Int)+1)=((i+1:Nat):Int):=by rw[wrap_i64 (by omega) (by omega)];omega
    have hk1:IntKind.i64.wrap ((kc:Int)*31)=((kc*31:Nat):Int):=by rw[wrap_i64 (by omega) (by omega)];omega
    have hk2:IntKind.i64.wrap (7*(i:Int))=((7*i:Nat):Int):=by rw[wrap_i64 (by omega) (by omega)];omega
    have hk3:IntKind.i64.wrap (((kc*31:Nat):Int)+((7*i:Nat):Int))=((kc*31+7*i:Nat):Int):=by rw[wrap_i64 (by omega) (by omega)];omega
    have hk4:IntKind.i64.wrap (((kc*31+7*i:Nat):Int)+11)=((kc*31+7*i+11:Nat):Int):=by rw[wrap_i64 (by omega) (by omega)];omega
    have hk6:Ew ((kc*31+7*i+11:Nat):Int) 100003=((qpd kc i:Nat):Int):=tmodN _ 100003;have hk7:=wN (qpd kc i) (by have:qpd kc i<100003:=Nat.mod_lt _ (by decide);omega);have hkS:qpd kc i=kS k (i+1):=by rw[hkc];rfl
    obtain⟨z,hz⟩:∃z:ZC×AVal×AVal,z=(zK kc P2,q.2,lv):=⟨_,rfl⟩
    have hzc:zC z=[.int .u8 (KD (kc / 5)).toNat,q.2,lv, .int .u8 (KD (kc / 3)).toNat]:=by rw[hz];rfl
    refine Qk ?_;change Awp _ _ _ _ _ _ _;refine awp_rseq [4,5,6,7] (by rfl) fun K hK=>?_;simp+decide only[qV,QU,qcO,↓qh,↓qo,qf qlT,Qa ag37 qoz,Qm eb_14q0,Qm eb_21q9,Nat.reduceAdd,xB,zB,hbvl,hql,hlvl];refine qO (cs:=[.int .u8 (KD (kc / 5)).toNat,q.2,lv, .int .u8 (KD (kc / 3)).toNat]) (by kernel_rfl) fun k26q3 hk26q3=>?_;have hn_26q3:H2 k26q3=none:=by first|assumption|(simp only[Bd]at hk26q3;simp only[hk26q3])
    have hf_26q3:h k26q3=none:=Be hs_H2 hn_26q3;have ne_26q3_14q0:k26q3≠k14q0:=Bf hn_26q3 eb_14q0;have ne_26q3_21q9:k26q3≠k21q9:=Bf hn_26q3 eb_21q9;refine ZM (es:=4) (v:=bv) (p:=bp) (xs:=zs.map zC) (ys:=[[.int .u8 (KD (kc / 5)).toNat,q.2,lv, .int .u8 (KD (kc / 3)).toNat]]) (i:=3) (by rfl) (by rfl) Tryz.underlying29 Tryz.underlying29 (fun k e=>by cases e) qoz by37 ze37 (by rfl) (by decide) (by rfl) hI.brow rfl (hS2.forget (Vj hk26q3)) (by rfl) (Bz (Vh _ _ _) (fun x hx=>by rw[V4.1 hx];rfl) (by rfl) (by show(true && (q.2.live && (lv.live && (true && true))))=true;rw[hql,hlvl];rfl) (.exact 1) (KL _)) (by show(true && (q.2.scal && (lv.scal && (true && true))))=true;rw[hqs,hlvs];rfl) (by simp) (by simp only[Zn];omega) (by simp only[Zn];omega) fun bv1 bp1 h26 hbrow1 _ hS26=>?_;simp only[Xo]at hS26;simp+decide only[qV,qY,qcO,↓qh];refine qN (v:=bv1) (by rfl) (by rfl) (hS26.at_ (i:=1) rfl) sz29 hbrow1.live (by rw[hbrow1.cells];rfl) (by simp only[QF,xB];omega) (Jq _) (by rw[hbrow1.cells];simp[Qt,hbrow1.scal]) ?_;simp only[Xo,WB,hbrow1.cells,xB];have hS27:=hS26.put (i:=1) rfl (xB n pv2 bv1 false);simp only[Xo]at hS27;simp+decide only[qV];apply hK;clear hK K;refine Qv [4,5,6,7] (by rfl) ?_;simp+decide only[XD,qK,qj,XJ,qad,↓qc,↓qd,qgu,↓qa,hk1,hk2,hk3,hk4,hk6];change Awp _ _ _ _ _ _ _;refine Qv [4,5,6,7] (by rfl) ?_;simp+decide only[XD,Xi,↓qc,↓qd,↓qa,hwi];try simp only[QL]
    have hpk:=hS27.pick [4,5,6,7] (by decide) (by simp);have hsu:=Xy hpk.2;obtain⟨E2,hE2⟩:∃E2,E2=Wl ([4,5,6,7].map fun i=>([H,one k14q0 (xB n pv2 bv1 false),GP2,bp1,E1,one k19q15 (yB q),one k21q9 (zB (KD (kc / 5)) q.2 lv (KD (kc / 3))),lp]:List AHeap).getD i emp):=⟨_,rfl⟩
    rw[<-hE2]at hsu;have hE12:AM.Sub E1 E2:=hsu E1 (by simp);have hlE2:AM.Sub lp E2:=hsu lp (by simp);have hS28:=(Sep.fold (ps:=[4,5,6,7].map fun i=>([H,one k14q0 (xB n pv2 bv1 false),GP2,bp1,E1,one k19q15 (yB q),one k21q9 (zB (KD (kc / 5)) q.2 lv (KD (kc / 3))),lp]:List AHeap).getD i emp) (qs:=[H,one k14q0 (xB n pv2 bv1 false),GP2,bp1]) (hS27.pick [4,5,6,7,0,1,2,3] (by decide) (by simp))).pick [1,2,3,4,0] (by decide) (by simp);rw[<-hE2]at hS28;have hS29:AM.Sep [H,one k14q0 (xB n pv2 bv1 false),GP2,bp1,E2] _:=hS28;have hdj:disj GP2 E2:=hS29.apart (i:=2) (j:=4) rfl rfl (by decide);have hkp:Keep (Wl [GP,E]) (Wl [GP2,E2]):=keep_uniL hkeep (hEE.trans hE12) hdj;have hsub2:=Xy (ps:=[GP2,E2]) (hS29.pick [2,4] (by decide) (by simp)).2;have hP2e:(qs++[q]).map (·.1)=P2:=by rw[JI,hI.qsE,hP2,pS4,<-hkc,hq];rfl
    have hqsO:∀q'∈qs++[q],IsL w0 E2 1 q'.2 (q'.1.ops.map u8C):=fun q' hq'=>by
     rcases JV.1 hq' with y|y
     ·exact(hI.qsO q' y).mono (hEE.trans hE12)
     ·rw[V4.1 y];exact hops.mono hE12
    have hrowA:RowX 3 pv2 GP2 ((qs++[q]).map yC):=by rw[JI,Dv];exact hrow2
    have hYs:YsV w0 (Wl [GP2,E2]) pv2 P2:=⟨qs++[q],hP2e.symm,hrowA.isL (hsub2 GP2 (by simp)),fun q' hq'=>(hqsO q' hq').mono (hsub2 E2 (by simp))⟩
    have hXs:XsV w0 1 (Wl [GP2,E2]) lv ((KP (kc%3)).map (qip kc P2)):=⟨ws,hws.symm,hlrow.isL (hlE2.trans (hsub2 E2 (by simp))),fun w hw=>by
     obtain⟨a,b⟩:=hwo w hw;have hmem:w.1∈(KP (kc%3)).map (qip kc P2):=by rw[<-hws];exact List.mem_map_of_mem hw
     obtain⟨j',_,hj'⟩:=JK.1 hmem;rw[a,b,<-hj'];exact⟨hYs,zs_nil⟩⟩
    refine⟨⟨i+1,pv2,GP2,bv1,bp1,E2,qs++[q],zs++[z],_⟩,by rw[<-hkS];rfl,Vi _,⟨by simp only;omega,hS29,hrowA,by simp only;rw[hP2e,hP2],hqsO,by simp only;rw[JI,Dv,hzc];exact hbrow1,by simp only;rw[JI,hI.zsE,bS4,<-hkc,<-hP2,hz];rfl,fun z' hz'=>?_⟩,by simp only;omega⟩;rcases JV.1 hz' with y|y
    ·exact⟨(hI.zsO z' y).1.mono (hEE.trans hE12),(hI.zsO z' y).2.keep hkp⟩
    ·rw[V4.1 y,hz]
     refine⟨?_,hXs⟩;have:=hops.mono hE12;rw[hq]at this|-
     exact this
  ·try simp only[qG]at hb2
   have hi4:i=4:=by omega
   subst hi4;have hn2:Ew (n:Int) 2=((n%2:Nat):Int):=tmodN n 2;have hwn2:=wN (n%2) (by omega);have hne:decide (((n%2:Nat):Int)=0)=decide (n%2=0):=by
    by_cases e:n%2=0
    ·rw[decide_eq_true e,decide_eq_true (by omega)]
    ·rw[decide_eq_false e,decide_eq_false (by omega)]
   have hkcn:kc=kAt (n+1):=by rw[hkc,hk];rfl
   refine Qk ?_;change Awp _ _ _ _ _ _ _;refine awp_rseq [4,5,6] (by rfl) fun K hK=>?_;simp+decide only[QK,qK,qY,XA,qad,↓qc,↓qd,↓qh,fa31_3,hn2,hne];refine qN (by rfl) (by rfl) zqA sz4 (by rfl) (by rfl) zqD (Jq _) (by first|rfl|(simp+decide only[QI,BL,Yk,VN,YW,qaA,Qt,qgO])) ?_;simp only[QT,AVal.cells];simp+decide only[qV,xB,AVal.cells];apply hK;clear hK K;have hS28:=hS.put (i:=1) rfl (xB n pv bv (decide (n%2=0)));simp only[Xo]at hS28;obtain⟨H28,hH28⟩:∃H28,H28=H1.set k14q0 (xB n pv bv (decide (n%2=0))):=⟨_,rfl⟩
   rw[<-hH28]at hS28;refine BO (h':=H28) (by rw[hH28];exact Vi _) ?_;have eb_14q0:H28 k14q0=some _:=hS28.at_ (i:=1) rfl;have hs_H28:AM.Sub h H28:=hs_H.trans (hS28.in_ (i:=0) rfl);have hsG:AM.Sub GP H28:=hS28.in_ (i:=2) rfl;have hsB:AM.Sub bp H28:=hS28.in_ (i:=3) rfl;have hsE:AM.Sub E H28:=hS28.in_ (i:=4) rfl;have hsGE:AM.Sub (Wl [GP,E]) H28:=qow fun p hp=>by
    simp only[List.mem_cons,List.not_mem_nil,or_false]at hp;rcases hp with rfl|rfl
    ·exact hsG
    ·exact hsE
   have hYs:YsV w0 H28 pv (xK n k).p:=⟨qs,hI.qsE.symm,hI.row.isL hsG,fun q hq=>(hI.qsO q hq).mono hsE⟩
   have hZs:ZsV w0 (XsV w0 1 H28) H28 bv (xK n k).b:=⟨zs,hI.zsE.symm,hI.brow.isL hsB,fun z hz=>⟨(hI.zsO z hz).1.mono hsE,(hI.zsO z hz).2.mono hsGE⟩⟩
   refine awp_rseq [4,5,161] (by rfl) fun K hK=>?_;simp+decide only[qV,QJ,↓qo,Qa ag31 qng,Qm eb_14q0,Nat.reduceAdd,xB,hpvl,hbvl];refine qO (cs:=xC (xK n k,pv,bv)) (by kernel_rfl) fun k29q1 hk29q1=>?_;have hn_29q1:H28 k29q1=none:=by first|assumption|(simp only[Bd]at hk29q1;simp only[hk29q1])
   have hf_29q1:h k29q1=none:=Be hs_H28 hn_29q1;have ne_29q1_14q0:k29q1≠k14q0:=Bf hn_29q1 eb_14q0;simp+decide only[Qe,QW,Zo,XM,↓qc,↓ZZ _ _ _ (Uo Tryz.underlying3 Tryz.underlying5),ZA Tryz.underlying3 Tryz.underlying5,↓XO,↓QN,bld31_0,xC,qcY];refine qO (cs:=xC (mK kc, .nilSlice, .nilSlice)) (by kernel_rfl) fun k29q5 hk29q5=>?_;have ne_29q5_29q1:k29q5≠k29q1:=by simp only[Bd]at hk29q5;simp only[Yv,hk29q5]
   have hn_29q5:H28 k29q5=none:=by first|assumption|(simp only[Bd]at hk29q5;simp only[hk29q5])
   have hf_29q5:h k29q5=none:=Be hs_H28 hn_29q5;have ne_29q5_14q0:k29q5≠k14q0:=Bf hn_29q5 eb_14q0;refine qE (by rfl) (by rfl) (qsY w0 hm ha _ (.slice (.own k29q1) 0 1 (.exact 1)) [xK n k] 2 (xs_one (d:=1) ((AHeap.set_ne _ _ (fun e=>by subst e;rw[Vh]at hk29q5;cases hk29q5)).trans (Vh _ _ _)) (hYs.mono zqB) (hZs.mono zqB fun _ _ y=>y.mono zqB)) (.slice (.own k29q5) 0 1 (.exact 1)) [mK kc] 1 (xs_one (d:=0) (Vh _ _ _) ys_nil zs_nil) (by rw[hk,hkcn];exact hcase)) fun x29q6 h29q6 hx29q6=>?_;obtain⟨rfl,hs29⟩:=hx29q6;have hs_h29q6:Sub h h29q6:=Br zqC hs29;have hr_h29q6:Sub H28 h29q6:=Br zqC hs29;have eb_29q1:=hs29 k29q1 _ zqA;have eb_29q5:=hs29 k29q5 _ zqA;have eb_14q0:=hs29 k14q0 _ zqA;simp+decide only[qV,YF,Zf,↓qdf];apply hK;clear hK K;refine qz (b:=_) rfl (fun hb4=>?_) (fun hb4=>?_)
   ·cases hb4
   ·try simp only[qG]at hb4
    refine qF ?_;change Awp _ _ _ _ _ _ _;refine Qv [4,5] (by rfl) ?_;simp+decide only[XD,Xi,↓qc,↓qd,↓qa,hwn];try simp only[QL]
    exact⟨⟨n+1,h29q6⟩,by rw[<-hkcn];rfl,Vi _,⟨by simp only;omega,hs_h29q6⟩,by simp only;omega⟩
 ·try simp only[qG]at hb1
  refine Qk ?_;change Awp _ _ _ _ _ _ _;refine Awp.keep [] ?_;exact l_Known3 w0 hm ha h H hs_H
end Go.Proofs.YtgiadjbiimkbiaaGreatDoor
namespace Go.Stm
open Go.Col (Str FaultC okF)
open Go.Tok
set_option maxRecDepth 100000
theorem verbs_pre:((KP 39).all fun i=>(verbsL.getD i []++[58]).isPrefixOf (rowsT.getD i []) && decide ((verbsL.getD i []).length<=100))=true:=by decide+kernel
theorem verbs_ord:((KP 39).all fun i=>decide (i=0)|| !(Go.Op.bytesLess (verbsL.getD i []) (verbsL.getD (i-1) [])||decide (verbsL.getD i []=verbsL.getD (i-1) [])))=true:=by decide+kernel
end Go.Stm
namespace Go.Proofs.YtgiadjbiimkbiaaGreatDoor
open Go.AM
open Go.Proofs
open Go.Col (Str FaultC okF)
open Go.Tok (TokC)
open Go.Stm
open Go.RowKit (Below)
set_option maxRecDepth 100000
set_option maxHeartbeats 32000000 in
theorem l_Known1(w0:World)(hm:MaxL w0)(ha:Asp w0)(h:AHeap):
 ACall Tryz.prog w0 3 [] h (fun r h'=>r= .bool true/\AM.Sub h h'):=by
 obtain⟨V,hV⟩:∃V,V=verbsL:=⟨_,rfl⟩
 have hVl:V.length=39:=by rw[hV];exact qjV
 obtain⟨T,hT⟩:∃T,T=rowsT:=⟨_,rfl⟩
 have hTl:T.length=39:=by rw[hT];exact qfC
 refine qR (n:=206) (rs:=[.tmp 0]) Tryz.func3 rfl rfl rfl rfl (Nat.le_of_ble_eq_true rfl) ?_;simp only[qU];refine awp_rseq [] (by rfl) fun K hK=>?_;simp+decide only[qP,↓qa];apply hK;clear hK K;refine awp_rseq [1] (by rfl) fun K hK=>?_;refine qE (by rfl) (by rfl) (c_Verbs w0 ha _) fun x1q0 h1q0 hx1q0=>?_;obtain⟨kv,hkv,rfl,e1⟩:=hx1q0;rw[<-hV]at e1;have hs1:AM.Sub h h1q0:=by rw[e1];exact Vj hkv
 have ebv1:h1q0 kv=some ⟨V.map AVal.str,0⟩:=by rw[e1];exact Vh _ _ _
 have nv:=WC (Uv (w0:=w0) ebv1);rw[hVl]at nv;have hs_h1q0:Sub h h1q0:=Br zqC hs1;have hr_h1q0:=hs_h1q0;simp+decide only[qP,↓qa];apply hK;clear hK K;refine awp_rseq [1,2] (by rfl) fun K hK=>?_;refine qE (by rfl) (by rfl) (qsW w0 _) fun x2q0 h2q0 hx2q0=>?_;obtain⟨kr,hkr,rfl,e2⟩:=hx2q0;rw[<-hT]at e2;have hs2:AM.Sub h1q0 h2q0:=by rw[e2];exact Vj hkr
 have ebr2:h2q0 kr=some ⟨T.map AVal.str,0⟩:=by rw[e2];exact Vh _ _ _
 have nr:=WC (Uv (w0:=w0) ebr2);rw[hTl]at nr;have ebv1b:h2q0 kv=some ⟨V.map AVal.str,0⟩:=hs2 _ _ ebv1;have hs_h2q0:Sub h h2q0:=Br zqC hs2;have hr_h2q0:Sub h1q0 h2q0:=Br zqC hs2;simp+decide only[qP,↓qa];apply hK;clear hK K;refine qi ?_;refine awp_rseq [1,2,23] (by rfl) fun K hK=>?_;simp+decide only[QK,qj,Qh,WY,↓qc,↓Qi,QV Tryz.underlying22,↓qd];apply hK;clear hK K;refine qz (b:=_) rfl (fun hb1=>?_) (fun hb1=>?_)
 ·cases hb1
 ·try simp only[qG]at hb1
  refine qF ?_;change Awp _ _ _ _ _ _ _;refine qi ?_;refine awp_rseq [1,2,3] (by rfl) fun K hK=>?_;simp+decide only[qP,↓qa];apply hK;clear hK K;refine qI ?_;refine Qj [1,2,3] (fun g:PdG=>[(1, .slice (.own kv) 0 39 (.exact 39)),(2, .slice (.own kr) 0 39 (.exact 39)),(3, .int .i64 g.i)]) (fun g:PdG=>g.H) (fun g:PdG=>g.i<=39/\AM.Sub h2q0 g.H) (fun g:PdG=>39-g.i) ⟨0,h2q0⟩ (by rfl) (Vi _) ⟨Jq _,Vi _⟩ ?_;rintro⟨i,H⟩ ⟨hi,hs_2⟩;simp only at hi hs_2|-
  have hs_H:AM.Sub h H:=hs1.trans (hs2.trans hs_2);have eb_v:H kv=some ⟨V.map AVal.str,0⟩:=hs_2 _ _ ebv1b;have eb_r:H kr=some ⟨T.map AVal.str,0⟩:=hs_2 _ _ ebr2;refine qi ?_;refine awp_rseq [1,2,3,27] (by rfl) fun K hK=>?_;simp+decide only[QK,qj,Qh,QY,↓qc,↓Qi,QV Tryz.underlying22,↓qd];apply hK;clear hK K;refine qz (b:=_) rfl (fun hb2=>?_) (fun hb2=>?_)
  ·try simp only[qG]at hb2
   have hi':i<39:=by omega
   have hi39:((i:Int)<39)=True:=eq_true (by omega);have er:∀G:AHeap,AM.Sub H G->rd w0 G (.own kr) i= .str (T.getD i []):=fun G hG=>qaw (hG _ _ eb_r) (by omega);have evv:∀G:AHeap,AM.Sub H G->rd w0 G (.own kv) i= .str (V.getD i []):=fun G hG=>qaw (hG _ _ eb_v) (by omega);have er0:=er H (Vi _);have ev0:=evv H (Vi _);have hp:=Jz.1 verbs_pre i (JA.2 hi');rw[<-hV,<-hT,Bool.and_eq_true,decide_eq_true_eq]at hp;obtain⟨hp1,hp2⟩:=hp;have hlen:((V.getD i []).length+[(58:UInt8)].length<9223372036854775808)=True:=eq_true (by simp only[QF];omega);have ho:=Jz.1 verbs_ord i (JA.2 hi');rw[<-hV]at ho;have hw64:IntKind.u64.wrap (i:Int)=(i:Int):=by unfold IntKind.wrap;simp[IntKind.bits,IntKind.signed];omega
   have hm64:IntKind.u64.wrap ((i:Int)*1234567)=((i*1234567:Nat):Int):=by unfold IntKind.wrap;simp[IntKind.bits,IntKind.signed];omega
   have hwi:IntKind.i64.wrap ((i:Int)+1)=((i+1:Nat):Int):=by rw[wrap_i64 (by omega) (by omega)];omega
   refine qF ?_;change Awp _ _ _ _ _ _ _;refine qi ?_;refine qI ?_;have y0:(decide ((0:Int)<(i:Int))=false/\True/\True/\True/\True)\/(decide ((0:Int)<(i:Int))=true/\IntKind.i64.wrap ((i:Int)-1)=((i-1:Nat):Int)/\(((i-1:Nat):Int)<39)=True/\rd w0 H (.own kv) (i-1)= .str (V.getD (i-1) [])/\(Go.Op.bytesLess (V.getD i []) (V.getD (i-1) [])||decide (V.getD i []=V.getD (i-1) []))=false):=by
    by_cases y1:i=0
    ·exact .inl ⟨decide_eq_false (by omega),trivial,trivial,trivial,trivial⟩
    ·refine .inr ⟨decide_eq_true (by omega),by rw[wrap_i64 (by omega) (by omega)];omega,eq_true (by omega),qaw eb_v (by omega),?_⟩
     rw[decide_eq_false y1]at ho;simpa using ho
   rcases y0 with⟨y1,y2,y3,y4,y5⟩|⟨y1,y2,y3,y4,y5⟩
   all_goals
    refine qli [0,1,2,3,4,5,6,7,8,9,10,11,12,13,14,15,16,17,18,19,20,21,22,23,24,25,26,27,28,29,30,31,32,33,34,35,36,37,38,39,40,41,42,43] [none,none,none,none,none,none,none,none,none,none,some 9,some 10,some 11,some 12,some 13,some 14,some 14,some 15,some 17,some 14,some 14,some 20,some 19,some 22,some 18,some 14,some 11,some 26,some 27,some 28,some 27,some 30,some 29,some 32,some 33,some 34,some 35,some 36,some 35,some 38,some 39,some 37,some 41,some 42] 44 [1,2,3,73] mixed (by kernel_rfl) (by rfl) fun K hK=>?_;simp only[List.getElem?_cons_zero,List.filterMap_cons,List.filterMap_nil,List.getElem?_cons_succ,YB];simp+decide only[Xj,QJ,VD,ZE,ZO,Nat.mul_one,Wi,qfK,qff,↓qc,↓qJ,qg Tryz.underlying22 sz9,↓qo,qf ag9,↓qd,er0,ev0,hlen];repeat (with_reducible refine zqP ?_)
    refine QC (V:= .bool true) (by rfl) (by rfl) (by rw[<-hp1];exact c_prefK w0 _ _ _) ?_;rw[QB];refine And.intro (by first|exact Vi _|assumption|exact Vj (by assumption)) ?_;simp+decide only[Xk,QJ,qK,VD,qj,XL,Qs,QS,Ze,Zt,Nat.mul_one,YG,YF,Zf,WW,XM,Wi,↓qdf,↓Qy,↓Qn,↓Zb,qg Tryz.underlying22 sz9,↓Xv,qf ag9,pS_leq,↓UE,↓Qd,↓qlo _ _ _ (Uo Tryz.underlying3 Tryz.underlying5),ZA Tryz.underlying3 Tryz.underlying5,ev0,y1,y2,y4,y5,qcY];repeat (with_reducible refine zqP ?_)
    refine Xl (by rfl) ?_;refine qE (by rfl) (by rfl) (l_Faults1 w0 hm ha _ (KD i) (KD i)) fun x8q32 h8q32 hx8q32=>?_;obtain⟨rfl,hs8⟩:=hx8q32;have hs_h8q32:Sub h h8q32:=Br zqC hs8;have hr_h8q32:Sub H h8q32:=Br zqC hs8;rw[QB];refine And.intro (by first|exact Vi _|assumption|exact Vj (by assumption)) ?_;simp+decide only[Xk,qK,VD,XL,QS,YF,Zf,XM,Wi,↓Uc,ZA Tryz.underlying3 Tryz.underlying5,↓qlo _ _ _ (Uo Tryz.underlying3 Tryz.underlying27),ZA Tryz.underlying3 Tryz.underlying27,qgu,qcY,hw64,hm64];refine Xl (by rfl) ?_;refine qE (by rfl) (by rfl) (l_Nest1 w0 hm ha _ (KD i) (i*1234567) (by omega)) fun x8q41 h8q41 hx8q41=>?_;obtain⟨rfl,hs8b⟩:=hx8q41;have hs_h8q41:Sub h h8q41:=Br zqC hs8b;have hr_h8q41:Sub h8q32 h8q41:=Br zqC hs8b;rw[QB];refine And.intro (by first|exact Vi _|assumption|exact Vj (by assumption)) ?_;simp+decide only[qV,XF,VD,XL,YF];apply hK;clear hK K;refine qz (b:=_) rfl (fun hb3=>?_) (fun hb3=>?_)
    ·cases hb3
    ·try simp only[qG]at hb3
     refine qF ?_;change Awp _ _ _ _ _ _ _;refine Qv [1,2,3] (by rfl) ?_;simp+decide only[XD,Xi,↓qc,↓qd,↓qa,hwi];try simp only[QL]
     exact⟨⟨i+1,_⟩,rfl,Vi _,⟨by simp only;omega,hs_2.trans (hs8.trans hs8b)⟩,by simp only;omega⟩
  ·try simp only[qG]at hb2
   refine Qk ?_;change Awp _ _ _ _ _ _ _;refine Awp.keep [] ?_;exact l_Known2 w0 hm ha h H hs_H
theorem l_StatementsKnown(w0:World)(hm:MaxL w0)(ha:Asp w0)(h:AHeap):
 ACall Tryz.prog w0 3 [] h (fun r _=>r= .bool true):=(l_Known1 w0 hm ha h).mono fun _ _ z=>z.1
end Go.Proofs.YtgiadjbiimkbiaaGreatDoor
namespace Go.Proofs.YtgiadjbiimkbiaaGreatDoor
open Go.AM
open Go.ChangeShapes Go.WideShapes Go.ChangeAt Go.RowKit
set_option maxRecDepth 100000
section
variable {H:Type} {enc:TypeId×Value->H} {W:World} {base:Nat} {v:Value} {x:DataW H×List MemPlace}
end
theorem returns_and_shaped{H:Type}{enc:TypeId×Value->H}{a:Assume}{C:Checked}{os:Os}{f:FuncId}{fn:Func}{s:ChangeSpec}{conds:List PathCond}{apart fresh handsOn again:Bool}{X:World->Array Value->Prop}
 (hX:∀(w w':World) (args:Array Value),w.heap=w'.heap->X w args->X w' args)
 (own:ownKnob C.prog.godebug=none) (started:os.Started) (noInit:C.prog.inits.idxOf? f=none) (hfn:C.prog.funcs[f]?=some fn)
 (witness:∃(w:World) (tape:Tape) (i:Input),w.os=os/\(w.forCall tape i).Shaped C.prog/\i.vars=[]/\Input.okWide C.prog (w.forCall tape i) .any w.heap.size f i/\
   ((s.pre enc C.prog fn conds apart (w.forCall tape i).memory i.args/\X (w.forCall tape i).memory i.args)/\sizedMet enc C.prog fn (OpenSpec.ofChange s) apart (w.forCall tape i).memory i.args)/\a.holds C.prog (lone (Frame.enter C.prog f i.args .normal) [] (w.forCall tape i)))
 (contract:∀(W:World) (base:Nat) (args:Array Value) (ds gs:List (DataW H)) (before:List MemPlace),W.ShapedOpen C.prog->
   (∀(j:Nat) t v,fn.params[j]?=some t->args[j]?=some v->Value.okWide C.prog W .any base t v)->
   DataW.Whole enc C.prog fn.params.toList s.vars apart W args.toList ds gs before->
   conds.all (PathCond.test C.prog ⟨fn.params.toList,ds,s.plain.varTypes C.prog,gs⟩)=true->
   (DataW.weightsEach C.prog (fn.params.toList++s.plain.varTypes C.prog) (ds++gs)).all (· <=reachBytes)=true->X W args->
   a.holds C.prog (lone (Frame.enter C.prog f args .normal) [] W)->
   Calls C.prog f args W fun e W'=>∃v,e= .returned v/\s.post enc C.prog fn apart fresh handsOn again W args v W'):
 ReturnsInHanded a C os f .any (fun w args=>(s.pre enc C.prog fn conds apart w args/\X w args)/\sizedMet enc C.prog fn (OpenSpec.ofChange s) apart w args) (s.post enc C.prog fn apart fresh handsOn again):=by
 refine returnsInHanded_of_calls own started noInit witness ?_;intro w tape i _ hsh _ hok hpre hholds;obtain⟨_,_,_,fn',hfn',_,_,_,_,hval⟩:=hok;have e:fn'=fn:=Option.some.inj (hfn'.symm.trans hfn);subst e;obtain⟨⟨⟨ds,gs,before,hw,hc⟩,hx⟩,hz⟩:=hpre;have hw':=DataW.Whole.of_heap (w':=w.forCall tape i) (by rfl) hw;refine(contract (w.forCall tape i) w.heap.size i.args ds gs before hsh hval hw' hc (hz.weights hw) (hX _ _ _ (by rfl) hx) hholds).mono fun e W' ⟨v,he,hp⟩=>?_;subst he;exact ChangeSpec.post_blind hp
theorem maxl_of{W:World}(h:W.ShapedOpen Tryz.prog):MaxL W:=
 cell_of_shapedOpen_int (t:=3) (zero:= #[.int .i64 0]) h (of_decide_eq_true (by kernel_rfl)) (by kernel_rfl) rfl (by kernel_rfl) (by kernel_rfl) Tryz.underlying3
theorem asp_of{W:World}{rest:List (String×DataW Unit)}(h:laidMet Tryz.prog (("strings.asciiSpace",Rows.laid_strings_asciiSpace)::rest) W):Asp W:=
 Lib.tabIs_of_head (g:=0) (by kernel_rfl) (by kernel_rfl) (show Tryz.prog.underlying 121=_ from Tryz.underlying121) Tryz.underlying5 (by kernel_rfl) (by kernel_rfl) h
end Go.Proofs.YtgiadjbiimkbiaaGreatDoor
